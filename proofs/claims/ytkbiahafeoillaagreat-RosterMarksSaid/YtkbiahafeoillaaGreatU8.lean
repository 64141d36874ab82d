/- The law RosterMarks. Part 8 of 20. -/
import Derived.Test.YtkbiahafeoillaaGreatU7
namespace Go.Proofs.E
open Go
set_option linter.unusedVariables false
set_option linter.unusedSimpArgs false
set_option linter.unusedSectionVars false
set_option maxRecDepth 4000
set_option maxHeartbeats 1000000
attribute [local irreducible] Yl TL TC TE Spec Wh R1 Hp.le EnvLe TS TR YS Zq
theorem idxL_spec (ρ : Hp) (a : Option Addr) (n c : Nat) (l : List Lf) (h : AIn ρ 2 lfV a n l) (hn : n ≤ 200000000000000) (F : Nat) [hF : Fun Tryz.prog F] (cs : List Value) (X : SH) (pp : Lf → Bool)
  (hp : ∀ x ∈ l, Spec Tryz.prog F (.agg ⟨lfV x⟩ :: cs) ρ X (fun z ρ' L' => z = .bool (pp x) ∧ ρ' = ρ ∧ L' = X)) :
  Spec Tryz.prog 201 [.slice a n c, .func (.func F) ⟨[]⟩ ⟨cs⟩] ρ X (fun z ρ' L' => z = .int .i64 (YV pp l) ∧ ρ' = ρ ∧ L' = X) := by
 have hl := h.len
 refine Zg Tryz.func201 rfl rfl rfl fun u R => ?_
 simp only [Zx, List.cons_append, List.nil_append]
 repeat' (first | (refine ZE ?_; refine Zn (Zd rfl) rfl rfl ?_) | (refine Zj ?_; first | (refine Zf ?_; refine qQ ?_) | refine Zm ?_) | refine Za ?_ | (refine Zi ?_; refine Zt ?_) | (refine Zh ?_; refine Zs ?_) | intro _)
 refine ZG [(0, _), (1, _), (7, _)] (fun (ζ : (Nat)) => [(8, .int .i64 ζ), (4, .int .i64 0)]) (fun (ζ : (Nat)) => ρ) (fun (ζ : (Nat)) => X) (fun (ζ : (Nat)) => ζ ≤ n ∧ ∀ x ∈ l.take ζ, pp x = false) (fun (ζ : (Nat)) => n - ζ) (0) (⟨Nat.zero_le _, by simp⟩) Zo Zo rfl tk ?_
 rintro k hI
 try simp only [List.cons_append, List.nil_append, List.append_assoc, List.append_eq] at hI ⊢
 try dsimp only at hI ⊢
 obtain ⟨hk, hok⟩ := hI
 by_cases hlt : k < n
 ·obtain ⟨b, off, C, T, fr, rfl, hb, hfit, hc⟩ := h.get (show k < l.length by omega)
  have hf := fun (e : pp l[k] = true) => Wb (p := pp) (show k < l.length by omega) e hok
  have ht := fun (e : pp l[k] = false) => take_more (p := fun x => pp x = false) (show k < l.length by omega) e hok
  have hp0 := hp _ (List.getElem_mem (show k < l.length by omega))
  cases hx : pp l[k]
  ·have hok2 := ht hx
   rw [hx] at hp0
   generalize l[k] = x at *
   repeat' (first | (refine Ze (.tmp 11) ?_; refine qC rfl rfl (hp0) ?_; rintro v ρ' L' hle ⟨rfl, rfl, rfl⟩ <;> (try simp only [kM, kN, kO])) | (refine ZE ?_; refine Zn (Zd rfl) rfl rfl ?_) | (refine Zj ?_; first | (refine Zf ?_; refine qQ ?_) | refine Zm ?_) | refine Za ?_ | (refine Zi ?_; refine Zt ?_) | (refine Zh ?_; refine Zs ?_) | intro _)
   refine Zr (k + 1) (⟨hlt, hok2⟩) Zo Zo rfl tk inferInstance (by first | omega | (dsimp only; omega))
  ·have e := hf hx
   rw [hx] at hp0
   have e2 : YV pp l = (k : Int) := by unfold YV; rw [e]
   rw [e2]
   generalize l[k] = x at *
   repeat' (first | (refine Ze (.tmp 11) ?_; refine qC rfl rfl (hp0) ?_; rintro v ρ' L' hle ⟨rfl, rfl, rfl⟩ <;> (try simp only [kM, kN, kO])) | (refine ZE ?_; refine Zn (Zd rfl) rfl rfl ?_) | (refine Zj ?_; first | (refine Zf ?_; refine qQ ?_) | refine Zm ?_) | refine Za ?_ | (refine Zi ?_; refine Zt ?_) | (refine Zh ?_; refine Zs ?_) | intro _)
   exact qE (L' := _) ⟨rfl, rfl, rfl⟩
 ·have hk2 : k = l.length := by omega
  rw [hk2, List.take_length] at hok
  have e2 : YV pp l = -1 := by unfold YV; rw [idx_none hok]
  rw [e2]
  repeat' (first | (refine ZE ?_; refine Zn (Zd rfl) rfl rfl ?_) | (refine Zj ?_; first | (refine Zf ?_; refine qQ ?_) | refine Zm ?_) | refine Za ?_ | (refine Zi ?_; refine Zt ?_) | (refine Zh ?_; refine Zs ?_) | intro _)
  exact qE (L' := _) ⟨rfl, rfl, rfl⟩
theorem delL_spec (ρ : Hp) (v : Value) (sp : List Value) (l : List Lf) (hl : l.length ≤ 200000000000000) (hown : OwnS v l.length ((l.map lfV).flatten) sp 2) (F : Nat) [hF : Fun Tryz.prog F] (cs : List Value) (X : SH) (pp : Lf → Bool)
  (hp : ∀ ρ1, ρ.le ρ1 → ∀ x ∈ l, Spec Tryz.prog F (.agg ⟨lfV x⟩ :: cs) ρ1 X (fun z ρ' L' => z = .bool (pp x) ∧ ρ' = ρ1 ∧ L' = X)) :
  Spec Tryz.prog 178 [v, .func (.func F) ⟨[]⟩ ⟨cs⟩] ρ (ZZ v ((l.map lfV).flatten) sp 108 :: X)
   (fun z ρ' L' => ρ' = ρ ∧ ∃ sp', OwnS z (l.filter (fun x => !pp x)).length (((l.filter (fun x => !pp x)).map lfV).flatten) sp' 2 ∧ L' = ZZ z (((l.filter (fun x => !pp x)).map lfV).flatten) sp' 108 :: X) := by
 have hidx : Spec Tryz.prog 201 [v, .func (.func F) ⟨[]⟩ ⟨cs⟩] ρ ([ZZ v ((l.map lfV).flatten) sp 108] ++ X) (fun z ρ' L' => z = .int .i64 (YV pp l) ∧ ρ' = ρ ∧ L' = ZZ v ((l.map lfV).flatten) sp 108 :: X) := by
  refine (Spec.thaw (C := [ZZ v ((l.map lfV).flatten) sp 108]) (L := X) (Post := fun z L' => z = .int .i64 (YV pp l) ∧ L' = X) (fun ρ1 hle hf => ?_)).mono ?_
  ·obtain ⟨a, c, rfl, hc, hA⟩ := hown.aIn rfl (fun x _ => rfl) (by simpa using hf)
   exact (idxL_spec ρ1 a l.length c l hA hl F cs X pp (hp ρ1 hle)).mono (fun z ρ' L' _ h => ⟨h.2.1, h.1, h.2.2⟩)
  ·rintro z ρ' L' _ ⟨rfl, L2, ⟨rfl, rfl⟩, rfl⟩
   exact ⟨rfl, rfl, rfl⟩
 rcases hown.out with ⟨rfl, h0, h1, rfl⟩ | ⟨b, cap, rfl, h1, h2, h3⟩
 ·have hl0 : l = [] := List.eq_nil_of_length_eq_zero h0
  subst hl0
  have e : YV pp [] = -1 := rfl
  rw [e] at hidx
  refine Zg Tryz.func178 rfl rfl rfl fun u R => ?_
  simp only [Zx, List.cons_append, List.nil_append] at hidx ⊢
  repeat' (first | (refine Ze (.func 201) ?_; refine qC rfl rfl (hidx) ?_; rintro v ρ' L' hle ⟨rfl, rfl, rfl⟩ <;> (try simp only [kM, kN, kO])) | (refine ZE ?_; refine Zn (Zd rfl) rfl rfl ?_) | (refine Zj ?_; first | (refine Zf ?_; refine qQ ?_) | refine Zm ?_) | refine Za ?_ | (refine Zi ?_; refine Zt ?_) | (refine Zh ?_; refine Zs ?_) | intro _)
  exact qE (L' := [] :: X) ⟨rfl, [], OwnS.nil 2, rfl⟩
 ·by_cases hall : ∀ x ∈ l, pp x = false
  ·have e : YV pp l = -1 := by unfold YV; rw [idx_none hall]
   have hfl : l.filter (fun x => !pp x) = l := List.filter_eq_self.2 (fun x hx => by rw [hall x hx]; rfl)
   rw [e] at hidx
   rw [hfl]
   refine Zg Tryz.func178 rfl rfl rfl fun u R => ?_
   simp only [Zx, List.cons_append, List.nil_append] at hidx ⊢
   repeat' (first | (refine Ze (.func 201) ?_; refine qC rfl rfl (hidx) ?_; rintro v ρ' L' hle ⟨rfl, rfl, rfl⟩ <;> (try simp only [kM, kN, kO])) | (refine ZE ?_; refine Zn (Zd rfl) rfl rfl ?_) | (refine Zj ?_; first | (refine Zf ?_; refine qQ ?_) | refine Zm ?_) | refine Za ?_ | (refine Zi ?_; refine Zt ?_) | (refine Zh ?_; refine Zs ?_) | intro _)
   exact qE (L' := ZZ (.slice (some ⟨b, 0, none⟩) l.length cap) ((l.map lfV).flatten) sp 108 :: X) ⟨rfl, sp, hown, rfl⟩
  ·obtain ⟨i, hi, hpi, hbef⟩ : ∃ i, ∃ h : i < l.length, pp l[i] = true ∧ ∀ x ∈ l.take i, pp x = false := by
    cases hf : l.findIdx? pp with
    | none => exact absurd (fun x hx => by have := List.findIdx?_eq_none_iff.1 hf x hx; exact this) hall
    | some i =>
     obtain ⟨h1, h2, h3⟩ := List.findIdx?_eq_some_iff_getElem.1 hf
     refine ⟨i, h1, h2, fun x hx => ?_⟩
     obtain ⟨j, hj, rfl⟩ := List.mem_take_iff_getElem.1 hx
     have := h3 j (by omega)
     simpa using this
   have e : YV pp l = (i : Int) := by unfold YV; rw [Wb (p := pp) hi hpi hbef]
   have hK0 : (l.take i).filter (fun x => !pp x) = l.take i := List.filter_eq_self.2 (fun x hx => by rw [hbef x hx]; rfl)
   have hK1 : (l.take (i + 1)).filter (fun x => !pp x) = l.take i := by
    rw [List.take_succ_eq_append_getElem hi, List.filter_append, hK0, List.filter_cons, if_neg (by simp [hpi])]; simp
   have hfl : ∀ m : List Lf, ((m.map lfV).flatten).length = m.length * 2 := fun m => flatN_len lfV_len m
   have hC : ∀ xs sp, ZZ (.slice (some ⟨b, 0, none⟩) l.length cap) xs sp 108 = [(b, .cells ⟨xs ++ sp⟩ 108 (0, 0))] := fun _ _ => rfl
   have hsplit : (l.map lfV).flatten ++ sp = ((l.take i).map lfV).flatten ++ (lfV l[i] ++ (((l.drop (i + 1)).map lfV).flatten ++ sp)) := by
    have : l = l.take i ++ l[i] :: l.drop (i + 1) := by rw [← List.drop_eq_getElem_cons hi, List.take_append_drop]
    have h2 : ∀ (A : List Lf) (x : Lf) (B : List Lf), ((A ++ x :: B).map lfV).flatten ++ sp = (A.map lfV).flatten ++ (lfV x ++ ((B.map lfV).flatten ++ sp)) := fun A x B => by simp
    exact (congrArg (fun l => (l.map lfV).flatten ++ sp) this).trans (h2 _ _ _)
   rw [hC, e] at hidx
   rw [hC]
   refine Zg Tryz.func178 rfl rfl rfl fun u R => ?_
   simp only [Zx, List.cons_append, List.nil_append] at hidx ⊢
   repeat' (first | (refine Ze (.func 201) ?_; refine qC rfl rfl (hidx) ?_; rintro v ρ' L' hle ⟨rfl, rfl, rfl⟩ <;> (try simp only [kM, kN, kO])) | (refine ZE ?_; refine Zn (Zd rfl) rfl rfl ?_) | (refine Zj ?_; first | (refine Zf ?_; refine qQ ?_) | refine Zm ?_) | refine Za ?_ | (refine Zi ?_; refine Zt ?_) | (refine Zh ?_; refine Zs ?_) | intro _)
   rw [hsplit]
   refine ZG [(0, _), (1, _), (4, _)] (fun (ζ : (Nat) × (Nat) × (List Lf) × (List Value)) => [(5, .int .i64 ζ.2.1), (6, .int .i64 ζ.1)]) (fun (ζ : (Nat) × (Nat) × (List Lf) × (List Value)) => ρ') (fun (ζ : (Nat) × (Nat) × (List Lf) × (List Value)) => [(b, .cells ⟨(ζ.2.2.1.map lfV).flatten ++ (ζ.2.2.2 ++ (((l.drop ζ.1).map lfV).flatten ++ sp))⟩ 108 (0, 0))] :: X) (fun (ζ : (Nat) × (Nat) × (List Lf) × (List Value)) => ζ.1 ≤ l.length ∧ ζ.2.1 = ζ.2.2.1.length ∧ ζ.2.2.1 = (l.take ζ.1).filter (fun x => !pp x) ∧ ζ.2.2.1.length < ζ.1 ∧ ζ.2.2.2.length = (ζ.1 - ζ.2.2.1.length) * 2) (fun (ζ : (Nat) × (Nat) × (List Lf) × (List Value)) => l.length - ζ.1) ((i + 1, i, l.take i, lfV l[i])) (⟨hi, by simp; omega, hK1.symm, by simp; omega, by simp; omega⟩) Zo Zo rfl tk ?_
   rintro ⟨j, kl, K, M⟩ hI
   try simp only [List.cons_append, List.nil_append, List.append_assoc, List.append_eq] at hI ⊢
   try dsimp only at hI ⊢
   obtain ⟨hj, rfl, hK, hKj, hM⟩ := hI
   have hKl := hfl K
   by_cases hlt : j < l.length
   ·have hd := List.drop_eq_getElem_cons hlt
    have hx1 : (l.take (j + 1)).filter (fun x => !pp x) = K ++ (if pp l[j] then [] else [l[j]]) := by
     rw [List.take_succ_eq_append_getElem hlt, List.filter_append, ← hK, List.filter_cons]
     cases pp l[j] <;> simp
    have hp0 := hp ρ' (Hp.le_refl ρ') _ (List.getElem_mem hlt)
    rw [hd]
    generalize l[j] = x at *
    obtain ⟨M1, M2, rfl, hM1⟩ : ∃ M1 M2 : List Value, M = M1 ++ M2 ∧ M1.length = 2 := ⟨M.take 2, M.drop 2, (List.take_append_drop _ _).symm, by rw [List.length_take]; omega⟩
    simp only [List.map_cons, List.flatten_cons, List.append_assoc]
    have hM2 : M2.length = (j - K.length) * 2 - 2 := by rw [List.length_append] at hM; omega
    have hcell : ((K.map lfV).flatten ++ (M1 ++ (M2 ++ (lfV x ++ (((l.drop (j + 1)).map lfV).flatten ++ sp))))).drop (0 + j * 2) = lfV x ++ (((l.drop (j + 1)).map lfV).flatten ++ sp) := by
     rw [← List.append_assoc M1, ← List.append_assoc]
     refine List.drop_left' ?_
     simp only [List.length_append, hKl]; omega
    have hcc : (((K.map lfV).flatten ++ (M1 ++ (M2 ++ (lfV x ++ (((l.drop (j + 1)).map lfV).flatten ++ sp))))).drop (0 + j * 2)).take 2 = lfV x := by rw [hcell]; rfl
    have hfit : 0 + j * 2 + 2 ≤ ((K.map lfV).flatten ++ (M1 ++ (M2 ++ (lfV x ++ (((l.drop (j + 1)).map lfV).flatten ++ sp))))).length := by
     have := congrArg List.length hcell
     simp only [List.length_drop, List.length_append, show (lfV x).length = 2 from rfl] at this ⊢
     omega
    have hPl : ((K.map lfV).flatten).length = 0 + K.length * 2 := by rw [hKl]; omega
    cases hpx : pp x
    ·rw [hpx] at hp0 hx1
     have hre : (K.map lfV).flatten ++ (lfV x ++ (M2 ++ (lfV x ++ (((l.drop (j + 1)).map lfV).flatten ++ sp)))) = ((K ++ [x]).map lfV).flatten ++ ((M2 ++ lfV x) ++ (((l.drop (j + 1)).map lfV).flatten ++ sp)) := by simp
     (try simp only [kM, kN, kO] at hre)
     repeat' (first | (refine Ze (.tmp 26) ?_; refine qC rfl rfl (hp0) ?_; rintro v ρ' L' hle ⟨rfl, rfl, rfl⟩ <;> (try simp only [kM, kN, kO])) | (refine tl_store_midA (P := _) (l := M1) rfl rfl hPl hM1 rfl rfl ?_) | (refine ZE ?_; refine Zn (Zd rfl) rfl rfl ?_) | (refine Zj ?_; first | (refine Zf ?_; refine qQ ?_) | refine Zm ?_) | refine Za ?_ | (refine Zi ?_; refine Zt ?_) | (refine Zh ?_; refine Zs ?_) | intro _)
     (try simp only [kM, kN, kO])
     rw [hre]
     have hKn : (K ++ [x]).length = K.length + 1 := by simp
     rw [show ((K.length : Int) + 1) = (((K ++ [x]).length : Nat) : Int) by rw [hKn]; omega]
     refine Zr (j + 1, (K ++ [x]).length, K ++ [x], M2 ++ lfV x) (⟨hlt, rfl, by rw [hx1]; rfl, by dsimp only; omega, by simp only [List.length_append, List.length_singleton, show (lfV x).length = 2 from rfl]; omega⟩) Zo Zo rfl tk inferInstance (by first | omega | (dsimp only; omega))
    ·rw [hpx] at hp0 hx1
     have hre : (K.map lfV).flatten ++ (M1 ++ (M2 ++ (lfV x ++ (((l.drop (j + 1)).map lfV).flatten ++ sp)))) = (K.map lfV).flatten ++ (((M1 ++ M2) ++ lfV x) ++ (((l.drop (j + 1)).map lfV).flatten ++ sp)) := by simp
     (try simp only [kM, kN, kO] at hre)
     repeat' (first | (refine Ze (.tmp 26) ?_; refine qC rfl rfl (hp0) ?_; rintro v ρ' L' hle ⟨rfl, rfl, rfl⟩ <;> (try simp only [kM, kN, kO])) | (refine ZE ?_; refine Zn (Zd rfl) rfl rfl ?_) | (refine Zj ?_; first | (refine Zf ?_; refine qQ ?_) | refine Zm ?_) | refine Za ?_ | (refine Zi ?_; refine Zt ?_) | (refine Zh ?_; refine Zs ?_) | intro _)
     (try simp only [kM, kN, kO])
     rw [hre]
     refine Zr (j + 1, K.length, K, (M1 ++ M2) ++ lfV x) (⟨hlt, rfl, by rw [hx1]; simp, by dsimp only; omega, by simp only [List.length_append, List.length_singleton, show (lfV x).length = 2 from rfl] at hM ⊢; omega⟩) Zo Zo rfl tk inferInstance (by first | omega | (dsimp only; omega))
   ·obtain rfl : j = l.length := by omega
    rw [List.take_length] at hK
    simp only [List.drop_length, List.map_nil, List.flatten_nil, List.nil_append]
    have hni : ¬ cap = K.length := by omega
    have hst : ∀ ws : List Value, ws.length = (l.length - K.length) * 2 → stc ((K.map lfV).flatten ++ (M ++ sp)) (K.length * 2) ws = (K.map lfV).flatten ++ (ws ++ sp) := fun ws hw => by
     rw [← hKl, stcN_mid (by rw [hw, hM])]
    repeat' (first | (refine ZE ?_; refine Zn (Zd rfl) rfl rfl ?_) | (refine Zj ?_; first | (refine Zf ?_; refine qQ ?_) | refine Zm ?_) | refine Za ?_ | (refine Zi ?_; refine Zt ?_) | (refine Zh ?_; refine Zs ?_) | intro _)
    simp only [Int.toNat_natCast, if_neg hni, Option.map_some, YZ, Nat.zero_add]
    refine tl_clearN (sz := 2) rfl rfl rfl (by simp only [List.length_append]; omega) (by omega) (fun ws hws => ?_)
    rw [hst ws hws]
    repeat' (first | (refine ZE ?_; refine Zn (Zd rfl) rfl rfl ?_) | (refine Zj ?_; first | (refine Zf ?_; refine qQ ?_) | refine Zm ?_) | refine Za ?_ | (refine Zi ?_; refine Zt ?_) | (refine Zh ?_; refine Zs ?_) | intro _)
    rw [← hK]
    refine qE (L' := [(b, .cells ⟨(K.map lfV).flatten ++ (ws ++ sp)⟩ 108 (0, 0))] :: X) ⟨rfl, ws ++ sp, ⟨.inr ⟨b, cap, rfl, hKl, ?_, by omega⟩⟩, rfl⟩
    simp only [List.length_append, hws]
    have : ((l.map lfV).flatten).length + sp.length = cap * 2 := h2
    rw [hfl l] at this
    omega
theorem idxX_spec (ρ : Hp) (a : Option Addr) (n c : Nat) (l : List Tx) (h : AIn ρ 7 txV a n l) (hn : n ≤ 200000000000000) (F : Nat) [hF : Fun Tryz.prog F] (cs : List Value) (X : SH) (pp : Tx → Bool)
  (hp : ∀ x ∈ l, Spec Tryz.prog F (.agg ⟨txV x⟩ :: cs) ρ X (fun z ρ' L' => z = .bool (pp x) ∧ ρ' = ρ ∧ L' = X)) :
  Spec Tryz.prog 155 [.slice a n c, .func (.func F) ⟨[]⟩ ⟨cs⟩] ρ X (fun z ρ' L' => z = .int .i64 (YV pp l) ∧ ρ' = ρ ∧ L' = X) := by
 have hl := h.len
 refine Zg Tryz.func155 rfl rfl rfl fun u R => ?_
 simp only [Zx, List.cons_append, List.nil_append]
 repeat' (first | (refine ZE ?_; refine Zn (Zd rfl) rfl rfl ?_) | (refine Zj ?_; first | (refine Zf ?_; refine qQ ?_) | refine Zm ?_) | refine Za ?_ | (refine Zi ?_; refine Zt ?_) | (refine Zh ?_; refine Zs ?_) | intro _)
 refine ZG [(0, _), (1, _), (7, _)] (fun (ζ : (Nat)) => [(8, .int .i64 ζ), (4, .int .i64 0)]) (fun (ζ : (Nat)) => ρ) (fun (ζ : (Nat)) => X) (fun (ζ : (Nat)) => ζ ≤ n ∧ ∀ x ∈ l.take ζ, pp x = false) (fun (ζ : (Nat)) => n - ζ) (0) (⟨Nat.zero_le _, by simp⟩) Zo Zo rfl tk ?_
 rintro k hI
 try simp only [List.cons_append, List.nil_append, List.append_assoc, List.append_eq] at hI ⊢
 try dsimp only at hI ⊢
 obtain ⟨hk, hok⟩ := hI
 by_cases hlt : k < n
 ·obtain ⟨b, off, C, T, fr, rfl, hb, hfit, hc⟩ := h.get (show k < l.length by omega)
  have hf := fun (e : pp l[k] = true) => Wb (p := pp) (show k < l.length by omega) e hok
  have ht := fun (e : pp l[k] = false) => take_more (p := fun x => pp x = false) (show k < l.length by omega) e hok
  have hp0 := hp _ (List.getElem_mem (show k < l.length by omega))
  cases hx : pp l[k]
  ·have hok2 := ht hx
   rw [hx] at hp0
   generalize l[k] = x at *
   repeat' (first | (refine Ze (.tmp 11) ?_; refine qC rfl rfl (hp0) ?_; rintro v ρ' L' hle ⟨rfl, rfl, rfl⟩ <;> (try simp only [kM, kN, kO])) | (refine ZE ?_; refine Zn (Zd rfl) rfl rfl ?_) | (refine Zj ?_; first | (refine Zf ?_; refine qQ ?_) | refine Zm ?_) | refine Za ?_ | (refine Zi ?_; refine Zt ?_) | (refine Zh ?_; refine Zs ?_) | intro _)
   refine Zr (k + 1) (⟨hlt, hok2⟩) Zo Zo rfl tk inferInstance (by first | omega | (dsimp only; omega))
  ·have e := hf hx
   rw [hx] at hp0
   have e2 : YV pp l = (k : Int) := by unfold YV; rw [e]
   rw [e2]
   generalize l[k] = x at *
   repeat' (first | (refine Ze (.tmp 11) ?_; refine qC rfl rfl (hp0) ?_; rintro v ρ' L' hle ⟨rfl, rfl, rfl⟩ <;> (try simp only [kM, kN, kO])) | (refine ZE ?_; refine Zn (Zd rfl) rfl rfl ?_) | (refine Zj ?_; first | (refine Zf ?_; refine qQ ?_) | refine Zm ?_) | refine Za ?_ | (refine Zi ?_; refine Zt ?_) | (refine Zh ?_; refine Zs ?_) | intro _)
   exact qE (L' := _) ⟨rfl, rfl, rfl⟩
 ·have hk2 : k = l.length := by omega
  rw [hk2, List.take_length] at hok
  have e2 : YV pp l = -1 := by unfold YV; rw [idx_none hok]
  rw [e2]
  repeat' (first | (refine ZE ?_; refine Zn (Zd rfl) rfl rfl ?_) | (refine Zj ?_; first | (refine Zf ?_; refine qQ ?_) | refine Zm ?_) | refine Za ?_ | (refine Zi ?_; refine Zt ?_) | (refine Zh ?_; refine Zs ?_) | intro _)
  exact qE (L' := _) ⟨rfl, rfl, rfl⟩
theorem delX_spec (ρ : Hp) (v : Value) (sp : List Value) (l : List Tx) (hl : l.length ≤ 200000000000000) (hown : OwnS v l.length ((l.map txV).flatten) sp 7) (F : Nat) [hF : Fun Tryz.prog F] (cs : List Value) (X : SH) (pp : Tx → Bool)
  (hp : ∀ ρ1, ρ.le ρ1 → ∀ x ∈ l, Spec Tryz.prog F (.agg ⟨txV x⟩ :: cs) ρ1 X (fun z ρ' L' => z = .bool (pp x) ∧ ρ' = ρ1 ∧ L' = X)) :
  Spec Tryz.prog 151 [v, .func (.func F) ⟨[]⟩ ⟨cs⟩] ρ (ZZ v ((l.map txV).flatten) sp 45 :: X)
   (fun z ρ' L' => ρ' = ρ ∧ ∃ sp', OwnS z (l.filter (fun x => !pp x)).length (((l.filter (fun x => !pp x)).map txV).flatten) sp' 7 ∧ L' = ZZ z (((l.filter (fun x => !pp x)).map txV).flatten) sp' 45 :: X) := by
 have hidx : Spec Tryz.prog 155 [v, .func (.func F) ⟨[]⟩ ⟨cs⟩] ρ ([ZZ v ((l.map txV).flatten) sp 45] ++ X) (fun z ρ' L' => z = .int .i64 (YV pp l) ∧ ρ' = ρ ∧ L' = ZZ v ((l.map txV).flatten) sp 45 :: X) := by
  refine (Spec.thaw (C := [ZZ v ((l.map txV).flatten) sp 45]) (L := X) (Post := fun z L' => z = .int .i64 (YV pp l) ∧ L' = X) (fun ρ1 hle hf => ?_)).mono ?_
  ·obtain ⟨a, c, rfl, hc, hA⟩ := hown.aIn rfl (fun x _ => rfl) (by simpa using hf)
   exact (idxX_spec ρ1 a l.length c l hA hl F cs X pp (hp ρ1 hle)).mono (fun z ρ' L' _ h => ⟨h.2.1, h.1, h.2.2⟩)
  ·rintro z ρ' L' _ ⟨rfl, L2, ⟨rfl, rfl⟩, rfl⟩
   exact ⟨rfl, rfl, rfl⟩
 rcases hown.out with ⟨rfl, h0, h1, rfl⟩ | ⟨b, cap, rfl, h1, h2, h3⟩
 ·have hl0 : l = [] := List.eq_nil_of_length_eq_zero h0
  subst hl0
  have e : YV pp [] = -1 := rfl
  rw [e] at hidx
  refine Zg Tryz.func151 rfl rfl rfl fun u R => ?_
  simp only [Zx, List.cons_append, List.nil_append] at hidx ⊢
  repeat' (first | (refine Ze (.func 155) ?_; refine qC rfl rfl (hidx) ?_; rintro v ρ' L' hle ⟨rfl, rfl, rfl⟩ <;> (try simp only [kM, kN, kO])) | (refine ZE ?_; refine Zn (Zd rfl) rfl rfl ?_) | (refine Zj ?_; first | (refine Zf ?_; refine qQ ?_) | refine Zm ?_) | refine Za ?_ | (refine Zi ?_; refine Zt ?_) | (refine Zh ?_; refine Zs ?_) | intro _)
  exact qE (L' := [] :: X) ⟨rfl, [], OwnS.nil 7, rfl⟩
 ·by_cases hall : ∀ x ∈ l, pp x = false
  ·have e : YV pp l = -1 := by unfold YV; rw [idx_none hall]
   have hfl : l.filter (fun x => !pp x) = l := List.filter_eq_self.2 (fun x hx => by rw [hall x hx]; rfl)
   rw [e] at hidx
   rw [hfl]
   refine Zg Tryz.func151 rfl rfl rfl fun u R => ?_
   simp only [Zx, List.cons_append, List.nil_append] at hidx ⊢
   repeat' (first | (refine Ze (.func 155) ?_; refine qC rfl rfl (hidx) ?_; rintro v ρ' L' hle ⟨rfl, rfl, rfl⟩ <;> (try simp only [kM, kN, kO])) | (refine ZE ?_; refine Zn (Zd rfl) rfl rfl ?_) | (refine Zj ?_; first | (refine Zf ?_; refine qQ ?_) | refine Zm ?_) | refine Za ?_ | (refine Zi ?_; refine Zt ?_) | (refine Zh ?_; refine Zs ?_) | intro _)
   exact qE (L' := ZZ (.slice (some ⟨b, 0, none⟩) l.length cap) ((l.map txV).flatten) sp 45 :: X) ⟨rfl, sp, hown, rfl⟩
  ·obtain ⟨i, hi, hpi, hbef⟩ : ∃ i, ∃ h : i < l.length, pp l[i] = true ∧ ∀ x ∈ l.take i, pp x = false := by
    cases hf : l.findIdx? pp with
    | none => exact absurd (fun x hx => by have := List.findIdx?_eq_none_iff.1 hf x hx; exact this) hall
    | some i =>
     obtain ⟨h1, h2, h3⟩ := List.findIdx?_eq_some_iff_getElem.1 hf
     refine ⟨i, h1, h2, fun x hx => ?_⟩
     obtain ⟨j, hj, rfl⟩ := List.mem_take_iff_getElem.1 hx
     have := h3 j (by omega)
     simpa using this
   have e : YV pp l = (i : Int) := by unfold YV; rw [Wb (p := pp) hi hpi hbef]
   have hK0 : (l.take i).filter (fun x => !pp x) = l.take i := List.filter_eq_self.2 (fun x hx => by rw [hbef x hx]; rfl)
   have hK1 : (l.take (i + 1)).filter (fun x => !pp x) = l.take i := by
    rw [List.take_succ_eq_append_getElem hi, List.filter_append, hK0, List.filter_cons, if_neg (by simp [hpi])]; simp
   have hfl : ∀ m : List Tx, ((m.map txV).flatten).length = m.length * 7 := fun m => flatN_len txV_len m
   have hC : ∀ xs sp, ZZ (.slice (some ⟨b, 0, none⟩) l.length cap) xs sp 45 = [(b, .cells ⟨xs ++ sp⟩ 45 (0, 0))] := fun _ _ => rfl
   have hsplit : (l.map txV).flatten ++ sp = ((l.take i).map txV).flatten ++ (txV l[i] ++ (((l.drop (i + 1)).map txV).flatten ++ sp)) := by
    have : l = l.take i ++ l[i] :: l.drop (i + 1) := by rw [← List.drop_eq_getElem_cons hi, List.take_append_drop]
    have h2 : ∀ (A : List Tx) (x : Tx) (B : List Tx), ((A ++ x :: B).map txV).flatten ++ sp = (A.map txV).flatten ++ (txV x ++ ((B.map txV).flatten ++ sp)) := fun A x B => by simp
    exact (congrArg (fun l => (l.map txV).flatten ++ sp) this).trans (h2 _ _ _)
   rw [hC, e] at hidx
   rw [hC]
   refine Zg Tryz.func151 rfl rfl rfl fun u R => ?_
   simp only [Zx, List.cons_append, List.nil_append] at hidx ⊢
   repeat' (first | (refine Ze (.func 155) ?_; refine qC rfl rfl (hidx) ?_; rintro v ρ' L' hle ⟨rfl, rfl, rfl⟩ <;> (try simp only [kM, kN, kO])) | (refine ZE ?_; refine Zn (Zd rfl) rfl rfl ?_) | (refine Zj ?_; first | (refine Zf ?_; refine qQ ?_) | refine Zm ?_) | refine Za ?_ | (refine Zi ?_; refine Zt ?_) | (refine Zh ?_; refine Zs ?_) | intro _)
   rw [hsplit]
   refine ZG [(0, _), (1, _), (4, _)] (fun (ζ : (Nat) × (Nat) × (List Tx) × (List Value)) => [(5, .int .i64 ζ.2.1), (6, .int .i64 ζ.1)]) (fun (ζ : (Nat) × (Nat) × (List Tx) × (List Value)) => ρ') (fun (ζ : (Nat) × (Nat) × (List Tx) × (List Value)) => [(b, .cells ⟨(ζ.2.2.1.map txV).flatten ++ (ζ.2.2.2 ++ (((l.drop ζ.1).map txV).flatten ++ sp))⟩ 45 (0, 0))] :: X) (fun (ζ : (Nat) × (Nat) × (List Tx) × (List Value)) => ζ.1 ≤ l.length ∧ ζ.2.1 = ζ.2.2.1.length ∧ ζ.2.2.1 = (l.take ζ.1).filter (fun x => !pp x) ∧ ζ.2.2.1.length < ζ.1 ∧ ζ.2.2.2.length = (ζ.1 - ζ.2.2.1.length) * 7) (fun (ζ : (Nat) × (Nat) × (List Tx) × (List Value)) => l.length - ζ.1) ((i + 1, i, l.take i, txV l[i])) (⟨hi, by simp; omega, hK1.symm, by simp; omega, by simp; omega⟩) Zo Zo rfl tk ?_
   rintro ⟨j, kl, K, M⟩ hI
   try simp only [List.cons_append, List.nil_append, List.append_assoc, List.append_eq] at hI ⊢
   try dsimp only at hI ⊢
   obtain ⟨hj, rfl, hK, hKj, hM⟩ := hI
   have hKl := hfl K
   by_cases hlt : j < l.length
   ·have hd := List.drop_eq_getElem_cons hlt
    have hx1 : (l.take (j + 1)).filter (fun x => !pp x) = K ++ (if pp l[j] then [] else [l[j]]) := by
     rw [List.take_succ_eq_append_getElem hlt, List.filter_append, ← hK, List.filter_cons]
     cases pp l[j] <;> simp
    have hp0 := hp ρ' (Hp.le_refl ρ') _ (List.getElem_mem hlt)
    rw [hd]
    generalize l[j] = x at *
    obtain ⟨M1, M2, rfl, hM1⟩ : ∃ M1 M2 : List Value, M = M1 ++ M2 ∧ M1.length = 7 := ⟨M.take 7, M.drop 7, (List.take_append_drop _ _).symm, by rw [List.length_take]; omega⟩
    simp only [List.map_cons, List.flatten_cons, List.append_assoc]
    have hM2 : M2.length = (j - K.length) * 7 - 7 := by rw [List.length_append] at hM; omega
    have hcell : ((K.map txV).flatten ++ (M1 ++ (M2 ++ (txV x ++ (((l.drop (j + 1)).map txV).flatten ++ sp))))).drop (0 + j * 7) = txV x ++ (((l.drop (j + 1)).map txV).flatten ++ sp) := by
     rw [← List.append_assoc M1, ← List.append_assoc]
     refine List.drop_left' ?_
     simp only [List.length_append, hKl]; omega
    have hcc : (((K.map txV).flatten ++ (M1 ++ (M2 ++ (txV x ++ (((l.drop (j + 1)).map txV).flatten ++ sp))))).drop (0 + j * 7)).take 7 = txV x := by rw [hcell]; rfl
    have hfit : 0 + j * 7 + 7 ≤ ((K.map txV).flatten ++ (M1 ++ (M2 ++ (txV x ++ (((l.drop (j + 1)).map txV).flatten ++ sp))))).length := by
     have := congrArg List.length hcell
     simp only [List.length_drop, List.length_append, show (txV x).length = 7 from rfl] at this ⊢
     omega
    have hPl : ((K.map txV).flatten).length = 0 + K.length * 7 := by rw [hKl]; omega
    cases hpx : pp x
    ·rw [hpx] at hp0 hx1
     have hre : (K.map txV).flatten ++ (txV x ++ (M2 ++ (txV x ++ (((l.drop (j + 1)).map txV).flatten ++ sp)))) = ((K ++ [x]).map txV).flatten ++ ((M2 ++ txV x) ++ (((l.drop (j + 1)).map txV).flatten ++ sp)) := by simp
     (try simp only [kM, kN, kO] at hre)
     repeat' (first | (refine Ze (.tmp 26) ?_; refine qC rfl rfl (hp0) ?_; rintro v ρ' L' hle ⟨rfl, rfl, rfl⟩ <;> (try simp only [kM, kN, kO])) | (refine tl_store_midA (P := _) (l := M1) rfl rfl hPl hM1 rfl rfl ?_) | (refine ZE ?_; refine Zn (Zd rfl) rfl rfl ?_) | (refine Zj ?_; first | (refine Zf ?_; refine qQ ?_) | refine Zm ?_) | refine Za ?_ | (refine Zi ?_; refine Zt ?_) | (refine Zh ?_; refine Zs ?_) | intro _)
     (try simp only [kM, kN, kO])
     rw [hre]
     have hKn : (K ++ [x]).length = K.length + 1 := by simp
     rw [show ((K.length : Int) + 1) = (((K ++ [x]).length : Nat) : Int) by rw [hKn]; omega]
     refine Zr (j + 1, (K ++ [x]).length, K ++ [x], M2 ++ txV x) (⟨hlt, rfl, by rw [hx1]; rfl, by dsimp only; omega, by simp only [List.length_append, List.length_singleton, show (txV x).length = 7 from rfl]; omega⟩) Zo Zo rfl tk inferInstance (by first | omega | (dsimp only; omega))
    ·rw [hpx] at hp0 hx1
     have hre : (K.map txV).flatten ++ (M1 ++ (M2 ++ (txV x ++ (((l.drop (j + 1)).map txV).flatten ++ sp)))) = (K.map txV).flatten ++ (((M1 ++ M2) ++ txV x) ++ (((l.drop (j + 1)).map txV).flatten ++ sp)) := by simp
     (try simp only [kM, kN, kO] at hre)
     repeat' (first | (refine Ze (.tmp 26) ?_; refine qC rfl rfl (hp0) ?_; rintro v ρ' L' hle ⟨rfl, rfl, rfl⟩ <;> (try simp only [kM, kN, kO])) | (refine ZE ?_; refine Zn (Zd rfl) rfl rfl ?_) | (refine Zj ?_; first | (refine Zf ?_; refine qQ ?_) | refine Zm ?_) | refine Za ?_ | (refine Zi ?_; refine Zt ?_) | (refine Zh ?_; refine Zs ?_) | intro _)
     (try simp only [kM, kN, kO])
     rw [hre]
     refine Zr (j + 1, K.length, K, (M1 ++ M2) ++ txV x) (⟨hlt, rfl, by rw [hx1]; simp, by dsimp only; omega, by simp only [List.length_append, List.length_singleton, show (txV x).length = 7 from rfl] at hM ⊢; omega⟩) Zo Zo rfl tk inferInstance (by first | omega | (dsimp only; omega))
   ·obtain rfl : j = l.length := by omega
    rw [List.take_length] at hK
    simp only [List.drop_length, List.map_nil, List.flatten_nil, List.nil_append]
    have hni : ¬ cap = K.length := by omega
    have hst : ∀ ws : List Value, ws.length = (l.length - K.length) * 7 → stc ((K.map txV).flatten ++ (M ++ sp)) (K.length * 7) ws = (K.map txV).flatten ++ (ws ++ sp) := fun ws hw => by
     rw [← hKl, stcN_mid (by rw [hw, hM])]
    repeat' (first | (refine ZE ?_; refine Zn (Zd rfl) rfl rfl ?_) | (refine Zj ?_; first | (refine Zf ?_; refine qQ ?_) | refine Zm ?_) | refine Za ?_ | (refine Zi ?_; refine Zt ?_) | (refine Zh ?_; refine Zs ?_) | intro _)
    simp only [Int.toNat_natCast, if_neg hni, Option.map_some, YZ, Nat.zero_add]
    refine tl_clearN (sz := 7) rfl rfl rfl (by simp only [List.length_append]; omega) (by omega) (fun ws hws => ?_)
    rw [hst ws hws]
    repeat' (first | (refine ZE ?_; refine Zn (Zd rfl) rfl rfl ?_) | (refine Zj ?_; first | (refine Zf ?_; refine qQ ?_) | refine Zm ?_) | refine Za ?_ | (refine Zi ?_; refine Zt ?_) | (refine Zh ?_; refine Zs ?_) | intro _)
    rw [← hK]
    refine qE (L' := [(b, .cells ⟨(K.map txV).flatten ++ (ws ++ sp)⟩ 45 (0, 0))] :: X) ⟨rfl, ws ++ sp, ⟨.inr ⟨b, cap, rfl, hKl, ?_, by omega⟩⟩, rfl⟩
    simp only [List.length_append, hws]
    have : ((l.map txV).flatten).length + sp.length = cap * 7 := h2
    rw [hfl l] at this
    omega
theorem idxU_spec (ρ : Hp) (a : Option Addr) (n c : Nat) (l : List Nat) (h : SIn ρ Yj a n l) (hn : n ≤ 200000000000000) (F : Nat) [hF : Fun Tryz.prog F] (cs : List Value) (X : SH) (pp : Nat → Bool)
  (hp : ∀ x ∈ l, Spec Tryz.prog F (Yj x :: cs) ρ X (fun z ρ' L' => z = .bool (pp x) ∧ ρ' = ρ ∧ L' = X)) :
  Spec Tryz.prog 202 [.slice a n c, .func (.func F) ⟨[]⟩ ⟨cs⟩] ρ X (fun z ρ' L' => z = .int .i64 (YV pp l) ∧ ρ' = ρ ∧ L' = X) := by
 have hl := h.len
 refine Zg Tryz.func202 rfl rfl rfl fun u R => ?_
 simp only [Zx, List.cons_append, List.nil_append]
 repeat' (first | (refine ZE ?_; refine Zn (Zd rfl) rfl rfl ?_) | (refine Zj ?_; first | (refine Zf ?_; refine qQ ?_) | refine Zm ?_) | refine Za ?_ | (refine Zi ?_; refine Zt ?_) | (refine Zh ?_; refine Zs ?_) | intro _)
 refine ZG [(0, _), (1, _), (7, _)] (fun (ζ : (Nat)) => [(8, .int .i64 ζ), (4, .int .i64 0)]) (fun (ζ : (Nat)) => ρ) (fun (ζ : (Nat)) => X) (fun (ζ : (Nat)) => ζ ≤ n ∧ ∀ x ∈ l.take ζ, pp x = false) (fun (ζ : (Nat)) => n - ζ) (0) (⟨Nat.zero_le _, by simp⟩) Zo Zo rfl tk ?_
 rintro k hI
 try simp only [List.cons_append, List.nil_append, List.append_assoc, List.append_eq] at hI ⊢
 try dsimp only at hI ⊢
 obtain ⟨hk, hok⟩ := hI
 by_cases hlt : k < n
 ·obtain ⟨b, off, C, T, fr, rfl, hb, hc⟩ := h.get (show k < l.length by omega)
  have hf := fun (e : pp l[k] = true) => Wb (p := pp) (show k < l.length by omega) e hok
  have ht := fun (e : pp l[k] = false) => take_more (p := fun x => pp x = false) (show k < l.length by omega) e hok
  have hp0 := hp _ (List.getElem_mem (show k < l.length by omega))
  cases hx : pp l[k]
  ·have hok2 := ht hx
   rw [hx] at hp0
   generalize l[k] = x at *
   repeat' (first | (refine Ze (.tmp 11) ?_; refine qC rfl rfl (hp0) ?_; rintro v ρ' L' hle ⟨rfl, rfl, rfl⟩ <;> (try simp only [kM, kN, kO])) | (refine ZE ?_; refine Zn (Zd rfl) rfl rfl ?_) | (refine Zj ?_; first | (refine Zf ?_; refine qQ ?_) | refine Zm ?_) | refine Za ?_ | (refine Zi ?_; refine Zt ?_) | (refine Zh ?_; refine Zs ?_) | intro _)
   refine Zr (k + 1) (⟨hlt, hok2⟩) Zo Zo rfl tk inferInstance (by first | omega | (dsimp only; omega))
  ·have e := hf hx
   rw [hx] at hp0
   have e2 : YV pp l = (k : Int) := by unfold YV; rw [e]
   rw [e2]
   generalize l[k] = x at *
   repeat' (first | (refine Ze (.tmp 11) ?_; refine qC rfl rfl (hp0) ?_; rintro v ρ' L' hle ⟨rfl, rfl, rfl⟩ <;> (try simp only [kM, kN, kO])) | (refine ZE ?_; refine Zn (Zd rfl) rfl rfl ?_) | (refine Zj ?_; first | (refine Zf ?_; refine qQ ?_) | refine Zm ?_) | refine Za ?_ | (refine Zi ?_; refine Zt ?_) | (refine Zh ?_; refine Zs ?_) | intro _)
   exact qE (L' := _) ⟨rfl, rfl, rfl⟩
 ·have hk2 : k = l.length := by omega
  rw [hk2, List.take_length] at hok
  have e2 : YV pp l = -1 := by unfold YV; rw [idx_none hok]
  rw [e2]
  repeat' (first | (refine ZE ?_; refine Zn (Zd rfl) rfl rfl ?_) | (refine Zj ?_; first | (refine Zf ?_; refine qQ ?_) | refine Zm ?_) | refine Za ?_ | (refine Zi ?_; refine Zt ?_) | (refine Zh ?_; refine Zs ?_) | intro _)
  exact qE (L' := _) ⟨rfl, rfl, rfl⟩
theorem delU_spec (ρ : Hp) (v : Value) (sp : List Value) (l : List Nat) (hl : l.length ≤ 200000000000000) (hown : OwnS v l.length (l.map Yj) sp 1) (F : Nat) [hF : Fun Tryz.prog F] (cs : List Value) (X : SH) (pp : Nat → Bool)
  (hp : ∀ ρ1, ρ.le ρ1 → ∀ x ∈ l, Spec Tryz.prog F (Yj x :: cs) ρ1 X (fun z ρ' L' => z = .bool (pp x) ∧ ρ' = ρ1 ∧ L' = X)) :
  Spec Tryz.prog 180 [v, .func (.func F) ⟨[]⟩ ⟨cs⟩] ρ (ZZ v (l.map Yj) sp 28 :: X)
   (fun z ρ' L' => ρ' = ρ ∧ ∃ sp', OwnS z (l.filter (fun x => !pp x)).length ((l.filter (fun x => !pp x)).map Yj) sp' 1 ∧ L' = ZZ z ((l.filter (fun x => !pp x)).map Yj) sp' 28 :: X) := by
 have hidx : Spec Tryz.prog 202 [v, .func (.func F) ⟨[]⟩ ⟨cs⟩] ρ ([ZZ v (l.map Yj) sp 28] ++ X) (fun z ρ' L' => z = .int .i64 (YV pp l) ∧ ρ' = ρ ∧ L' = ZZ v (l.map Yj) sp 28 :: X) := by
  refine (Spec.thaw (C := [ZZ v (l.map Yj) sp 28]) (L := X) (Post := fun z L' => z = .int .i64 (YV pp l) ∧ L' = X) (fun ρ1 hle hf => ?_)).mono ?_
  ·obtain ⟨a, c, rfl, hc, hA⟩ := hown.sIn (by simpa using hf)
   exact (idxU_spec ρ1 a l.length c l hA hl F cs X pp (hp ρ1 hle)).mono (fun z ρ' L' _ h => ⟨h.2.1, h.1, h.2.2⟩)
  ·rintro z ρ' L' _ ⟨rfl, L2, ⟨rfl, rfl⟩, rfl⟩
   exact ⟨rfl, rfl, rfl⟩
 rcases hown.out with ⟨rfl, h0, h1, rfl⟩ | ⟨b, cap, rfl, h1, h2, h3⟩
 ·have hl0 : l = [] := List.eq_nil_of_length_eq_zero h0
  subst hl0
  have e : YV pp [] = -1 := rfl
  rw [e] at hidx
  refine Zg Tryz.func180 rfl rfl rfl fun u R => ?_
  simp only [Zx, List.cons_append, List.nil_append] at hidx ⊢
  repeat' (first | (refine Ze (.func 202) ?_; refine qC rfl rfl (hidx) ?_; rintro v ρ' L' hle ⟨rfl, rfl, rfl⟩ <;> (try simp only [kM, kN, kO])) | (refine ZE ?_; refine Zn (Zd rfl) rfl rfl ?_) | (refine Zj ?_; first | (refine Zf ?_; refine qQ ?_) | refine Zm ?_) | refine Za ?_ | (refine Zi ?_; refine Zt ?_) | (refine Zh ?_; refine Zs ?_) | intro _)
  exact qE (L' := [] :: X) ⟨rfl, [], OwnS.nil 1, rfl⟩
 ·by_cases hall : ∀ x ∈ l, pp x = false
  ·have e : YV pp l = -1 := by unfold YV; rw [idx_none hall]
   have hfl : l.filter (fun x => !pp x) = l := List.filter_eq_self.2 (fun x hx => by rw [hall x hx]; rfl)
   rw [e] at hidx
   rw [hfl]
   refine Zg Tryz.func180 rfl rfl rfl fun u R => ?_
   simp only [Zx, List.cons_append, List.nil_append] at hidx ⊢
   repeat' (first | (refine Ze (.func 202) ?_; refine qC rfl rfl (hidx) ?_; rintro v ρ' L' hle ⟨rfl, rfl, rfl⟩ <;> (try simp only [kM, kN, kO])) | (refine ZE ?_; refine Zn (Zd rfl) rfl rfl ?_) | (refine Zj ?_; first | (refine Zf ?_; refine qQ ?_) | refine Zm ?_) | refine Za ?_ | (refine Zi ?_; refine Zt ?_) | (refine Zh ?_; refine Zs ?_) | intro _)
   exact qE (L' := ZZ (.slice (some ⟨b, 0, none⟩) l.length cap) (l.map Yj) sp 28 :: X) ⟨rfl, sp, hown, rfl⟩
  ·obtain ⟨i, hi, hpi, hbef⟩ : ∃ i, ∃ h : i < l.length, pp l[i] = true ∧ ∀ x ∈ l.take i, pp x = false := by
    cases hf : l.findIdx? pp with
    | none => exact absurd (fun x hx => by have := List.findIdx?_eq_none_iff.1 hf x hx; exact this) hall
    | some i =>
     obtain ⟨h1, h2, h3⟩ := List.findIdx?_eq_some_iff_getElem.1 hf
     refine ⟨i, h1, h2, fun x hx => ?_⟩
     obtain ⟨j, hj, rfl⟩ := List.mem_take_iff_getElem.1 hx
     have := h3 j (by omega)
     simpa using this
   have e : YV pp l = (i : Int) := by unfold YV; rw [Wb (p := pp) hi hpi hbef]
   have hK0 : (l.take i).filter (fun x => !pp x) = l.take i := List.filter_eq_self.2 (fun x hx => by rw [hbef x hx]; rfl)
   have hK1 : (l.take (i + 1)).filter (fun x => !pp x) = l.take i := by
    rw [List.take_succ_eq_append_getElem hi, List.filter_append, hK0, List.filter_cons, if_neg (by simp [hpi])]; simp
   have hfl : ∀ m : List Nat, (m.map Yj).length = m.length * 1 := fun m => by simp
   have hC : ∀ xs sp, ZZ (.slice (some ⟨b, 0, none⟩) l.length cap) xs sp 28 = [(b, .cells ⟨xs ++ sp⟩ 28 (0, 0))] := fun _ _ => rfl
   have hsplit : l.map Yj ++ sp = (l.take i).map Yj ++ ([Yj l[i]] ++ ((l.drop (i + 1)).map Yj ++ sp)) := by
    have : l = l.take i ++ l[i] :: l.drop (i + 1) := by rw [← List.drop_eq_getElem_cons hi, List.take_append_drop]
    have h2 : ∀ (A : List Nat) (x : Nat) (B : List Nat), (A ++ x :: B).map Yj ++ sp = A.map Yj ++ ([Yj x] ++ (B.map Yj ++ sp)) := fun A x B => by simp
    exact (congrArg (fun l => l.map Yj ++ sp) this).trans (h2 _ _ _)
   rw [hC, e] at hidx
   rw [hC]
   refine Zg Tryz.func180 rfl rfl rfl fun u R => ?_
   simp only [Zx, List.cons_append, List.nil_append] at hidx ⊢
   repeat' (first | (refine Ze (.func 202) ?_; refine qC rfl rfl (hidx) ?_; rintro v ρ' L' hle ⟨rfl, rfl, rfl⟩ <;> (try simp only [kM, kN, kO])) | (refine ZE ?_; refine Zn (Zd rfl) rfl rfl ?_) | (refine Zj ?_; first | (refine Zf ?_; refine qQ ?_) | refine Zm ?_) | refine Za ?_ | (refine Zi ?_; refine Zt ?_) | (refine Zh ?_; refine Zs ?_) | intro _)
   rw [hsplit]
   refine ZG [(0, _), (1, _), (4, _)] (fun (ζ : (Nat) × (Nat) × (List Nat) × (List Value)) => [(5, .int .i64 ζ.2.1), (6, .int .i64 ζ.1)]) (fun (ζ : (Nat) × (Nat) × (List Nat) × (List Value)) => ρ') (fun (ζ : (Nat) × (Nat) × (List Nat) × (List Value)) => [(b, .cells ⟨ζ.2.2.1.map Yj ++ (ζ.2.2.2 ++ ((l.drop ζ.1).map Yj ++ sp))⟩ 28 (0, 0))] :: X) (fun (ζ : (Nat) × (Nat) × (List Nat) × (List Value)) => ζ.1 ≤ l.length ∧ ζ.2.1 = ζ.2.2.1.length ∧ ζ.2.2.1 = (l.take ζ.1).filter (fun x => !pp x) ∧ ζ.2.2.1.length < ζ.1 ∧ ζ.2.2.2.length = (ζ.1 - ζ.2.2.1.length) * 1) (fun (ζ : (Nat) × (Nat) × (List Nat) × (List Value)) => l.length - ζ.1) ((i + 1, i, l.take i, [Yj l[i]])) (⟨hi, by simp; omega, hK1.symm, by simp; omega, by simp; omega⟩) Zo Zo rfl tk ?_
   rintro ⟨j, kl, K, M⟩ hI
   try simp only [List.cons_append, List.nil_append, List.append_assoc, List.append_eq] at hI ⊢
   try dsimp only at hI ⊢
   obtain ⟨hj, rfl, hK, hKj, hM⟩ := hI
   have hKl := hfl K
   by_cases hlt : j < l.length
   ·have hd := List.drop_eq_getElem_cons hlt
    have hx1 : (l.take (j + 1)).filter (fun x => !pp x) = K ++ (if pp l[j] then [] else [l[j]]) := by
     rw [List.take_succ_eq_append_getElem hlt, List.filter_append, ← hK, List.filter_cons]
     cases pp l[j] <;> simp
    have hp0 := hp ρ' (Hp.le_refl ρ') _ (List.getElem_mem hlt)
    rw [hd]
    generalize l[j] = x at *
    obtain ⟨M1, M2, rfl, hM1⟩ : ∃ M1 M2 : List Value, M = M1 ++ M2 ∧ M1.length = 1 := ⟨M.take 1, M.drop 1, (List.take_append_drop _ _).symm, by rw [List.length_take]; omega⟩
    simp only [List.map_cons, List.flatten_cons, List.append_assoc]
    have hM2 : M2.length = (j - K.length) * 1 - 1 := by rw [List.length_append] at hM; omega
    have hcell : (K.map Yj ++ (M1 ++ (M2 ++ (Yj x :: ((l.drop (j + 1)).map Yj ++ sp))))).drop (0 + j * 1) = Yj x :: ((l.drop (j + 1)).map Yj ++ sp) := by
     rw [← List.append_assoc M1, ← List.append_assoc]
     refine List.drop_left' ?_
     simp only [List.length_append, hKl]; omega
    have hcc : (K.map Yj ++ (M1 ++ (M2 ++ (Yj x :: ((l.drop (j + 1)).map Yj ++ sp)))))[0 + j * 1]? = some (Yj x) := by
     have := congrArg (fun z => z[0]?) hcell
     simpa using this
    have hPl : (K.map Yj).length = 0 + K.length * 1 := by rw [hKl]; omega
    cases hpx : pp x
    ·rw [hpx] at hp0 hx1
     have hre : K.map Yj ++ ([Yj x] ++ (M2 ++ (Yj x :: ((l.drop (j + 1)).map Yj ++ sp)))) = (K ++ [x]).map Yj ++ ((M2 ++ [Yj x]) ++ ((l.drop (j + 1)).map Yj ++ sp)) := by simp
     (try simp only [kM, kN, kO] at hre)
     repeat' (first | (refine Ze (.tmp 26) ?_; refine qC rfl rfl (hp0) ?_; rintro v ρ' L' hle ⟨rfl, rfl, rfl⟩ <;> (try simp only [kM, kN, kO])) | (obtain ⟨m1, rfl⟩ : ∃ m1, M1 = [m1] := List.length_eq_one_iff.1 hM1; refine tl_store_mid (o := 0 + K.length * 1) (d := 0) (P := _) (l := [m1]) rfl rfl hPl rfl ?_) | (refine ZE ?_; refine Zn (Zd rfl) rfl rfl ?_) | (refine Zj ?_; first | (refine Zf ?_; refine qQ ?_) | refine Zm ?_) | refine Za ?_ | (refine Zi ?_; refine Zt ?_) | (refine Zh ?_; refine Zs ?_) | intro _)
     (try simp only [kM, kN, kO])
     rw [hre]
     have hKn : (K ++ [x]).length = K.length + 1 := by simp
     rw [show ((K.length : Int) + 1) = (((K ++ [x]).length : Nat) : Int) by rw [hKn]; omega]
     refine Zr (j + 1, (K ++ [x]).length, K ++ [x], M2 ++ [Yj x]) (⟨hlt, rfl, by rw [hx1]; rfl, by dsimp only; omega, by simp only [List.length_append, List.length_singleton]; omega⟩) Zo Zo rfl tk inferInstance (by first | omega | (dsimp only; omega))
    ·rw [hpx] at hp0 hx1
     have hre : K.map Yj ++ (M1 ++ (M2 ++ (Yj x :: ((l.drop (j + 1)).map Yj ++ sp)))) = K.map Yj ++ (((M1 ++ M2) ++ [Yj x]) ++ ((l.drop (j + 1)).map Yj ++ sp)) := by simp
     (try simp only [kM, kN, kO] at hre)
     repeat' (first | (refine Ze (.tmp 26) ?_; refine qC rfl rfl (hp0) ?_; rintro v ρ' L' hle ⟨rfl, rfl, rfl⟩ <;> (try simp only [kM, kN, kO])) | (refine ZE ?_; refine Zn (Zd rfl) rfl rfl ?_) | (refine Zj ?_; first | (refine Zf ?_; refine qQ ?_) | refine Zm ?_) | refine Za ?_ | (refine Zi ?_; refine Zt ?_) | (refine Zh ?_; refine Zs ?_) | intro _)
     (try simp only [kM, kN, kO])
     rw [hre]
     refine Zr (j + 1, K.length, K, (M1 ++ M2) ++ [Yj x]) (⟨hlt, rfl, by rw [hx1]; simp, by dsimp only; omega, by simp only [List.length_append, List.length_singleton] at hM ⊢; omega⟩) Zo Zo rfl tk inferInstance (by first | omega | (dsimp only; omega))
   ·obtain rfl : j = l.length := by omega
    rw [List.take_length] at hK
    simp only [List.drop_length, List.map_nil, List.flatten_nil, List.nil_append]
    have hni : ¬ cap = K.length := by omega
    have hst : ∀ ws : List Value, ws.length = (l.length - K.length) * 1 → stc (K.map Yj ++ (M ++ sp)) (K.length * 1) ws = K.map Yj ++ (ws ++ sp) := fun ws hw => by
     rw [← hKl, stcN_mid (by rw [hw, hM])]
    repeat' (first | (refine ZE ?_; refine Zn (Zd rfl) rfl rfl ?_) | (refine Zj ?_; first | (refine Zf ?_; refine qQ ?_) | refine Zm ?_) | refine Za ?_ | (refine Zi ?_; refine Zt ?_) | (refine Zh ?_; refine Zs ?_) | intro _)
    simp only [Int.toNat_natCast, if_neg hni, Option.map_some, YZ, Nat.zero_add]
    refine tl_clearN (sz := 1) rfl rfl rfl (by simp only [List.length_append]; omega) (by omega) (fun ws hws => ?_)
    rw [hst ws hws]
    repeat' (first | (refine ZE ?_; refine Zn (Zd rfl) rfl rfl ?_) | (refine Zj ?_; first | (refine Zf ?_; refine qQ ?_) | refine Zm ?_) | refine Za ?_ | (refine Zi ?_; refine Zt ?_) | (refine Zh ?_; refine Zs ?_) | intro _)
    rw [← hK]
    refine qE (L' := [(b, .cells ⟨K.map Yj ++ (ws ++ sp)⟩ 28 (0, 0))] :: X) ⟨rfl, ws ++ sp, ⟨.inr ⟨b, cap, rfl, hKl, ?_, by omega⟩⟩, rfl⟩
    simp only [List.length_append, hws]
    have : (l.map Yj).length + sp.length = cap * 1 := h2
    rw [hfl l] at this
    omega
theorem flat_oneG {α : Type} {g : α → List Value} (hg : ∀ x, (g x).all (·.oneCell') = true) (l : List α) : ((l.map g).flatten).all (·.oneCell') = true := by
 induction l with
 | nil => rfl
 | cons a r ih => simp only [List.map_cons, List.flatten_cons, List.all_append, Bool.and_eq_true]; exact ⟨hg a, ih⟩
theorem cloneX_spec (ρ : Hp) (a : Option Addr) (n c : Nat) (l : List Tx) (h : AIn ρ 7 txV a n l) (hn : n ≤ 1200000000000) (hc : n ≤ c) : Spec Tryz.prog 83 [.slice a n c] ρ []
  (fun v ρ' L' => ρ' = ρ ∧ ∃ sp, OwnS v l.length ((l.map txV).flatten) sp 7 ∧ L' = [ZZ v ((l.map txV).flatten) sp 45]) := by
 have hl := h.len
 cases a with
 | none =>
  have hl0 : l = [] := by
   by_cases h0 : 0 < l.length
   ·obtain ⟨b, off, C, T, fr, h, _⟩ := h.get h0
    cases h
   ·exact List.eq_nil_of_length_eq_zero (by omega)
  subst hl0
  refine Zg Tryz.func83 rfl rfl rfl fun u R => ?_
  simp only [Zx, List.cons_append, List.nil_append]
  repeat' (first | (refine ZE ?_; refine Zn (Zd rfl) rfl rfl ?_) | (refine Zj ?_; first | (refine Zf ?_; refine qQ ?_) | refine Zm ?_) | refine Za ?_ | (refine Zi ?_; refine Zt ?_) | (refine Zh ?_; refine Zs ?_) | intro _)
  exact qE (L' := [[]]) ⟨rfl, [], OwnS.nil 7, rfl⟩
 | some ad =>
  refine Zg Tryz.func83 rfl rfl rfl fun u R => ?_
  simp only [Zx, List.cons_append, List.nil_append]
  repeat' (first | (refine ZE ?_; refine Zn (Zd rfl) rfl rfl ?_) | (refine Zj ?_; first | (refine Zf ?_; refine qQ ?_) | refine Zm ?_) | refine Za ?_ | (refine Zi ?_; refine Zt ?_) | (refine Zh ?_; refine Zs ?_) | intro _)
  rename_i bx
  refine Xp (n := 0) (xs := []) (sp := []) (ys := ((l.map txV).flatten)) (sz := 7) rfl rfl (OwnS.zero' _ 7) (hR := YG) h.srcV (by rw [flatN_len txV_len]; omega) (flat_oneG txV_one l) (by decide) rfl (by omega) (by omega) rfl (fun v' sp' hown' => ?_)
  simp only [Nat.zero_add, List.nil_append] at hown' ⊢
  repeat' (first | (refine ZE ?_; refine Zn (Zd rfl) rfl rfl ?_) | (refine Zj ?_; first | (refine Zf ?_; refine qQ ?_) | refine Zm ?_) | refine Za ?_ | (refine Zi ?_; refine Zt ?_) | (refine Zh ?_; refine Zs ?_) | intro _)
  rw [← hl] at hown'
  exact qE ⟨rfl, sp', hown', rfl⟩
theorem cloneL_spec (ρ : Hp) (a : Option Addr) (n c : Nat) (l : List Lf) (h : AIn ρ 2 lfV a n l) (hn : n ≤ 1200000000000) (hc : n ≤ c) : Spec Tryz.prog 84 [.slice a n c] ρ []
  (fun v ρ' L' => ρ' = ρ ∧ ∃ sp, OwnS v l.length ((l.map lfV).flatten) sp 2 ∧ L' = [ZZ v ((l.map lfV).flatten) sp 108]) := by
 have hl := h.len
 cases a with
 | none =>
  have hl0 : l = [] := by
   by_cases h0 : 0 < l.length
   ·obtain ⟨b, off, C, T, fr, h, _⟩ := h.get h0
    cases h
   ·exact List.eq_nil_of_length_eq_zero (by omega)
  subst hl0
  refine Zg Tryz.func84 rfl rfl rfl fun u R => ?_
  simp only [Zx, List.cons_append, List.nil_append]
  repeat' (first | (refine ZE ?_; refine Zn (Zd rfl) rfl rfl ?_) | (refine Zj ?_; first | (refine Zf ?_; refine qQ ?_) | refine Zm ?_) | refine Za ?_ | (refine Zi ?_; refine Zt ?_) | (refine Zh ?_; refine Zs ?_) | intro _)
  exact qE (L' := [[]]) ⟨rfl, [], OwnS.nil 2, rfl⟩
 | some ad =>
  refine Zg Tryz.func84 rfl rfl rfl fun u R => ?_
  simp only [Zx, List.cons_append, List.nil_append]
  repeat' (first | (refine ZE ?_; refine Zn (Zd rfl) rfl rfl ?_) | (refine Zj ?_; first | (refine Zf ?_; refine qQ ?_) | refine Zm ?_) | refine Za ?_ | (refine Zi ?_; refine Zt ?_) | (refine Zh ?_; refine Zs ?_) | intro _)
  rename_i bx
  refine Xp (n := 0) (xs := []) (sp := []) (ys := ((l.map lfV).flatten)) (sz := 2) rfl rfl (OwnS.zero' _ 2) (hR := YG) h.srcV (by rw [flatN_len lfV_len]; omega) (flat_oneG (fun _ => rfl) l) (by decide) rfl (by omega) (by omega) rfl (fun v' sp' hown' => ?_)
  simp only [Nat.zero_add, List.nil_append] at hown' ⊢
  repeat' (first | (refine ZE ?_; refine Zn (Zd rfl) rfl rfl ?_) | (refine Zj ?_; first | (refine Zf ?_; refine qQ ?_) | refine Zm ?_) | refine Za ?_ | (refine Zi ?_; refine Zt ?_) | (refine Zh ?_; refine Zs ?_) | intro _)
  rw [← hl] at hown'
  exact qE ⟨rfl, sp', hown', rfl⟩
theorem cloneU_spec (ρ : Hp) (a : Option Addr) (n c : Nat) (l : List Nat) (h : SIn ρ Yj a n l) (hn : n ≤ 1200000000000) (hc : n ≤ c) : Spec Tryz.prog 85 [.slice a n c] ρ []
  (fun v ρ' L' => ρ' = ρ ∧ ∃ sp, OwnS v l.length (l.map Yj) sp 1 ∧ L' = [ZZ v (l.map Yj) sp 28]) := by
 have hl := h.len
 cases a with
 | none =>
  have hl0 : l = [] := by
   by_cases h0 : 0 < l.length
   ·obtain ⟨b, off, C, T, fr, h, _⟩ := h.get h0
    cases h
   ·exact List.eq_nil_of_length_eq_zero (by omega)
  subst hl0
  refine Zg Tryz.func85 rfl rfl rfl fun u R => ?_
  simp only [Zx, List.cons_append, List.nil_append]
  repeat' (first | (refine ZE ?_; refine Zn (Zd rfl) rfl rfl ?_) | (refine Zj ?_; first | (refine Zf ?_; refine qQ ?_) | refine Zm ?_) | refine Za ?_ | (refine Zi ?_; refine Zt ?_) | (refine Zh ?_; refine Zs ?_) | intro _)
  exact qE (L' := [[]]) ⟨rfl, [], OwnS.nil 1, rfl⟩
 | some ad =>
  refine Zg Tryz.func85 rfl rfl rfl fun u R => ?_
  simp only [Zx, List.cons_append, List.nil_append]
  repeat' (first | (refine ZE ?_; refine Zn (Zd rfl) rfl rfl ?_) | (refine Zj ?_; first | (refine Zf ?_; refine qQ ?_) | refine Zm ?_) | refine Za ?_ | (refine Zi ?_; refine Zt ?_) | (refine Zh ?_; refine Zs ?_) | intro _)
  rename_i bx
  refine Xp (n := 0) (xs := []) (sp := []) (ys := (l.map Yj)) (sz := 1) rfl rfl (OwnS.zero' _ 1) (hR := YG) h.srcV (by simp; omega) (by simp [Value.oneCell']) (by decide) rfl (by omega) (by omega) rfl (fun v' sp' hown' => ?_)
  simp only [Nat.zero_add, List.nil_append] at hown' ⊢
  repeat' (first | (refine ZE ?_; refine Zn (Zd rfl) rfl rfl ?_) | (refine Zj ?_; first | (refine Zf ?_; refine qQ ?_) | refine Zm ?_) | refine Za ?_ | (refine Zi ?_; refine Zt ?_) | (refine Zh ?_; refine Zs ?_) | intro _)
  rw [← hl] at hown'
  exact qE ⟨rfl, sp', hown', rfl⟩
def zRc : Rc := ⟨0, 0, 0, 0, 0, [], [], 0, [], []⟩
def zRV : RV := ⟨YI, YI, YI, YI⟩
theorem RcIn.zero {ρ : Hp} : RcIn ρ zRV zRc := ⟨AS.nil, by simp [zRc], AS.nil, AS.nil, AS.nil, by simp [zRc]⟩
structure CW (ρ : Hp) (v : CV) (c : Cont) : Prop where
 r : AIn ρ 4 rowV v.ra v.rn c.rows
 k : AIn ρ 3 kidV v.ka v.kn c.kids
 rb : v.rn ≤ 140737488355328
 kb : v.kn ≤ 140737488355328
 rc : v.rn ≤ v.rc
 kc : v.kn ≤ v.kc
 row : ∀ r ∈ c.rows, RowFit r
 kid : ∀ k ∈ c.kids, k.id < 65536
structure AW (ρ : Hp) (sz : Nat) {α : Type} (g : α → List Value) (s : SV) (l : List α) : Prop where
 at' : AIn ρ sz g s.a s.n l
 big : s.n ≤ 140737488355328
 cap : s.n ≤ s.c
structure RcW (ρ : Hp) (v : RV) (r : Rc) : Prop where
 i : AW ρ 7 imV v.i r.ims
 im : ∀ x ∈ r.ims, CW ρ x.bv x.b ∧ CW ρ x.av x.a
 s : AW ρ 6 stpV v.s r.steps
 t : AW ρ 5 ckTV v.t r.txns
 d : AW ρ 2 ckPV v.d r.dirty
 sf : ∀ s ∈ r.steps, RowFit s.row
theorem CW.mono {ρ ρ' v c} (h : CW ρ v c) (hle : ρ.le ρ') : CW ρ' v c := ⟨h.r.mono hle, h.k.mono hle, h.rb, h.kb, h.rc, h.kc, h.row, h.kid⟩
theorem AW.mono {ρ ρ' : Hp} {sz : Nat} {α : Type} {g : α → List Value} {s : SV} {l : List α} (h : AW ρ sz g s l) (hle : ρ.le ρ') : AW ρ' sz g s l := ⟨h.at'.mono hle, h.big, h.cap⟩
theorem RcW.mono {ρ ρ' v r} (h : RcW ρ v r) (hle : ρ.le ρ') : RcW ρ' v r := ⟨h.i.mono hle, fun x hx => ⟨(h.im x hx).1.mono hle, (h.im x hx).2.mono hle⟩, h.s.mono hle, h.t.mono hle, h.d.mono hle, h.sf⟩
def imN (x : Im) : Nat := x.b.rows.length + x.b.kids.length + x.a.rows.length + x.a.kids.length
def overB (r : Rc) : Bool := decide (17 < r.ims.length ∨ 3 < r.steps.length ∨ 9 < r.txns.length ∨ 65 < r.dirty.length) || r.ims.any (fun x => decide (30 < imN x))
theorem RcW.in' {ρ v r} (h : RcW ρ v r) (ho : overB r = false) : RcIn ρ v r ∧ v.i.n ≤ 17 ∧ v.d.n ≤ 65 := by
 unfold overB at ho
 rw [Bool.or_eq_false_iff, decide_eq_false_iff_not, List.any_eq_false] at ho
 obtain ⟨h1, h2⟩ := ho
 have li := h.i.at'.len
 have ls := h.s.at'.len
 have lt := h.t.at'.len
 have ld := h.d.at'.len
 refine ⟨⟨⟨h.i.at', by omega, h.i.cap⟩, fun x hx => ?_, ⟨h.s.at', by omega, h.s.cap⟩, ⟨h.t.at', by omega, h.t.cap⟩, ⟨h.d.at', by omega, h.d.cap⟩, h.sf⟩, by omega, by omega⟩
 have h3 := h2 x hx
 simp only [decide_eq_true_eq] at h3
 unfold imN at h3
 obtain ⟨hb, ha⟩ := h.im x hx
 have e1 := hb.r.len
 have e2 := hb.k.len
 have e3 := ha.r.len
 have e4 := ha.k.len
 exact ⟨⟨⟨hb.r, hb.k, by omega, by omega, hb.rc, hb.kc⟩, hb.row, hb.kid⟩, ⟨⟨ha.r, ha.k, by omega, by omega, ha.rc, ha.kc⟩, ha.row, ha.kid⟩⟩
theorem sort_le {m : List Nat} (h : sortB m = true) : ∀ {i j : Nat}, i ≤ j → j < m.length → m.getD i 0 ≤ m.getD j 0 := by
 intro i j
 induction j with
 | zero => intro hij _; rw [show i = 0 by omega]; exact Nat.le_refl _
 | succ j ih =>
  intro hij hj
  by_cases e : i = j + 1
  ·rw [e]; exact Nat.le_refl _
  ·have h1 := ih (by omega) (by omega)
   have h2 := List.all_eq_true.1 h (j + 1) (List.mem_range.2 hj)
   rw [decide_eq_true_eq] at h2
   rcases h2 with h2 | h2
   ·omega
   ·simp only [Nat.add_sub_cancel] at h2; omega
def tx18B (x : Tx) : Bool := decide (1 ≤ x.state ∧ x.state ≤ 3 ∧ 1 ≤ x.first ∧ x.first ≤ x.undo ∧ x.undo ≤ x.last ∧ x.last ≤ 1099511627776) && (stackB x.undo x.first x.stack && marksB x)
instance (priority := 1200) eqCkP {x y : CkP} : EqC Tryz.prog 8 92 (.agg ⟨ckPV x⟩) (.agg ⟨ckPV y⟩) (decide (x = y)) := by
 have h : EqC Tryz.prog 8 92 (.agg ⟨[.int .i64 x.page, .int .u64 x.since]⟩) (.agg ⟨[.int .i64 y.page, .int .u64 y.since]⟩) _ := inferInstance
 refine ⟨fun d w hd => ?_⟩
 rw [h.out d w hd]
 congr 1
 obtain ⟨t, i⟩ := x
 obtain ⟨t', i'⟩ := y
 simp only [CkP.mk.injEq, Bool.and_true, Bool.decide_and]
 have e : ((i : Int) == (i' : Int)) = decide (i = i') := by
  by_cases h : i = i'
  ·subst h; simp
  ·rw [decide_eq_false h]; simp only [beq_eq_false_iff_ne, ne_eq]; omega
 rw [e]
 by_cases h1 : t = t' <;> by_cases h2 : i = i' <;> simp [h1, h2]
end Go.Proofs.E
namespace Go.Proofs.E
open Go Go.RowKit
set_option linter.unusedVariables false
set_option linter.unusedSimpArgs false
set_option linter.unusedSectionVars false
set_option maxRecDepth 8000
theorem rsw_flat {α : Type} {sz : Nat} {g : α → List Value} {C : List Value} {off : Nat} : ∀ (l : List α) (k : Nat), k ≤ l.length → (∀ i (h : i < l.length), (C.drop (off + i * sz)).take sz = g l[i]) → (C.drop off).take (k * sz) = ((l.take k).map g).flatten
 | l, 0, _, _ => by simp
 | l, k + 1, hk, h => by
  have ih := rsw_flat l k (by omega) h
  rw [show l.take (k + 1) = l.take k ++ [l[k]'(by omega)] from List.take_succ_eq_append_getElem (by omega), Nat.add_mul, Nat.one_mul, List.take_add, ih, List.drop_drop, h k (by omega)]
  simp only [List.map_append, List.flatten_append, List.map_cons, List.map_nil, List.flatten_cons, List.flatten_nil, List.append_nil]
theorem aIn_ofW {ρ : Hp} {α : Type} {sz : Nat} {g : α → List Value} {P : α → Prop} {cs : List Value} {s : Option Addr × Nat × Nat × List α} (hg : ∀ x, (g x).length = sz) (h : RS ρ sz (fun cs x => cs = g x ∧ P x) cs s) : AIn ρ sz g s.1 s.2.1 s.2.2.2 ∧ (∀ x ∈ s.2.2.2, P x) ∧ s.2.1 ≤ s.2.2.1 ∧ s.2.1 ≤ 9223372036854775807 := by
 obtain ⟨a, n, c, ks⟩ := s
 obtain ⟨h1, h2, h3, h4, h5⟩ := h
 dsimp only at h1 h2 h3 h4 h5 ⊢
 refine ⟨⟨h4, ?_, fun x _ => hg x⟩, fun x hx => ?_, h2, by omega⟩
 ·by_cases h0 : n = 0
  ·exact .inl h0
  ·right
   obtain ⟨b, off, C, T, fr, e1, e2, e3, e4⟩ := h5 0 (by omega)
   have same : ∀ i (h : i < ks.length), off + i * sz + sz ≤ C.length ∧ (C.drop (off + i * sz)).take sz = g ks[i] := fun i hi => by
    obtain ⟨b', off', C', T', fr', f1, f2, f3, f4⟩ := h5 i hi
    rw [e1] at f1
    cases f1
    rw [e2] at f2
    cases f2
    exact ⟨f3, f4.1⟩
   refine ⟨b, off, C, T, fr, e1, e2, ?_, ?_⟩
   ·have := (same (n - 1) (by omega)).1
    have e : n * sz = (n - 1) * sz + sz := by
     obtain ⟨m, rfl⟩ : ∃ m, n = m + 1 := ⟨n - 1, by omega⟩
     rw [Nat.add_mul]; simp
    omega
   ·have := rsw_flat (sz := sz) (g := g) ks n (by omega) (fun i hi => (same i hi).2)
    rw [this, List.take_of_length_le (by omega)]
 ·obtain ⟨i, hi, rfl⟩ := List.mem_iff_getElem.1 hx
  obtain ⟨_, _, _, _, _, _, _, _, f⟩ := h5 i hi
  exact f.2
section
variable {H : Type} {enc : TypeId × Value → H} {w : World}
theorem opnS_str : OpnS enc Tryz.prog w 9 (fun cs (l : List UInt8) => cs = [strV l]) := Opn.sized (fun fuel cs x h => by
 obtain ⟨s, rfl, _, _⟩ := DataW.trod_string Tryz.underlying9 h
 obtain ⟨⟨l⟩⟩ := s
 exact ⟨l, rfl⟩)
theorem opnS_key : OpnS enc Tryz.prog w 56 (fun cs (k : Int × Nat) => cs = keyV k.1 k.2 ∧ k.2 < 65536) := Opn.sized (fun fuel cs x h => by
 obtain ⟨hl, hf⟩ := opn_fields Tryz.underlying56 h
 have hl : cs.length = 2 := by rw [hl]; kernel_rfl
 obtain ⟨c0, c1, rfl⟩ : ∃ c0 c1, cs = [c0, c1] := by
  match cs, hl with
  | [c0, c1], _ => exact ⟨c0, c1, rfl⟩
 obtain ⟨t, h0, _⟩ := opn_field h Tryz.underlying56 0 0 1 rfl rfl rfl (by kernel_rfl) (YF Tryz.underlying3)
 obtain ⟨i, h1, i0, i1⟩ := opn_field h Tryz.underlying56 1 1 1 rfl rfl rfl (by kernel_rfl) (YF Tryz.underlying54)
 simp only [List.drop_zero, List.drop_succ_cons, List.take_succ_cons, List.take_zero, List.cons.injEq, and_true] at h0 h1
 subst h0; subst h1
 simp only [lo, hi] at i0 i1
 refine ⟨(t, i.toNat), ?_, by dsimp only; omega⟩
 have : ((i.toNat : Nat) : Int) = i := by omega
 simp only [keyV, this])
theorem opnS_row : OpnS enc Tryz.prog w 58 (fun cs (r : Row) => cs = rowV r ∧ RowFit r) := fun fuel cs x h hw => by
 obtain ⟨hl, hf⟩ := Xb Tryz.underlying58 h hw
 have hl : cs.length = 4 := by rw [hl]; kernel_rfl
 obtain ⟨c0, c1, c2, c3, rfl⟩ : ∃ c0 c1 c2 c3, cs = [c0, c1, c2, c3] := by
  match cs, hl with
  | [c0, c1, c2, c3], _ => exact ⟨c0, c1, c2, c3, rfl⟩
 obtain ⟨⟨t, i⟩, h0, hi0⟩ := ZL h hw Tryz.underlying58 0 0 2 rfl rfl rfl (by kernel_rfl) opnS_key
 obtain ⟨v, h1, v0, v1⟩ := ZL h hw Tryz.underlying58 1 2 1 rfl rfl rfl (by kernel_rfl) (YF Tryz.underlying2).sized
 obtain ⟨s, h2⟩ := ZL h hw Tryz.underlying58 2 3 1 rfl rfl rfl (by kernel_rfl) opnS_str
 simp only [List.drop_zero, List.drop_succ_cons, List.take_succ_cons, List.take_zero, List.cons.injEq, and_true, keyV] at h0 h1 h2
 obtain ⟨rfl, rfl⟩ := h0
 subst h1; subst h2
 simp only [lo, hi] at v0 v1
 exact ⟨⟨t, i, v, s⟩, rfl, ⟨hi0, v0, v1⟩⟩
theorem opnS_kid : OpnS enc Tryz.prog w 230 (fun cs (k : Kid) => cs = kidV k ∧ k.id < 65536) := fun fuel cs x h hw => by
 obtain ⟨hl, hf⟩ := Xb Tryz.underlying230 h hw
 have hl : cs.length = 3 := by rw [hl]; kernel_rfl
 obtain ⟨c0, c1, c2, rfl⟩ : ∃ c0 c1 c2, cs = [c0, c1, c2] := by
  match cs, hl with
  | [c0, c1, c2], _ => exact ⟨c0, c1, c2, rfl⟩
 obtain ⟨⟨t, i⟩, h0, hi0⟩ := ZL h hw Tryz.underlying230 0 0 2 rfl rfl rfl (by kernel_rfl) opnS_key
 obtain ⟨v, h1, _⟩ := ZL h hw Tryz.underlying230 1 2 1 rfl rfl rfl (by kernel_rfl) (YF Tryz.underlying3).sized
 simp only [List.drop_zero, List.drop_succ_cons, List.take_succ_cons, List.take_zero, List.cons.injEq, and_true, keyV] at h0 h1
 obtain ⟨rfl, rfl⟩ := h0
 subst h1
 exact ⟨⟨t, i, v⟩, rfl, hi0⟩
theorem opnS_cont : OpnS enc Tryz.prog w 98 (fun cs (x : CV × Cont) => cs = contV x.2.kind x.1 ∧ CW (hpOf w) x.1 x.2) := fun fuel cs x h hw => by
 obtain ⟨hl, hf⟩ := Xb Tryz.underlying98 h hw
 have hl : cs.length = 3 := by rw [hl]; kernel_rfl
 obtain ⟨c0, c1, c2, rfl⟩ : ∃ c0 c1 c2, cs = [c0, c1, c2] := by
  match cs, hl with
  | [c0, c1, c2], _ => exact ⟨c0, c1, c2, rfl⟩
 obtain ⟨k, h0, _⟩ := ZL h hw Tryz.underlying98 0 0 1 rfl rfl rfl (by kernel_rfl) (YF Tryz.underlying3).sized
 obtain ⟨⟨ra, rn, rc, rows⟩, h1, w1⟩ := ZL h hw Tryz.underlying98 1 1 1 rfl rfl rfl (by kernel_rfl) (XV (sz := 4) (by' := 40) Tryz.underlying95 (by kernel_rfl) (by decide) (by kernel_rfl) opnS_row)
 obtain ⟨⟨ka, kn, kc, kids⟩, h2, w2⟩ := ZL h hw Tryz.underlying98 2 2 1 rfl rfl rfl (by kernel_rfl) (XV (sz := 3) (by' := 24) Tryz.underlying96 (by kernel_rfl) (by decide) (by kernel_rfl) opnS_kid)
 obtain ⟨g1, g2, g3, _⟩ := aIn_ofW rowV_len h1
 obtain ⟨k1, k2, k3, _⟩ := aIn_ofW kidV_len h2
 simp only [reachBytes] at w1 w2
 replace h1 := h1.cells
 replace h2 := h2.cells
 simp only [List.drop_zero, List.drop_succ_cons, List.take_succ_cons, List.take_zero, List.cons.injEq, and_true] at h0 h1 h2
 subst h0; subst h1; subst h2
 exact ⟨(⟨ra, rn, rc, ka, kn, kc⟩, ⟨k, rows, kids⟩), rfl, ⟨g1, k1, by dsimp only; omega, by dsimp only; omega, g3, k3, g2, k2⟩⟩
theorem opnS_image : OpnS enc Tryz.prog w 100 (fun cs (x : Im) => cs = imV x ∧ (CW (hpOf w) x.bv x.b ∧ CW (hpOf w) x.av x.a)) := fun fuel cs x h hw => by
 obtain ⟨hl, hf⟩ := Xb Tryz.underlying100 h hw
 have hl : cs.length = 7 := by rw [hl]; kernel_rfl
 obtain ⟨c0, c1, c2, c3, c4, c5, c6, rfl⟩ : ∃ c0 c1 c2 c3 c4 c5 c6, cs = [c0, c1, c2, c3, c4, c5, c6] := by
  match cs, hl with
  | [c0, c1, c2, c3, c4, c5, c6], _ => exact ⟨c0, c1, c2, c3, c4, c5, c6, rfl⟩
 obtain ⟨k, h0, _⟩ := ZL h hw Tryz.underlying100 0 0 1 rfl rfl rfl (by kernel_rfl) (YF Tryz.underlying3).sized
 obtain ⟨⟨bv, b⟩, h1, w1⟩ := ZL h hw Tryz.underlying100 1 1 3 rfl rfl rfl (by kernel_rfl) opnS_cont
 obtain ⟨⟨av, a⟩, h2, w2⟩ := ZL h hw Tryz.underlying100 2 4 3 rfl rfl rfl (by kernel_rfl) opnS_cont
 simp only [List.drop_zero, List.drop_succ_cons, List.take_succ_cons, List.take_zero, List.cons.injEq, and_true, contV] at h0 h1 h2
 obtain ⟨rfl, rfl, rfl⟩ := h1
 obtain ⟨rfl, rfl, rfl⟩ := h2
 subst h0
 exact ⟨⟨k, bv, b, av, a⟩, rfl, w1, w2⟩
theorem opnS_step : OpnS enc Tryz.prog w 60 (fun cs (x : Stp) => cs = stpV x ∧ RowFit x.row) := fun fuel cs x h hw => by
 obtain ⟨hl, hf⟩ := Xb Tryz.underlying60 h hw
 have hl : cs.length = 6 := by rw [hl]; kernel_rfl
 obtain ⟨c0, c1, c2, c3, c4, c5, rfl⟩ : ∃ c0 c1 c2 c3 c4 c5, cs = [c0, c1, c2, c3, c4, c5] := by
  match cs, hl with
  | [c0, c1, c2, c3, c4, c5], _ => exact ⟨c0, c1, c2, c3, c4, c5, rfl⟩
 obtain ⟨k, h0, _⟩ := ZL h hw Tryz.underlying60 0 0 1 rfl rfl rfl (by kernel_rfl) (YF Tryz.underlying3).sized
 obtain ⟨r, h1, w1⟩ := ZL h hw Tryz.underlying60 1 1 4 rfl rfl rfl (by kernel_rfl) opnS_row
 obtain ⟨b, h2, _⟩ := ZL h hw Tryz.underlying60 2 5 1 rfl rfl rfl (by kernel_rfl) (YF Tryz.underlying2).sized
 simp only [List.drop_zero, List.drop_succ_cons, List.take_succ_cons, List.take_zero, List.cons.injEq, and_true, rowV] at h0 h1 h2
 obtain ⟨rfl, rfl, rfl, rfl⟩ := h1
 subst h0; subst h2
 exact ⟨⟨k, r, b⟩, rfl, w1⟩
theorem u64_back {i : Int} (h : lo .u64 ≤ i) : ((i.toNat : Nat) : Int) = i := by simp only [lo] at h; omega
theorem opnS_ckt : OpnS enc Tryz.prog w 169 (fun cs (x : CkT) => cs = ckTV x ∧ True) := fun fuel cs x h hw => by
 obtain ⟨hl, hf⟩ := Xb Tryz.underlying169 h hw
 have hl : cs.length = 5 := by rw [hl]; kernel_rfl
 obtain ⟨c0, c1, c2, c3, c4, rfl⟩ : ∃ c0 c1 c2 c3 c4, cs = [c0, c1, c2, c3, c4] := by
  match cs, hl with
  | [c0, c1, c2, c3, c4], _ => exact ⟨c0, c1, c2, c3, c4, rfl⟩
 obtain ⟨k, h0, _⟩ := ZL h hw Tryz.underlying169 0 0 1 rfl rfl rfl (by kernel_rfl) (YF Tryz.underlying3).sized
 obtain ⟨f, h1, f0, f1⟩ := ZL h hw Tryz.underlying169 1 1 1 rfl rfl rfl (by kernel_rfl) (YF Tryz.underlying28).sized
 obtain ⟨l, h2, l0, l1⟩ := ZL h hw Tryz.underlying169 2 2 1 rfl rfl rfl (by kernel_rfl) (YF Tryz.underlying28).sized
 obtain ⟨u, h3, u0, u1⟩ := ZL h hw Tryz.underlying169 3 3 1 rfl rfl rfl (by kernel_rfl) (YF Tryz.underlying28).sized
 obtain ⟨s, h4, _⟩ := ZL h hw Tryz.underlying169 4 4 1 rfl rfl rfl (by kernel_rfl) (YF Tryz.underlying3).sized
 simp only [List.drop_zero, List.drop_succ_cons, List.take_succ_cons, List.take_zero, List.cons.injEq, and_true] at h0 h1 h2 h3 h4
 subst h0; subst h1; subst h2; subst h3; subst h4
 refine ⟨⟨k, f.toNat, l.toNat, u.toNat, s⟩, ?_, trivial⟩
 simp only [ckTV, u64_back f0, u64_back l0, u64_back u0]
theorem opnS_ckp : OpnS enc Tryz.prog w 92 (fun cs (x : CkP) => cs = ckPV x ∧ True) := fun fuel cs x h hw => by
 obtain ⟨hl, hf⟩ := Xb Tryz.underlying92 h hw
 have hl : cs.length = 2 := by rw [hl]; kernel_rfl
 obtain ⟨c0, c1, rfl⟩ : ∃ c0 c1, cs = [c0, c1] := by
  match cs, hl with
  | [c0, c1], _ => exact ⟨c0, c1, rfl⟩
 obtain ⟨k, h0, _⟩ := ZL h hw Tryz.underlying92 0 0 1 rfl rfl rfl (by kernel_rfl) (YF Tryz.underlying3).sized
 obtain ⟨f, h1, f0, f1⟩ := ZL h hw Tryz.underlying92 1 1 1 rfl rfl rfl (by kernel_rfl) (YF Tryz.underlying28).sized
 simp only [List.drop_zero, List.drop_succ_cons, List.take_succ_cons, List.take_zero, List.cons.injEq, and_true] at h0 h1
 subst h0; subst h1
 refine ⟨⟨k, f.toNat⟩, ?_, trivial⟩
 simp only [ckPV, u64_back f0]
theorem opnS_rec : OpnS enc Tryz.prog w 34 (fun cs (x : RV × Rc) => cs = recV x.1 x.2 ∧ RcW (hpOf w) x.1 x.2) := fun fuel cs x h hw => by
 obtain ⟨hl, hf⟩ := Xb Tryz.underlying34 h hw
 have hl : cs.length = 10 := by rw [hl]; kernel_rfl
 obtain ⟨c0, c1, c2, c3, c4, c5, c6, c7, c8, c9, rfl⟩ : ∃ c0 c1 c2 c3 c4 c5 c6 c7 c8 c9, cs = [c0, c1, c2, c3, c4, c5, c6, c7, c8, c9] := by
  match cs, hl with
  | [c0, c1, c2, c3, c4, c5, c6, c7, c8, c9], _ => exact ⟨c0, c1, c2, c3, c4, c5, c6, c7, c8, c9, rfl⟩
 obtain ⟨k, h0, _⟩ := ZL h hw Tryz.underlying34 0 0 1 rfl rfl rfl (by kernel_rfl) (YF Tryz.underlying3).sized
 obtain ⟨l, h1, l0, _⟩ := ZL h hw Tryz.underlying34 1 1 1 rfl rfl rfl (by kernel_rfl) (YF Tryz.underlying28).sized
 obtain ⟨t, h2, _⟩ := ZL h hw Tryz.underlying34 2 2 1 rfl rfl rfl (by kernel_rfl) (YF Tryz.underlying3).sized
 obtain ⟨p, h3, p0, _⟩ := ZL h hw Tryz.underlying34 3 3 1 rfl rfl rfl (by kernel_rfl) (YF Tryz.underlying28).sized
 obtain ⟨n, h4, n0, _⟩ := ZL h hw Tryz.underlying34 4 4 1 rfl rfl rfl (by kernel_rfl) (YF Tryz.underlying28).sized
 obtain ⟨⟨ia, inn, ic, ims⟩, h5, w5⟩ := ZL h hw Tryz.underlying34 5 5 1 rfl rfl rfl (by kernel_rfl) (XV (sz := 7) (by' := 120) Tryz.underlying29 (by kernel_rfl) (by decide) (by kernel_rfl) opnS_image)
 obtain ⟨⟨sa, sn, sc, steps⟩, h6, w6⟩ := ZL h hw Tryz.underlying34 6 6 1 rfl rfl rfl (by kernel_rfl) (XV (sz := 6) (by' := 56) Tryz.underlying30 (by kernel_rfl) (by decide) (by kernel_rfl) opnS_step)
 obtain ⟨x7, h7, _⟩ := ZL h hw Tryz.underlying34 7 7 1 rfl rfl rfl (by kernel_rfl) (YF Tryz.underlying3).sized
 obtain ⟨⟨ta, tn, tc, txns⟩, h8, w8⟩ := ZL h hw Tryz.underlying34 8 8 1 rfl rfl rfl (by kernel_rfl) (XV (sz := 5) (by' := 40) Tryz.underlying31 (by kernel_rfl) (by decide) (by kernel_rfl) opnS_ckt)
 obtain ⟨⟨da, dn, dc, dirty⟩, h9, w9⟩ := ZL h hw Tryz.underlying34 9 9 1 rfl rfl rfl (by kernel_rfl) (XV (sz := 2) (by' := 16) Tryz.underlying32 (by kernel_rfl) (by decide) (by kernel_rfl) opnS_ckp)
 obtain ⟨i1, i2, i3, _⟩ := aIn_ofW imV_len h5
 obtain ⟨s1, s2, s3, _⟩ := aIn_ofW stpV_len h6
 obtain ⟨t1, t2, t3, _⟩ := aIn_ofW ckTV_len h8
 obtain ⟨d1, d2, d3, _⟩ := aIn_ofW ckPV_len h9
 simp only [reachBytes] at w5 w6 w8 w9
 replace h5 := h5.cells
 replace h6 := h6.cells
 replace h8 := h8.cells
 replace h9 := h9.cells
 simp only [List.drop_zero, List.drop_succ_cons, List.take_succ_cons, List.take_zero, List.cons.injEq, and_true] at h0 h1 h2 h3 h4 h5 h6 h7 h8 h9
 subst h0; subst h1; subst h2; subst h3; subst h4; subst h5; subst h6; subst h7; subst h8; subst h9
 refine ⟨(⟨⟨ia, inn, ic⟩, ⟨sa, sn, sc⟩, ⟨ta, tn, tc⟩, ⟨da, dn, dc⟩⟩, ⟨k, l.toNat, t, p.toNat, n.toNat, ims, steps, x7, txns, dirty⟩), ?_, ⟨⟨i1, by dsimp only; omega, i3⟩, i2, ⟨s1, by dsimp only; omega, s3⟩, ⟨t1, by dsimp only; omega, t3⟩, ⟨d1, by dsimp only; omega, d3⟩, s2⟩⟩
 simp only [recV, u64_back l0, u64_back p0, u64_back n0]
end
structure RosW (ρ : Hp) (v : SV) (r : Ros) : Prop where
 at' : AW ρ 7 txV v r.txns
 tx : ∀ x ∈ r.txns, Tx.In ρ x
theorem RosW.in' {ρ v r} (h : RosW ρ v r) (hn : v.n ≤ 1000000) : RosIn ρ v r := ⟨⟨h.at'.at', hn, h.at'.cap⟩, h.tx⟩
theorem RosW.mono {ρ ρ' v r} (h : RosW ρ v r) (hle : ρ.le ρ') : RosW ρ' v r := ⟨h.at'.mono hle, fun x hx => (h.tx x hx).mono hle⟩
section
variable {H : Type} {enc : TypeId × Value → H} {w : World}
end
end Go.Proofs.E
namespace Go.Proofs.E
open Go
set_option linter.unusedVariables false
set_option linter.unusedSimpArgs false
set_option linter.unusedSectionVars false
set_option maxRecDepth 4000
set_option maxHeartbeats 1000000
attribute [local irreducible] Yl TL TC TE Spec Wh R1 Hp.le EnvLe TS TR YS Zq
theorem txOk_18 {next last : Int} {x : Tx} : txOk next last x = (decide (last < x.num ∧ x.num < next) && tx18B x) := by
 unfold txOk txHead tx18B
 rw [Bool.eq_iff_iff]
 simp only [Bool.and_eq_true, decide_eq_true_eq]
 constructor
 ·rintro ⟨⟨h1, h2, h3⟩, h4⟩; exact ⟨⟨h1, h2⟩, h3, h4⟩
 ·rintro ⟨⟨h1, h2⟩, h3, h4⟩; exact ⟨⟨h1, h2, h3⟩, h4⟩
structure TxP where
 num : Int
 state : Int
 first : Nat
 last : Nat
 undo : Nat
 stack : List Lf
 marks : List Nat
deriving DecidableEq
abbrev Tx.p (x : Tx) : TxP := ⟨x.num, x.state, x.first, x.last, x.undo, x.stack, x.marks⟩
structure Yh where
 next : Int
 txns : List TxP
deriving DecidableEq
abbrev Ros.p (r : Ros) : Yh := ⟨r.next, r.txns.map Tx.p⟩
instance (priority := 1200) eqLf {x y : Lf} : EqC Tryz.prog 8 108 (.agg ⟨lfV x⟩) (.agg ⟨lfV y⟩) (decide (x = y)) := by
 have h : EqC Tryz.prog 8 108 (.agg ⟨[.int .u64 x.lsn, .int .i64 x.cost]⟩) (.agg ⟨[.int .u64 y.lsn, .int .i64 y.cost]⟩) _ := inferInstance
 refine ⟨fun d w hd => ?_⟩
 rw [h.out d w hd]
 congr 1
 obtain ⟨i, t⟩ := x
 obtain ⟨i', t'⟩ := y
 simp only [Lf.mk.injEq, Bool.and_true, Bool.decide_and]
 have e : ((i : Int) == (i' : Int)) = decide (i = i') := by
  by_cases h : i = i'
  ·subst h; simp
  ·rw [decide_eq_false h]; simp only [beq_eq_false_iff_ne, ne_eq]; omega
 rw [e]
 by_cases h1 : t = t' <;> by_cases h2 : i = i' <;> simp [h1, h2]
theorem map_take_suc {α β : Type} (g : α → β) (l : List α) (k : Nat) (h : k < l.length) : (l.map g).take (k + 1) = (l.map g).take k ++ [g l[k]] := by
 rw [List.take_succ_eq_append_getElem (by simpa using h), List.getElem_map]
def imB (two : Bool) (x : Im) : List UInt8 := tB x.page :: ((if two then XD x.b else []) ++ XD x.a)
def stpB (s : Stp) : List UInt8 := tB s.kind :: (if s.kind = 2 ∨ s.kind = 3 then Yr s.row else tB s.row.t :: (be 2 s.row.id ++ (if s.kind = 1 then be 8 (vN s.by') else [])))
def ckTB (t : CkT) : List UInt8 := be 4 t.txn.toNat ++ (be 8 t.first ++ (be 8 t.last ++ (be 8 t.undo ++ [tB t.state])))
def ckPB (p : CkP) : List UInt8 := tB p.page :: be 8 p.since
def XC {α : Type} (f : α → List UInt8) (l : List α) : List UInt8 := UInt8.ofNat l.length :: l.flatMap f
def recHB (r : Rc) : List UInt8 := tB r.kind :: (be 8 r.lsn ++ (be 4 r.txn.toNat ++ be 8 r.prev))
def imsB (r : Rc) : List UInt8 := XC (imB (decide (r.kind = 2))) r.ims
def recTB (r : Rc) : List UInt8 :=
 if r.kind = 2 then imsB r else if r.kind = 3 then be 8 r.next else if r.kind = 4 then be 8 r.next ++ XC stpB r.steps else if r.kind = 5 then be 8 r.next ++ imsB r
 else if r.kind = 9 then be 4 r.nextTxn.toNat ++ (XC ckTB r.txns ++ XC ckPB r.dirty) else []
def recB (r : Rc) : List UInt8 := recHB r ++ recTB r
structure LayOk (r : Rc) : Prop where
 kind : 0 ≤ r.kind ∧ r.kind < 256
 lsn : r.lsn < 18446744073709551616
 prev : r.prev < 18446744073709551616
 next : r.next < 18446744073709551616
 txn : 0 ≤ r.txn ∧ r.txn < 4294967296
 nextTxn : 0 ≤ r.nextTxn ∧ r.nextTxn < 4294967296
 il : r.ims.length ≤ 16
 im : ∀ x ∈ r.ims, (0 ≤ x.page ∧ x.page < 64) ∧ YE x.a = true ∧ YE x.b = true
 sl : r.steps.length ≤ 2
 st : ∀ s ∈ r.steps, Yy s = true
 tl : r.txns.length ≤ 8
 tx : ∀ t ∈ r.txns, (0 ≤ t.txn ∧ t.txn < 4294967296) ∧ t.first < 18446744073709551616 ∧ t.last < 18446744073709551616 ∧ t.undo < 18446744073709551616 ∧ 0 ≤ t.state ∧ t.state < 256
 dl : r.dirty.length ≤ 64
 di : ∀ p ∈ r.dirty, (0 ≤ p.page ∧ p.page < 64) ∧ p.since < 18446744073709551616
abbrev wrC (wb : Nat) (v : RV) (r : Rc) (w : Value) : List (Nat × Obj) := [(wb, .cells ⟨[.int .i64 r.kind, .int .u64 r.lsn, .int .i64 r.txn, .int .u64 r.prev, .int .u64 r.next, .slice v.i.a v.i.n v.i.c, .slice v.s.a v.s.n v.s.c, .int .i64 r.nextTxn, .slice v.t.a v.t.n v.t.c, .slice v.d.a v.d.n v.d.c, w]⟩ 233 (0, 0))]
abbrev OwnB (w : Value) (l : List UInt8) (sp : List Value) : Prop := OwnS w l.length (l.map u8c) sp 1
abbrev Xw (w : Value) (l : List UInt8) (sp : List Value) : List (Nat × Obj) := ZZ w (l.map u8c) sp 5
abbrev WrP (ρ : Hp) (wb : Nat) (v : RV) (r : Rc) (l : List UInt8) (z : Value) (ρ' : Hp) (L' : List (List (Nat × Obj))) : Prop :=
 z = .tuple ⟨[]⟩ ∧ ρ.le ρ' ∧ ∃ w' sp', OwnB w' l sp' ∧ L' = [Xw w' l sp', wrC wb v r w']
theorem put32_spec (ρ : Hp) (a : Option Addr) (n c : Nat) (l : List UInt8) (h : SIn ρ u8c a n l) (x : Nat) (hx : x < 4294967296) (hn : n ≤ 1000000) :
  Spec Tryz.prog 212 [.slice a n c, .int .u32 x] ρ [] (fun v ρ' L' => ρ' = ρ ∧ ∃ sp, OwnS v (n + 4) ((l ++ be 4 x).map u8c) sp 1 ∧ L' = [ZZ v ((l ++ be 4 x).map u8c) sp 5]) := by
 have hw : IntKind.u64.wrap (x : Int) = x := wrap_id (by simp only [lo, hi]; omega)
 have hs := stand_spec ρ a n c l h x 4 (by omega) (by omega) (by omega) hn
 refine Zg Tryz.func212 rfl rfl rfl fun u R => ?_
 simp only [Zx, List.cons_append, List.nil_append]
 repeat' (first | (refine iCv ?_; refine Zn (y_conv rfl) rfl rfl ?_; rw [hw]) | (refine Ze (.func 220) ?_; refine qC rfl rfl (hs) ?_; rintro v ρ' L' hle ⟨rfl, sp, hown, rfl⟩ <;> (try simp only [kM, kN, kO])) | (refine Zj ?_; first | (refine Zf ?_; refine qQ ?_) | refine Zm ?_) | refine Za ?_ | (refine Zi ?_; refine Zt ?_) | (refine Zh ?_; refine Zs ?_) | intro _)
 exact qE ⟨rfl, sp, hown, rfl⟩
theorem flatMap_app {α : Type} (f : α → List UInt8) (l : List α) : ∀ k (h : k < l.length), (l.take (k + 1)).flatMap f = (l.take k).flatMap f ++ f (l[k]'h) := fun k h => Xm f l k h
theorem wbytes_spec (ρ : Hp) (wb : Nat) (v : RV) (r : Rc) (w : Value) (l : List UInt8) (sp : List Value) (hown : OwnB w l sp) (hn : l.length ≤ 100000) (a : Option Addr) (m c : Nat) (ns : List Int) (h : SIn ρ (fun x : Int => Value.int .i64 x) a m ns) (hb : ∀ x ∈ ns, 0 ≤ x ∧ x < 256) (hm : m ≤ 10) :
  Spec Tryz.prog 192 [.pointer (some ⟨wb, 0, none⟩), .slice a m c] ρ [Xw w l sp, wrC wb v r w] (WrP ρ wb v r (l ++ ns.map tB)) := by
 have hl := h.len
 refine Zg Tryz.func192 rfl rfl rfl fun u R => ?_
 simp only [Zx, List.cons_append, List.nil_append]
 repeat' (first | (refine Zj ?_; first | (refine Zf ?_; refine qQ ?_) | refine Zm ?_) | refine Za ?_ | (refine Zi ?_; refine Zt ?_) | (refine Zh ?_; refine Zs ?_) | intro _)
 rw [show Xw w l sp = Xw w (l ++ (ns.take 0).map tB) sp by simp]
 refine ZG [(0, _), (6, _), (7, _)] (fun (ζ : (Nat) × (Value) × (List Value)) => [(8, .int .i64 ζ.1)]) (fun (ζ : (Nat) × (Value) × (List Value)) => ρ) (fun (ζ : (Nat) × (Value) × (List Value)) => [Xw ζ.2.1 (l ++ (ns.take ζ.1).map tB) ζ.2.2, wrC wb v r ζ.2.1]) (fun (ζ : (Nat) × (Value) × (List Value)) => ζ.1 ≤ m ∧ OwnB ζ.2.1 (l ++ (ns.take ζ.1).map tB) ζ.2.2) (fun (ζ : (Nat) × (Value) × (List Value)) => m - ζ.1) ((0, w, sp)) (⟨Nat.zero_le _, by simpa using hown⟩) Zo Zo rfl tk ?_
 rintro ⟨k, w1, sp1⟩ hI
 try simp only [List.cons_append, List.nil_append, List.append_assoc, List.append_eq] at hI ⊢
 try dsimp only at hI ⊢
 obtain ⟨hk, hown1⟩ := hI
 by_cases hlt : k < m
 ·obtain ⟨b, off, C, T, fr, e1, hbb, hcc⟩ := h.get (show k < ns.length by omega)
  have hts := List.take_succ_eq_append_getElem (show k < ns.length by omega)
  have hx := hb _ (List.getElem_mem (show k < ns.length by omega))
  generalize ns[k]'(by omega) = x at *
  have hxl : (l ++ (ns.take k).map tB).length ≤ 100010 := by simp; omega
  have hmm : (l ++ (ns.take k).map tB).map u8c ++ [u8c (tB x)] = (l ++ (ns.take (k + 1)).map tB).map u8c := by rw [hts]; simp
  have hll : (l ++ (ns.take k).map tB).length + 1 = (l ++ (ns.take (k + 1)).map tB).length := by rw [hts]; simp; omega
  have hxB := tB_eq hx.1 hx.2
  generalize hX : l ++ (ns.take k).map tB = X at *
  obtain ⟨va, vc, rfl, _⟩ := hown1.slice
  rw [e1]
  repeat' (first | (refine Zz rfl rfl rfl rfl (by simp) rfl rfl (fun _ => ?_); simp only [hxB]) | (refine Xp (ys := [u8c (tB x)]) (m := 1) rfl rfl hown1 (hR := by infer_instance) SrcV.lit rfl rfl (by decide) rfl (by omega) (by omega) rfl (fun v' sp' hown' => ?_); rw [hmm] at hown' ⊢; rw [hll] at hown'; obtain ⟨va', vc', rfl, _⟩ := hown'.slice) | (refine Zj ?_; first | (refine Zf ?_; refine qQ ?_) | refine Zm ?_) | refine Za ?_ | (refine Zi ?_; refine Zt ?_) | (refine Zh ?_; refine Zs ?_) | intro _)
  rw [← e1]
  refine Zr (k + 1, _, sp') (⟨hlt, hown'⟩) Zo Zo rfl tk inferInstance (by first | omega | (dsimp only; omega))
 ·have hk2 : k = m := by omega
  rw [show ns.take k = ns by rw [hk2, ← hl, List.take_length]] at hown1 ⊢
  repeat' (first | (refine Zj ?_; first | (refine Zf ?_; refine qQ ?_) | refine Zm ?_) | refine Za ?_ | (refine Zi ?_; refine Zt ?_) | (refine Zh ?_; refine Zs ?_) | intro _)
  exact qE ⟨rfl, Hp.le_refl _, w1, sp1, hown1, rfl⟩
theorem wlongs_spec (ρ : Hp) (wb : Nat) (v : RV) (r : Rc) (w : Value) (l : List UInt8) (sp : List Value) (hown : OwnB w l sp) (hn : l.length ≤ 100000) (a : Option Addr) (m c : Nat) (ns : List Nat) (h : SIn ρ (fun x : Nat => Value.int .u64 (x : Int)) a m ns) (hb : ∀ x ∈ ns, x < 18446744073709551616) (hm : m ≤ 10) :
  Spec Tryz.prog 193 [.pointer (some ⟨wb, 0, none⟩), .slice a m c] ρ [Xw w l sp, wrC wb v r w] (WrP ρ wb v r (l ++ ns.flatMap (be 8))) := by
 have hl := h.len
 refine Zg Tryz.func193 rfl rfl rfl fun u R => ?_
 simp only [Zx, List.cons_append, List.nil_append]
 repeat' (first | (refine Zj ?_; first | (refine Zf ?_; refine qQ ?_) | refine Zm ?_) | refine Za ?_ | (refine Zi ?_; refine Zt ?_) | (refine Zh ?_; refine Zs ?_) | intro _)
 rw [show Xw w l sp = Xw w (l ++ (ns.take 0).flatMap (be 8)) sp by simp]
 refine ZG [(0, _), (6, _), (7, _)] (fun (ζ : (Nat) × (Hp) × (Value) × (List Value)) => [(8, .int .i64 ζ.1)]) (fun (ζ : (Nat) × (Hp) × (Value) × (List Value)) => ζ.2.1) (fun (ζ : (Nat) × (Hp) × (Value) × (List Value)) => [Xw ζ.2.2.1 (l ++ (ns.take ζ.1).flatMap (be 8)) ζ.2.2.2, wrC wb v r ζ.2.2.1]) (fun (ζ : (Nat) × (Hp) × (Value) × (List Value)) => ζ.1 ≤ m ∧ ρ.le ζ.2.1 ∧ OwnB ζ.2.2.1 (l ++ (ns.take ζ.1).flatMap (be 8)) ζ.2.2.2) (fun (ζ : (Nat) × (Hp) × (Value) × (List Value)) => m - ζ.1) ((0, ρ, w, sp)) (⟨Nat.zero_le _, Hp.le_refl _, by simpa using hown⟩) Zo Zo rfl tk ?_
 rintro ⟨k, ρ1, w1, sp1⟩ hI
 try simp only [List.cons_append, List.nil_append, List.append_assoc, List.append_eq] at hI ⊢
 try dsimp only at hI ⊢
 obtain ⟨hk, hle1, hown1⟩ := hI
 by_cases hlt : k < m
 ·obtain ⟨b, off, C, T, fr, e1, hbb, hcc⟩ := (h.mono hle1).get (show k < ns.length by omega)
  have hts := flatMap_app (be 8) ns k (by omega)
  have hx := hb _ (List.getElem_mem (show k < ns.length by omega))
  have hfl := YB (be 8) 8 (ns.take k) (fun x _ => Nat.le_of_eq (ZJ 8 x))
  have htl : (ns.take k).length ≤ 10 := by simp; omega
  generalize ns[k]'(by omega) = x at *
  have hxl : (l ++ (ns.take k).flatMap (be 8)).length ≤ 100080 := by simp only [List.length_append]; omega
  have hmm : l ++ (ns.take k).flatMap (be 8) ++ be 8 x = l ++ (ns.take (k + 1)).flatMap (be 8) := by rw [hts]; simp
  have hll : (l ++ (ns.take k).flatMap (be 8)).length + 8 = (l ++ (ns.take (k + 1)).flatMap (be 8)).length := by rw [hts]; simp [ZJ]; omega
  generalize hX : l ++ (ns.take k).flatMap (be 8) = X at *
  obtain ⟨va, vc, rfl, _⟩ := hown1.slice
  rw [e1]
  repeat' (first | (refine Ze (.func 211) ?_; refine Yi (ZZ (.slice va X.length vc) (X.map u8c) sp1 5) (h := by repeat (first | exact YG | apply YQ)) (fun ρ2 hle2 hfz => ?_); obtain ⟨a1, c1, f1, hc1, hs1⟩ := hown1.sIn hfz; cases f1; refine qC rfl rfl (put64_spec _ va _ vc _ hs1 x hx (by omega)) ?_; rintro v' ρ3 L3 hle3 ⟨rfl, sp3, hown3, rfl⟩; simp only [List.cons_append, List.nil_append]; rw [hmm, hll] at hown3; rw [hmm]; obtain ⟨va', vc', rfl, _⟩ := hown3.slice) | (refine Zj ?_; first | (refine Zf ?_; refine qQ ?_) | refine Zm ?_) | refine Za ?_ | (refine Zi ?_; refine Zt ?_) | (refine Zh ?_; refine Zs ?_) | intro _)
  rw [← e1]
  refine Zr (k + 1, ρ3, _, sp3) (⟨hlt, Hp.le_trans hle1 hle2, hown3⟩) Zo Zo rfl tk inferInstance (by first | omega | (dsimp only; omega))
 ·have hk2 : k = m := by omega
  rw [show ns.take k = ns by rw [hk2, ← hl, List.take_length]] at hown1 ⊢
  repeat' (first | (refine Zj ?_; first | (refine Zf ?_; refine qQ ?_) | refine Zm ?_) | refine Za ?_ | (refine Zi ?_; refine Zt ?_) | (refine Zh ?_; refine Zs ?_) | intro _)
  exact qE ⟨rfl, hle1, w1, sp1, hown1, rfl⟩
theorem wtxn_spec (ρ : Hp) (wb : Nat) (v : RV) (r : Rc) (w : Value) (l : List UInt8) (sp : List Value) (hown : OwnB w l sp) (hn : l.length ≤ 100000) (x : Int) (h0 : 0 ≤ x ∧ x < 4294967296) :
  Spec Tryz.prog 194 [.pointer (some ⟨wb, 0, none⟩), .int .i64 x] ρ [Xw w l sp, wrC wb v r w] (WrP ρ wb v r (l ++ be 4 x.toNat)) := by
 have hll : l.length + 4 = (l ++ be 4 x.toNat).length := by simp [ZJ]
 obtain ⟨va, vc, rfl, _⟩ := hown.slice
 obtain ⟨y, rfl⟩ : ∃ y : Nat, x = y := ⟨x.toNat, by omega⟩
 simp only [Int.toNat_natCast] at hll ⊢
 refine Zg Tryz.func194 rfl rfl rfl fun u R => ?_
 simp only [Zx, List.cons_append, List.nil_append]
 repeat' (first | (refine Ze (.func 212) ?_; refine Yi (ZZ (.slice va l.length vc) (l.map u8c) sp 5) (h := by repeat (first | exact YG | apply YQ)) (fun ρ2 hle2 hfz => ?_); obtain ⟨a1, c1, f1, hc1, hs1⟩ := hown.sIn hfz; cases f1; refine qC rfl rfl (put32_spec _ va _ vc _ hs1 y (by omega) (by omega)) ?_; rintro v' ρ3 L3 hle3 ⟨rfl, sp3, hown3, rfl⟩; simp only [List.cons_append, List.nil_append]; rw [hll] at hown3; obtain ⟨va', vc', rfl, _⟩ := hown3.slice) | (refine Zj ?_; first | (refine Zf ?_; refine qQ ?_) | refine Zm ?_) | refine Za ?_ | (refine Zi ?_; refine Zt ?_) | (refine Zh ?_; refine Zs ?_) | intro _)
 exact qE ⟨rfl, hle2, _, sp3, hown3, rfl⟩
theorem wcontent_spec (ρ : Hp) (wb : Nat) (v : RV) (r : Rc) (w : Value) (l : List UInt8) (sp : List Value) (hown : OwnB w l sp) (hn : l.length ≤ 100000) (cv : CV) (c : Cont) (h : CI ρ cv c) (hok : YE c = true) :
  Spec Tryz.prog 213 [.pointer (some ⟨wb, 0, none⟩), .agg ⟨contV c.kind cv⟩] ρ [Xw w l sp, wrC wb v r w] (WrP ρ wb v r (l ++ XD c)) := by
 have hce := contE_spec ρ cv c h.cin (fun r hr => (h.row r hr).id) h.kid
 rw [if_pos hok, if_pos hok] at hce
 have h82 := contB_len hok
 obtain ⟨va, vc, rfl, _⟩ := hown.slice
 refine Zg Tryz.func213 rfl rfl rfl fun u R => ?_
 simp only [Zx, List.cons_append, List.nil_append]
 repeat' (first | (refine Ze (.func 221) ?_; refine qC rfl rfl (hce) ?_; rintro v ρ' L' hle ⟨hle1, a1, n1, c1, rfl, hc1, hs1, rfl⟩ <;> (try simp only [kM, kN, kO])) | (have hn1 := hs1.len; refine Xp (ys := (XD c).map u8c) (m := n1) (sz := 1) rfl rfl hown (hR := by infer_instance) (SIn.srcV hs1) (by simpa using hs1.len) (u8c_one _) (by decide) rfl (by omega) (by omega) rfl (fun v' sp' hown' => ?_); rw [← List.map_append] at hown' ⊢; rw [← hs1.len, ← List.length_append] at hown'; obtain ⟨va', vc', rfl, _⟩ := hown'.slice) | (refine Zj ?_; first | (refine Zf ?_; refine qQ ?_) | refine Zm ?_) | refine Za ?_ | (refine Zi ?_; refine Zt ?_) | (refine Zh ?_; refine Zs ?_) | intro _)
 exact qE ⟨rfl, hle1, _, sp', hown', rfl⟩
theorem sIn_lit {α : Type} {g : α → Value} {ρ : Hp} {b : Nat} {l : List α} {T : TypeId} {fr : Nat × Nat} (h : ρ b = some (.cells ⟨l.map g⟩ T fr)) : SIn ρ g (some ⟨b, 0, none⟩) l.length l :=
 ⟨rfl, .inr ⟨b, 0, _, T, fr, rfl, h, by rw [List.drop_zero, List.take_of_length_le (by simp)]⟩⟩
abbrev iV (x : Int) : Value := .int .i64 x
abbrev lV (x : Nat) : Value := .int .u64 (x : Int)
theorem YL (ρ : Hp) (wb : Nat) (v : RV) (r : Rc) (w : Value) (l : List UInt8) (sp : List Value) (hown : OwnB w l sp) (hn : l.length ≤ 100000) (b : Nat) (x : Int) {T : TypeId} {fr : Nat × Nat} (h : ρ b = some (.cells ⟨[.int .i64 x]⟩ T fr)) (hb : 0 ≤ x ∧ x < 256) :
  Spec Tryz.prog 192 [.pointer (some ⟨wb, 0, none⟩), .slice (some ⟨b, 0, none⟩) 1 1] ρ [Xw w l sp, wrC wb v r w] (WrP ρ wb v r (l ++ [tB x])) :=
 wbytes_spec ρ wb v r w l sp hown hn _ 1 1 [x] (sIn_lit (l := [x]) (g := iV) h) (fun y hy => by rw [List.mem_singleton.1 hy]; exact hb) (by decide)
theorem wlong_spec (ρ : Hp) (wb : Nat) (v : RV) (r : Rc) (w : Value) (l : List UInt8) (sp : List Value) (hown : OwnB w l sp) (hn : l.length ≤ 100000) (b : Nat) (x : Nat) {T : TypeId} {fr : Nat × Nat} (h : ρ b = some (.cells ⟨[.int .u64 (x : Int)]⟩ T fr)) (hb : x < 18446744073709551616) :
  Spec Tryz.prog 193 [.pointer (some ⟨wb, 0, none⟩), .slice (some ⟨b, 0, none⟩) 1 1] ρ [Xw w l sp, wrC wb v r w] (WrP ρ wb v r (l ++ be 8 x)) := by
 have := wlongs_spec ρ wb v r w l sp hown hn _ 1 1 [x] (sIn_lit (l := [x]) (g := lV) h) (fun y hy => by rw [List.mem_singleton.1 hy]; exact hb) (by decide)
 simpa only [List.flatMap_cons, List.flatMap_nil, List.append_nil] using this
theorem wlong3_spec (ρ : Hp) (wb : Nat) (v : RV) (r : Rc) (w : Value) (l : List UInt8) (sp : List Value) (hown : OwnB w l sp) (hn : l.length ≤ 100000) (b : Nat) (x y z : Nat) {T : TypeId} {fr : Nat × Nat} (h : ρ b = some (.cells ⟨[.int .u64 (x : Int), .int .u64 (y : Int), .int .u64 (z : Int)]⟩ T fr)) (hx : x < 18446744073709551616) (hy : y < 18446744073709551616) (hz : z < 18446744073709551616) :
  Spec Tryz.prog 193 [.pointer (some ⟨wb, 0, none⟩), .slice (some ⟨b, 0, none⟩) 3 3] ρ [Xw w l sp, wrC wb v r w] (WrP ρ wb v r (l ++ (be 8 x ++ (be 8 y ++ be 8 z)))) := by
 have := wlongs_spec ρ wb v r w l sp hown hn _ 3 3 [x, y, z] (sIn_lit (l := [x, y, z]) (g := lV) h) (fun q hq => by simp at hq; rcases hq with rfl | rfl | rfl <;> assumption) (by decide)
 simpa only [List.flatMap_cons, List.flatMap_nil, List.append_nil] using this
theorem wnested_spec (ρ : Hp) (wb : Nat) (v : RV) (r : Rc) (w : Value) (l : List UInt8) (sp : List Value) (hown : OwnB w l sp) (hn : l.length ≤ 90000) (h0 : r.next < 18446744073709551616) :
  Spec Tryz.prog 196 [.pointer (some ⟨wb, 0, none⟩)] ρ [Xw w l sp, wrC wb v r w] (WrP ρ wb v r (l ++ be 8 r.next)) := by
 have hρ := Hp.le_refl ρ
 refine Zg Tryz.func196 rfl rfl rfl fun u R => ?_
 simp only [Zx, List.cons_append, List.nil_append]
 repeat' (first | (refine Zz rfl rfl rfl rfl (by simp) rfl rfl (fun bs => ?_); refine Yi _ (h := Rem.here) (fun ρz hlz hfz => ?_); have hbs := hfz _ (List.mem_singleton.2 rfl); clear hfz; have hρ := Hp.le_trans hρ hlz; clear hlz; (try simp only [List.nil_append])) | (refine Ze (.func 193) ?_; refine qC rfl rfl (wlong_spec _ wb v r w l sp hown (by omega) _ r.next hbs h0) ?_; rintro v ρ' L' hle ⟨rfl, hl1, w1, sp1, hown, rfl⟩ <;> (try simp only [kM, kN, kO])) | (refine Zj ?_; first | (refine Zf ?_; refine qQ ?_) | refine Zm ?_) | refine Za ?_ | (refine Zi ?_; refine Zt ?_) | (refine Zh ?_; refine Zs ?_) | intro _)
 exact qE ⟨rfl, Hp.le_trans hρ hl1, w1, sp1, hown, rfl⟩
theorem imB_len {two : Bool} {x : Im} (ha : YE x.a = true) (hb : YE x.b = true) : (imB two x).length ≤ 165 := by
 have h1 := contB_len ha
 have h2 := contB_len hb
 cases two <;> simp [imB] <;> omega
theorem wimages_spec (ρ : Hp) (wb : Nat) (v : RV) (r : Rc) (w : Value) (l : List UInt8) (sp : List Value) (hown : OwnB w l sp) (hn : l.length ≤ 80000) (h : RcIn ρ v r) (hL : LayOk r) :
  Spec Tryz.prog 195 [.pointer (some ⟨wb, 0, none⟩)] ρ [Xw w l sp, wrC wb v r w] (WrP ρ wb v r (l ++ imsB r)) := by
 have hρ := Hp.le_refl ρ
 have hA := h.i.at'
 have hl := hA.len
 have hil := hL.il
 refine Zg Tryz.func195 rfl rfl rfl fun u R => ?_
 simp only [Zx, List.cons_append, List.nil_append]
 repeat' (first | (refine Zz rfl rfl rfl rfl (by simp) rfl rfl (fun bs => ?_); refine Yi _ (h := Rem.here) (fun ρz hlz hfz => ?_); have hbs := hfz _ (List.mem_singleton.2 rfl); clear hfz; have hρ := Hp.le_trans hρ hlz; clear hlz; (try simp only [List.nil_append])) | (refine Ze (.func 192) ?_; refine qC rfl rfl (YL _ wb v r w l sp hown (by omega) _ (v.i.n : Int) hbs (by omega)) ?_; rintro v ρ' L' hle ⟨rfl, hl1, w1, sp1, hown, rfl⟩ <;> (try simp only [kM, kN, kO]); have hρ := Hp.le_trans hρ hl1; clear hl1) | (refine Zj ?_; first | (refine Zf ?_; refine qQ ?_) | refine Zm ?_) | refine Za ?_ | (refine Zi ?_; refine Zt ?_) | (refine Zh ?_; refine Zs ?_) | intro _)
 obtain ⟨B, hB⟩ : ∃ B, l ++ [tB (v.i.n : Int)] = B := ⟨_, rfl⟩
 rw [hB] at hown ⊢
 have hBl : B.length ≤ 80001 := by rw [← hB]; simp; omega
 have hfin : B ++ r.ims.flatMap (imB (decide (r.kind = 2))) = l ++ imsB r := by rw [← hB]; simp [imsB, XC, hl, tB]
 generalize hf : imB (decide (r.kind = 2)) = f at *
 rw [show Xw w1 B sp1 = Xw w1 (B ++ (r.ims.take 0).flatMap f) sp1 by simp]
 refine ZG [(0, _), (17, _), (18, _)] (fun (ζ : (Nat) × (Hp) × (Value) × (List Value)) => [(19, .int .i64 ζ.1)]) (fun (ζ : (Nat) × (Hp) × (Value) × (List Value)) => ζ.2.1) (fun (ζ : (Nat) × (Hp) × (Value) × (List Value)) => [Xw ζ.2.2.1 (B ++ (r.ims.take ζ.1).flatMap f) ζ.2.2.2, wrC wb v r ζ.2.2.1]) (fun (ζ : (Nat) × (Hp) × (Value) × (List Value)) => ζ.1 ≤ v.i.n ∧ ρ.le ζ.2.1 ∧ OwnB ζ.2.2.1 (B ++ (r.ims.take ζ.1).flatMap f) ζ.2.2.2) (fun (ζ : (Nat) × (Hp) × (Value) × (List Value)) => v.i.n - ζ.1) ((0, ρ', w1, sp1)) (⟨Nat.zero_le _, hρ, by simpa using hown⟩) Zo Zo rfl tk ?_
 rintro ⟨k, ρ1, w2, sp2⟩ hI
 try simp only [List.cons_append, List.nil_append, List.append_assoc, List.append_eq] at hI ⊢
 try dsimp only at hI ⊢
 obtain ⟨hk, hle1, hown⟩ := hI
 clear hρ
 by_cases hlt : k < v.i.n
 ·obtain ⟨b, off, C, T, fr, e1, hbb, hfit, hcc⟩ := (hA.mono hle1).get (show k < r.ims.length by omega)
  have hts := flatMap_app f r.ims k (by omega)
  have hmem := List.getElem_mem (show k < r.ims.length by omega)
  have hin := (h.im _ hmem).mono hle1
  obtain ⟨hp, ha, hb⟩ := hL.im _ hmem
  have hfl := YB f 165 (r.ims.take k) (fun x hx => by
   rw [← hf]; exact imB_len (hL.im x (List.mem_of_mem_take hx)).2.1 (hL.im x (List.mem_of_mem_take hx)).2.2)
  have htl : (r.ims.take k).length ≤ 16 := by simp; omega
  generalize r.ims[k]'(by omega) = x at *
  have hxl : (B ++ (r.ims.take k).flatMap f).length ≤ 83000 := by simp only [List.length_append]; omega
  have hmm : B ++ (r.ims.take k).flatMap f ++ f x = B ++ (r.ims.take (k + 1)).flatMap f := by rw [hts]; simp
  generalize hX : B ++ (r.ims.take k).flatMap f = X at *
  have hρ := Hp.le_refl ρ1
  have h82 := contB_len hb
  have h83 := contB_len ha
  rw [e1]
  by_cases h2 : r.kind = 2
  ·have hfx : f x = tB x.page :: (XD x.b ++ XD x.a) := by rw [← hf, h2]; rfl
   repeat' (first | (refine Zz rfl rfl rfl rfl (by simp) rfl rfl (fun bs => ?_); refine Yi _ (h := Rem.here) (fun ρz hlz hfz => ?_); have hbs := hfz _ (List.mem_singleton.2 rfl); clear hfz; have hρ := Hp.le_trans hρ hlz; clear hlz; (try simp only [List.nil_append])) | (refine Ze (.func 192) ?_; refine qC rfl rfl (YL _ wb v r w2 X sp2 hown (by omega) _ x.page hbs (by omega)) ?_; rintro v ρ' L' hle ⟨rfl, hl1, w3, sp3, hown, rfl⟩ <;> (try simp only [kM, kN, kO]); have hρ := Hp.le_trans hρ hl1; clear hl1) | (refine Ze (.func 213) ?_; refine qC rfl rfl ((wcontent_spec _ wb v r w3 _ sp3 hown (by (try simp only [List.length_append, List.length_cons, List.length_nil, List.length_map, ZJ]) <;> omega) x.bv x.b (hin.b.mono hρ) hb)) ?_; rintro v ρ' L' hle ⟨rfl, hl1, w4, sp4, hown, rfl⟩ <;> (try simp only [kM, kN, kO]); have hρ := Hp.le_trans hρ hl1; clear hl1) | (refine Ze (.func 213) ?_; refine qC rfl rfl ((wcontent_spec _ wb v r w4 _ sp4 hown (by (try simp only [List.length_append, List.length_cons, List.length_nil, List.length_map, ZJ]) <;> omega) x.av x.a (hin.a.mono hρ) ha)) ?_; rintro v ρ' L' hle ⟨rfl, hl1, w5, sp5, hown, rfl⟩ <;> (try simp only [kM, kN, kO]); have hρ := Hp.le_trans hρ hl1; clear hl1) | (refine Zj ?_; first | (refine Zf ?_; refine qQ ?_) | refine Zm ?_) | refine Za ?_ | (refine Zi ?_; refine Zt ?_) | (refine Zh ?_; refine Zs ?_) | intro _)
   rw [← e1]
   have e2 : X ++ [tB x.page] ++ XD x.b ++ XD x.a = B ++ (r.ims.take (k + 1)).flatMap f := by rw [← hmm, hfx]; simp
   rw [e2] at hown ⊢
   refine Zr (k + 1, _, w5, sp5) (⟨hlt, Hp.le_trans hle1 hρ, hown⟩) Zo Zo rfl tk inferInstance (by first | omega | (dsimp only; omega))
  ·have hfx : f x = tB x.page :: XD x.a := by rw [← hf, decide_eq_false h2]; rfl
   repeat' (first | (refine Zz rfl rfl rfl rfl (by simp) rfl rfl (fun bs => ?_); refine Yi _ (h := Rem.here) (fun ρz hlz hfz => ?_); have hbs := hfz _ (List.mem_singleton.2 rfl); clear hfz; have hρ := Hp.le_trans hρ hlz; clear hlz; (try simp only [List.nil_append])) | (refine Ze (.func 192) ?_; refine qC rfl rfl (YL _ wb v r w2 X sp2 hown (by omega) _ x.page hbs (by omega)) ?_; rintro v ρ' L' hle ⟨rfl, hl1, w3, sp3, hown, rfl⟩ <;> (try simp only [kM, kN, kO]); have hρ := Hp.le_trans hρ hl1; clear hl1) | (refine Ze (.func 213) ?_; refine qC rfl rfl ((wcontent_spec _ wb v r w3 _ sp3 hown (by (try simp only [List.length_append, List.length_cons, List.length_nil, List.length_map, ZJ]) <;> omega) x.av x.a (hin.a.mono hρ) ha)) ?_; rintro v ρ' L' hle ⟨rfl, hl1, w5, sp5, hown, rfl⟩ <;> (try simp only [kM, kN, kO]); have hρ := Hp.le_trans hρ hl1; clear hl1) | (refine Zj ?_; first | (refine Zf ?_; refine qQ ?_) | refine Zm ?_) | refine Za ?_ | (refine Zi ?_; refine Zt ?_) | (refine Zh ?_; refine Zs ?_) | intro _)
   rw [← e1]
   have e2 : X ++ [tB x.page] ++ XD x.a = B ++ (r.ims.take (k + 1)).flatMap f := by rw [← hmm, hfx]; simp
   rw [e2] at hown ⊢
   refine Zr (k + 1, _, w5, sp5) (⟨hlt, Hp.le_trans hle1 hρ, hown⟩) Zo Zo rfl tk inferInstance (by first | omega | (dsimp only; omega))
 ·rw [show r.ims.take k = r.ims by rw [show k = r.ims.length by omega, List.take_length], hfin] at hown ⊢
  repeat' (first | (refine Zj ?_; first | (refine Zf ?_; refine qQ ?_) | refine Zm ?_) | refine Za ?_ | (refine Zi ?_; refine Zt ?_) | (refine Zh ?_; refine Zs ?_) | intro _)
  exact qE ⟨rfl, hle1, w2, sp2, hown, rfl⟩
theorem wundone_spec (ρ : Hp) (wb : Nat) (v : RV) (r : Rc) (w : Value) (l : List UInt8) (sp : List Value) (hown : OwnB w l sp) (hn : l.length ≤ 70000) (h : RcIn ρ v r) (hL : LayOk r) :
  Spec Tryz.prog 198 [.pointer (some ⟨wb, 0, none⟩)] ρ [Xw w l sp, wrC wb v r w] (WrP ρ wb v r (l ++ (be 8 r.next ++ imsB r))) := by
 refine Zg Tryz.func198 rfl rfl rfl fun u R => ?_
 simp only [Zx, List.cons_append, List.nil_append]
 repeat' (first | (refine Ze (.func 196) ?_; refine qC rfl rfl (wnested_spec _ wb v r w l sp hown (by omega) hL.next) ?_; rintro v ρ' L' hle ⟨rfl, hl1, w1, sp1, hown, rfl⟩ <;> (try simp only [kM, kN, kO])) | (refine Ze (.func 195) ?_; refine qC rfl rfl (wimages_spec _ wb v r w1 _ sp1 hown (by (try simp only [List.length_append, List.length_cons, List.length_nil, List.length_map, ZJ]) <;> omega) (h.mono hl1) hL) ?_; rintro v ρ' L' hle ⟨rfl, hl2, w2, sp2, hown, rfl⟩ <;> (try simp only [kM, kN, kO])) | (refine Zj ?_; first | (refine Zf ?_; refine qQ ?_) | refine Zm ?_) | refine Za ?_ | (refine Zi ?_; refine Zt ?_) | (refine Zh ?_; refine Zs ?_) | intro _)
 rw [List.append_assoc] at hown ⊢
 exact qE ⟨rfl, Hp.le_trans hl1 hl2, w2, sp2, hown, rfl⟩
end Go.Proofs.E
