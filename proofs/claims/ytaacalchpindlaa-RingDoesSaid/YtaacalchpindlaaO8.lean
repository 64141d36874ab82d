/- The law RingDoes. Part 8 of 17. -/
import Derived.Test.YtaacalchpindlaaO7
namespace Go.Proofs.E
open Go
set_option linter.unusedVariables false
set_option linter.unusedSimpArgs false
set_option linter.unusedSectionVars false
set_option maxRecDepth 4000
set_option maxHeartbeats 1000000
attribute [local irreducible] Yl TL TC TE Spec Xt R1 Hp.le EnvLe TS TR YS Zo
abbrev secS (rb rbx db : Nat) (R : RgS) (w : RW) : SH := [[(rbx, .cells ⟨[.pointer (some ⟨rb, 0, none⟩)]⟩ 39 (0, 0))], [(rb, .cells ⟨rgV R db w⟩ 84 (0, 0))]]
def entAns (ρ' : Hp) (r : Option Bs × DS × Int) (v : Value) : Prop := match r.1 with
 | none => v = .tuple ⟨[.slice none 0 0, .bool false, .int .i64 r.2.2]⟩
 | some b => ∃ e : BSl, v = .tuple ⟨[slv e, .bool true, .int .i64 0]⟩ ∧ BIn ρ' e ∧ e.l = b
theorem entry_spec (ρ : Hp) (rb rbx db : Nat) (R : RgS) (w : RW) (k : DK) (D : DS) (hD : DOk k D) (h : Hd) (na : Option Addr) (nn nc n at' left : Nat) (hsz : 0 < h.size) (hsz2 : h.size ≤ 1000) (hat : at' ≤ 1000000) (ht : h.turn ≤ 1073741824) (hn : n ≤ 1099511627776) (hlf : left ≤ 1000) :
  Spec Try.prog 68 [.agg ⟨hdV h na nn nc⟩, .int .u64 n, .int .i64 at', .int .i64 left, .func (.func 67) ⟨[]⟩ ⟨[.pointer (some ⟨rbx, 0, none⟩)]⟩] ρ (secS rb rbx db R w ++ Zi db k D)
   (fun v ρ' L' => ρ.le ρ' ∧ entAns ρ' (Xm h n at' left D) v ∧ DOk k (Xm h n at' left D).2.1 ∧ L' = secS rb rbx db R w ++ Zi db k (Xm h n at' left D).2.1) := by
 by_cases hl0 : left = 0
 ·have he : Xm h n at' left D = (none, D, 0) := by unfold Xm; rw [if_pos hl0]
  rw [he]
  refine Zd Try.func68 rfl rfl rfl fun u R0 => ?_
  simp only [Zw, List.cons_append, List.nil_append]
  repeat' (first | (refine Zf ?_; first | (refine Ze ?_; refine qQ ?_) | refine Zk ?_) | refine Za ?_ | (refine Zg ?_; refine Zu ?_) | (refine Zh ?_; refine Zv ?_) | intro _)
  exact qE (L' := secS rb rbx db R w ++ Zi db k D) ⟨Hp.le_refl _, rfl, hD, rfl⟩
 ·refine Zd Try.func68 rfl rfl rfl fun u R0 => ?_
  simp only [Zw, List.cons_append, List.nil_append]
  generalize hRES : Xm h n at' left D = RES at *
  repeat' (first | (refine Zf ?_; first | (refine Ze ?_; refine qQ ?_) | refine Zk ?_) | refine Za ?_ | (refine Zg ?_; refine Zu ?_) | (refine Zh ?_; refine Zv ?_) | intro _)
  rename_i hb
  refine ZP [(1, _), (2, _), (3, _), (4, _), (5, _), (10, _), (11, _), (12, _)] (fun (ζ : (Nat) × (Nat) × (Nat) × (Hp) × (Value) × (List (Nat × Obj)) × (Bs) × (DS)) => [(16, .int .i64 ζ.1), (14, .int .i64 ζ.2.2.1), (15, .int .u64 ζ.2.1), (13, ζ.2.2.2.2.1)]) (fun (ζ : (Nat) × (Nat) × (Nat) × (Hp) × (Value) × (List (Nat × Obj)) × (Bs) × (DS)) => ζ.2.2.2.1) (fun (ζ : (Nat) × (Nat) × (Nat) × (Hp) × (Value) × (List (Nat × Obj)) × (Bs) × (DS)) => [ζ.2.2.2.2.2.1, [(hb, .cells ⟨hdV h na nn nc⟩ 81 (0, 0))]] ++ (secS rb rbx db R w ++ Zi db k ζ.2.2.2.2.2.2.2)) (fun (ζ : (Nat) × (Nat) × (Nat) × (Hp) × (Value) × (List (Nat × Obj)) × (Bs) × (DS)) => ρ.le ζ.2.2.2.1 ∧ DOk k ζ.2.2.2.2.2.2.2 ∧ ((ζ.1 = 0 ∧ ζ.2.1 = 0 ∧ ζ.2.2.1 = 0 ∧ ζ.2.2.2.2.1 = .slice none 0 0 ∧ ζ.2.2.2.2.2.1 = [] ∧ ζ.2.2.2.2.2.2.2 = D) ∨ (1 ≤ ζ.1 ∧ ζ.1 ≤ Zt ζ.2.2.1 ∧ ζ.2.2.2.2.2.2.1.length = 52 * ζ.1 ∧ ζ.2.2.1 ≤ 8000 ∧ ζ.2.1 ≤ 1073741824 ∧ entGo h n at' ζ.2.1 ζ.2.2.1 (Zt ζ.2.2.1 - ζ.1) ζ.1 ζ.2.2.2.2.2.2.1 ζ.2.2.2.2.2.2.2 = RES ∧ ∃ bb, ζ.2.2.2.2.1 = .slice (some ⟨bb, 0, none⟩) ζ.2.2.1 ζ.2.2.1 ∧ ζ.2.2.2.2.2.1 = [(bb, .cells ⟨(Yi ζ.2.2.1 ζ.2.2.2.2.2.2.1).map ZE⟩ 5 (0, 0))]))) (fun (ζ : (Nat) × (Nat) × (Nat) × (Hp) × (Value) × (List (Nat × Obj)) × (Bs) × (DS)) => 200 - ζ.1) ((0, 0, 0, ρ, .slice none 0 0, [], [], D)) (⟨Hp.le_refl _, hD, .inl ⟨rfl, rfl, rfl, rfl, rfl, rfl⟩⟩) Zx Zx rfl tk ?_
  rintro ⟨k0, turn, size, ρ1, vb, c, acc, D1⟩ hI
  try simp only [List.cons_append, List.nil_append, List.append_assoc, List.append_eq] at hI ⊢
  try dsimp only at hI ⊢
  obtain ⟨hle1, hD1, hor⟩ := hI
  have hrm : ((at' : Int) + (k0 : Int)).tmod (h.size : Int) = (((at' + k0) % h.size : Nat) : Int) := by
   rw [Int.tmod_eq_emod_of_nonneg (by omega), Int.natCast_emod, Int.natCast_add]
  have hml := Nat.mod_lt (at' + k0) hsz
  have hsec := sector_spec ρ1 rb rbx db R w k D1 hD1 (((at' + k0) % h.size : Nat) : Int) (by omega) (by omega)
  have hidx : (2 : Int) + (((at' + k0) % h.size : Nat) : Int) = ((2 + (at' + k0) % h.size : Nat) : Int) := by omega
  rw [hidx] at hsec
  have h64 := Xn hD1.ok ((2 + (at' + k0) % h.size : Nat) : Int)
  rcases hor with ⟨hk0, rfl, rfl, rfl, rfl, rfl⟩ | ⟨hk0, hk1, hacc, hs8, ht8, hgo, bb, rfl, rfl⟩
  ·have hE : RES = if (D1.read ((2 + (at' + k0) % h.size : Nat) : Int)).2.2 ≠ 0 then (none, (D1.read ((2 + (at' + k0) % h.size : Nat) : Int)).1, (D1.read ((2 + (at' + k0) % h.size : Nat) : Int)).2.2) else entGo0 h n at' left (D1.read ((2 + (at' + k0) % h.size : Nat) : Int)).2.1 (D1.read ((2 + (at' + k0) % h.size : Nat) : Int)).1 := by
    rw [← hRES]; unfold Xm; rw [if_neg hl0, hk0, Nat.add_zero]
   generalize D1.read ((2 + (at' + k0) % h.size : Nat) : Int) = r at *
   obtain ⟨D2, s, ec⟩ := r
   dsimp only at hsec h64 hE
   have hpl : (s.map ZE).length = 64 := by simpa using h64
   have hp1 := ZM s
   repeat' (first | (simp only [hrm]; refine Zb (.tmp 32) ?_; refine qC rfl rfl hsec ?_; rintro v2 ρ2 L2 hle2 ⟨rfl, rfl, hD2, rfl⟩; simp only [List.cons_append, List.nil_append, List.append_assoc]) | (refine Zf ?_; first | (refine Ze ?_; refine qQ ?_) | refine Zk ?_) | refine Za ?_ | (refine Zg ?_; refine Zu ?_) | (refine Zh ?_; refine Zv ?_) | intro _)
   by_cases hec : ec = 0
   ·subst hec
    rw [show ((0 : Int) != 0) = false from rfl]
    rename_i bs
    refine YZ [(bs, .cells ⟨s.map ZE⟩ 48 (0, 0))] (h := Rem.here) (fun ρ3 hle3 hfz => ?_)
    rw [if_neg (by simp)] at hE
    have hs4 : SIn ρ3 ZE (some ⟨bs, 0, none⟩) 4 (s.take 4) := by have := Yy (hfz _ (List.mem_singleton.2 rfl)) 0 4 (by omega); rwa [List.drop_zero] at this
    have hs2 : SIn ρ3 ZE (some ⟨bs, 0 + 9 * 1, none⟩) 2 ((s.drop 9).take 2) := Yy (hfz _ (List.mem_singleton.2 rfl)) 9 2 (by omega)
    have hn4 := numb_spec ρ3 (some ⟨bs, 0, none⟩) 4 64 _ hs4 (by omega)
    have hn2 := numb_spec ρ3 (some ⟨bs, 0 + 9 * 1, none⟩) 2 55 _ hs2 (by omega)
    have hb4 : ZW s < 4294967296 := by have := Xl (s.take 4); rw [show (s.take 4).length = 4 by simp; omega] at this; exact this
    have hb2 : Zz s < 65536 := by have := Xl ((s.drop 9).take 2); rw [show ((s.drop 9).take 2).length = 2 by simp; omega] at this; exact this
    change Spec _ _ _ _ _ (fun v ρ' L' => v = .int .u64 (ZW s : Nat) ∧ ρ' = ρ3 ∧ L' = []) at hn4
    change Spec _ _ _ _ _ (fun v ρ' L' => v = .int .u64 (Zz s : Nat) ∧ ρ' = ρ3 ∧ L' = []) at hn2
    repeat' (first | (refine Zf ?_; first | (refine Ze ?_; refine qQ ?_) | refine Zk ?_) | refine Za ?_ | (refine Zg ?_; refine Zu ?_) | (refine Zh ?_; refine Zv ?_) | intro _)
    refine ZA (Zo _ _ ([])) (Zn (hT := tk) (Hp.le_refl _)) ?_
    all_goals (refine rSl 0 ?_; refine rSl 2 ?_)
    all_goals (refine Zp (i := 1) ?_; ((try refine Zl ?_); (first | (refine Zb (.func 81) ?_; refine qC rfl rfl (hn4) ?_; rintro v ρ' L' hle ⟨rfl, rfl, rfl⟩ <;> (try simp only [kM, kN, kO])) | (refine Zb (.func 81) ?_; refine qC rfl rfl (hn2) ?_; rintro v ρ' L' hle ⟨rfl, rfl, rfl⟩ <;> (try simp only [kM, kN, kO])) | (refine Zk ?_; try intro _)) <;> ((try simp only [kM, kN, kO]); refine Za ?_; refine Zm ?_)))
    all_goals (refine Zp (i := 3) ?_; ((try refine Zl ?_); (first | (refine Zb (.func 81) ?_; refine qC rfl rfl (hn4) ?_; rintro v ρ' L' hle ⟨rfl, rfl, rfl⟩ <;> (try simp only [kM, kN, kO])) | (refine Zb (.func 81) ?_; refine qC rfl rfl (hn2) ?_; rintro v ρ' L' hle ⟨rfl, rfl, rfl⟩ <;> (try simp only [kM, kN, kO])) | (refine Zk ?_; try intro _)) <;> ((try simp only [kM, kN, kO]); refine Za ?_; refine Zm ?_)))
    all_goals (refine ZN ?_; refine rCv 4 ?_; refine rAs 5 ?_; refine rAs 6 ?_; refine ZH ?_)
    all_goals have hss := sects_spec ρ' (Zz s) (by omega)
    all_goals by_cases hbad : ZW s < 1 ∨ h.turn < ZW s ∨ 8000 < Zz s ∨ left < Zt (Zz s)
    ·have hEb : RES = (none, D2, 0) := by rw [hE]; unfold entGo0; rw [if_pos hbad]
     by_cases h1 : ZW s < 1
     ·repeat' (first | (refine Zb (.func 41) ?_; refine qC rfl rfl (hss) ?_; rintro v ρ' L' hle ⟨rfl, rfl, rfl⟩ <;> (try simp only [kM, kN, kO])) | (refine Zf ?_; first | (refine Ze ?_; refine qQ ?_) | refine Zk ?_) | refine Za ?_ | (refine Zg ?_; refine Zu ?_) | (refine Zh ?_; refine Zv ?_) | intro _)
      all_goals rw [hEb]
      all_goals exact qE (L' := secS rb rbx db R w ++ Zi db k D2) ⟨Hp.le_trans hle1 ‹_›, rfl, hD2, rfl⟩
     ·by_cases h2 : h.turn < ZW s
      ·repeat' (first | (refine Zb (.func 41) ?_; refine qC rfl rfl (hss) ?_; rintro v ρ' L' hle ⟨rfl, rfl, rfl⟩ <;> (try simp only [kM, kN, kO])) | (refine Zf ?_; first | (refine Ze ?_; refine qQ ?_) | refine Zk ?_) | refine Za ?_ | (refine Zg ?_; refine Zu ?_) | (refine Zh ?_; refine Zv ?_) | intro _)
       all_goals rw [hEb]
       all_goals exact qE (L' := secS rb rbx db R w ++ Zi db k D2) ⟨Hp.le_trans hle1 ‹_›, rfl, hD2, rfl⟩
      ·by_cases h3 : 8000 < Zz s
       ·repeat' (first | (refine Zb (.func 41) ?_; refine qC rfl rfl (hss) ?_; rintro v ρ' L' hle ⟨rfl, rfl, rfl⟩ <;> (try simp only [kM, kN, kO])) | (refine Zf ?_; first | (refine Ze ?_; refine qQ ?_) | refine Zk ?_) | refine Za ?_ | (refine Zg ?_; refine Zu ?_) | (refine Zh ?_; refine Zv ?_) | intro _)
        all_goals rw [hEb]
        all_goals exact qE (L' := secS rb rbx db R w ++ Zi db k D2) ⟨Hp.le_trans hle1 ‹_›, rfl, hD2, rfl⟩
       ·have h4 : left < Zt (Zz s) := by omega
        repeat' (first | (refine Zb (.func 41) ?_; refine qC rfl rfl (hss) ?_; rintro v ρ' L' hle ⟨rfl, rfl, rfl⟩ <;> (try simp only [kM, kN, kO])) | (refine Zf ?_; first | (refine Ze ?_; refine qQ ?_) | refine Zk ?_) | refine Za ?_ | (refine Zg ?_; refine Zu ?_) | (refine Zh ?_; refine Zv ?_) | intro _)
        all_goals rw [hEb]
        all_goals exact qE (L' := secS rb rbx db R w ++ Zi db k D2) ⟨Hp.le_trans hle1 ‹_›, rfl, hD2, rfl⟩
    ·have hEg : RES = if ZJ (ZW s) n (Yi (Zz s) (s.drop 12)) 0 = s then entGo h n at' (ZW s) (Zz s) (Zt (Zz s) - 1) 1 (s.drop 12) D2 else (none, D2, 0) := by rw [hE]; unfold entGo0; rw [if_neg hbad]
     have g1 : 1 ≤ ZW s := by omega
     have g2 : ZW s ≤ h.turn := by omega
     have g3 : Zz s ≤ 8000 := by omega
     have g4 : Zt (Zz s) ≤ left := by omega
     clear hbad
     repeat' (first | (refine Zb (.func 41) ?_; refine qC rfl rfl (hss) ?_; rintro v ρ' L' hle ⟨rfl, rfl, rfl⟩ <;> (try simp only [kM, kN, kO])) | (refine Xc rfl rfl (by omega) (by omega) (by omega) (by omega) rfl (fun bb => ?_); simp only [Nat.mul_one, made_z8, Int.toNat_natCast]) | (refine Zf ?_; first | (refine Ze ?_; refine qQ ?_) | refine Zk ?_) | refine Za ?_ | (refine Zg ?_; refine Zu ?_) | (refine Zh ?_; refine Zv ?_) | intro _)
     rw [show z8 (Zz s) = Yi (Zz s) [] by simp [Yi, z8]]
     have hacc1 : ([] : Bs).length = 52 * k0 := by simp [hk0]
     have hk52 : 52 * k0 ≤ Zz s := by omega
     have hkk : k0 < Zt (Zz s) := by have := YI (Zz s); omega
     have hrem : ZJ (ZW s) n (Yi (Zz s) (([] : Bs) ++ s.drop 12)) k0 ≠ s → RES = (none, D2, 0) := fun hp => by
      rw [hk0, List.nil_append] at hp; rw [hEg, if_neg hp]
     have hgo : ZJ (ZW s) n (Yi (Zz s) (([] : Bs) ++ s.drop 12)) k0 = s → entGo h n at' (ZW s) (Zz s) (Zt (Zz s) - (k0 + 1)) (k0 + 1) (([] : Bs) ++ s.drop 12) D2 = RES := fun hp => by
      rw [hk0, List.nil_append] at hp ⊢; rw [hEg, if_pos hp]
     have hst := fit_copy (size := (Zz s)) (k := k0) (acc := ([] : Bs)) (s := s.drop 12) (by simpa using hacc1) hk52 (by simp; omega)
     have hsn : SIn _ ZE (some ⟨bs, 0 + 12 * 1, none⟩) 52 ((s.drop 12).take 52) := Yy (hfz _ (List.mem_singleton.2 rfl)) 12 52 (by omega)
     rw [List.take_of_length_le (by simp; omega)] at hsn
     have hdst : (if (Zz s) = 52 * k0 then some (⟨bb, 0, none⟩ : Addr) else some ⟨bb, 0 + 52 * k0 * 1, none⟩) = some ⟨bb, 52 * k0, none⟩ := by
      by_cases hx : (Zz s) = 52 * k0
      ·rw [if_pos hx]; have : k0 = 0 := by rcases sects_mul hkk with h | h <;> omega
       rw [this]
      ·rw [if_neg hx]; simp
     have hton : (52 * (k0 : Int)).toNat = 52 * k0 := by omega
     refine ZA (Zo _ _ ([])) (Zn (hT := tk) (Hp.le_refl _)) ?_
     all_goals (refine ZL 0 ?_; refine ZL 1 ?_; refine rMl 2 ?_; refine rSl 3 ?_; refine rSl 4 ?_)
     all_goals (refine Zp (i := 5) ?_; ((try refine Zl ?_); (first | (simp only [hton, Option.map_some, Yg, hdst]; refine tl_copy (ys := (s.drop 12).map ZE) rfl rfl (SIn.srcV hsn) (by simp; omega) (ZM _) (by simp [YY]; omega) rfl ?_; simp only [hst]) | (refine Zk ?_; try intro _)) <;> ((try simp only [kM, kN, kO]); refine Za ?_; refine Zm ?_)))
     all_goals refine ZH ?_
     all_goals (repeat' (first | (refine Zf ?_; first | (refine Ze ?_; refine qQ ?_) | refine Zk ?_) | refine Za ?_ | (refine Zg ?_; refine Zu ?_) | (refine Zh ?_; refine Zv ?_) | intro _))
     have hown : OwnS (.slice (some ⟨bb, 0, none⟩) (Zz s) (Zz s)) (Zz s) ((Yi (Zz s) (([] : Bs) ++ s.drop 12)).map ZE) [] 1 := ⟨.inr ⟨bb, (Zz s), rfl, by simp [YY], by simp [YY], Nat.le_refl _⟩⟩
     have hrd := hown.rd (ρ := ρ') (T := 5)
     rw [show ZO (.slice (some ⟨bb, 0, none⟩) (Zz s) (Zz s)) ((Yi (Zz s) (([] : Bs) ++ s.drop 12)).map ZE) [] 5 = [(bb, .cells ⟨(Yi (Zz s) (([] : Bs) ++ s.drop 12)).map ZE⟩ 5 (0, 0))] by simp [ZO]] at hrd
     have hbs := hfz _ (List.mem_singleton.2 rfl)
     dsimp only at hbs
     have hld : List.take 64 (List.drop 0 (s.map ZE)) = s.map ZE := by rw [List.drop_zero, List.take_of_length_le (by omega)]
     have hpt := part_spec ρ' _ (ZW s) n _ (Zz s) (Zz s) _ hrd (Nat.le_refl _) k0 (by omega) hn (by omega) hkk
     have hpl2 : ((ZJ (ZW s) n (Yi (Zz s) (([] : Bs) ++ s.drop 12)) k0).map ZE).length = 64 := by simp [YF]
     by_cases hp : ZJ (ZW s) n (Yi (Zz s) (([] : Bs) ++ s.drop 12)) k0 = s
     ·rw [hp] at hpt
      refine ZA (Zo _ _ ([])) (Zn (hT := tk) (Hp.le_refl _)) ?_
      all_goals (refine ZL 0 ?_; refine ZL 1 ?_; refine ZL 2 ?_; refine ZL 3 ?_; refine ZX 5 ?_)
      all_goals (refine Zp (i := 4) ?_; ((try refine Zl ?_); (first | (refine Zb (.func 64) ?_; refine qC rfl rfl hpt ?_; rintro v4 ρ4 L4 hle4 ⟨rfl, rfl, rfl⟩; try simp only [List.cons_append, List.nil_append]) | (refine Zk ?_; try intro _)) <;> ((try simp only [kM, kN, kO]); refine Za ?_; refine Zm ?_)))
      all_goals (refine ZN ?_; refine rCm 6 ?_; refine ZH ?_)
      all_goals (repeat' (first | (refine Zf ?_; first | (refine Ze ?_; refine qQ ?_) | refine Zk ?_) | refine Za ?_ | (refine Zg ?_; refine Zu ?_) | (refine Zh ?_; refine Zv ?_) | intro _))
      all_goals refine ZI (k0 + 1, (ZW s), (Zz s), _, _, _, ([] : Bs) ++ s.drop 12, D2) (⟨Hp.le_trans hle1 hle3, hD2, .inr ⟨by dsimp only; omega, hkk, by simp [hacc1]; omega, by dsimp only; omega, by dsimp only; omega, hgo hp, bb, rfl, rfl⟩⟩) Zx Zx rfl tk inferInstance (by first | omega | (dsimp only; omega))
     ·have hlm1 : (ZJ (ZW s) n (Yi (Zz s) (([] : Bs) ++ s.drop 12)) k0).length = 64 := YF _ _ _ _
      refine ZA (Zo _ _ ([])) (Zn (hT := tk) (Hp.le_refl _)) ?_
      all_goals (refine ZL 0 ?_; refine ZL 1 ?_; refine ZL 2 ?_; refine ZL 3 ?_; refine ZX 5 ?_)
      all_goals (refine Zp (i := 4) ?_; ((try refine Zl ?_); (first | (refine Zb (.func 64) ?_; refine qC rfl rfl hpt ?_; rintro v4 ρ4 L4 hle4 ⟨rfl, rfl, rfl⟩; try simp only [List.cons_append, List.nil_append]) | (refine Zk ?_; try intro _)) <;> ((try simp only [kM, kN, kO]); refine Za ?_; refine Zm ?_)))
      all_goals (refine ZN ?_; refine rCm 6 ?_; refine ZH ?_)
      all_goals (repeat' (first | (refine Zf ?_; first | (refine Ze ?_; refine qQ ?_) | refine Zk ?_) | refine Za ?_ | (refine Zg ?_; refine Zu ?_) | (refine Zh ?_; refine Zv ?_) | intro _))
      all_goals rw [hrem hp]
      all_goals exact qE (L' := secS rb rbx db R w ++ Zi db k D2) ⟨Hp.le_trans hle1 hle3, rfl, hD2, rfl⟩
   ·have hcb : (ec != 0) = true := by simpa using hec
    rw [hcb]
    rw [if_pos hec] at hE
    repeat' (first | (refine Zf ?_; first | (refine Ze ?_; refine qQ ?_) | refine Zk ?_) | refine Za ?_ | (refine Zg ?_; refine Zu ?_) | (refine Zh ?_; refine Zv ?_) | intro _)
    rw [hE]
    exact qE (L' := secS rb rbx db R w ++ Zi db k D2) ⟨hle1, rfl, hD2, rfl⟩
  ·have hss := sects_spec ρ1 size (by omega)
   have h154 := sects_le hs8
   by_cases hlt : k0 < Zt size
   ·obtain ⟨j, hj⟩ : ∃ j, Zt size - k0 = j + 1 := ⟨Zt size - k0 - 1, by omega⟩
    have hj2 : Zt size - (k0 + 1) = j := by omega
    have hE := hgo
    rw [hj] at hE
    simp only [entGo] at hE
    generalize D1.read ((2 + (at' + k0) % h.size : Nat) : Int) = r at *
    obtain ⟨D2, s, ec⟩ := r
    dsimp only at hsec h64 hE
    have hpl : (s.map ZE).length = 64 := by simpa using h64
    have hp1 := ZM s
    repeat' (first | (refine Zb (.func 41) ?_; refine qC rfl rfl (hss) ?_; rintro v ρ' L' hle ⟨rfl, rfl, rfl⟩ <;> (try simp only [kM, kN, kO])) | (simp only [hrm]; refine Zb (.tmp 32) ?_; refine qC rfl rfl hsec ?_; rintro v2 ρ2 L2 hle2 ⟨rfl, rfl, hD2, rfl⟩; simp only [List.cons_append, List.nil_append, List.append_assoc]) | (refine Zf ?_; first | (refine Ze ?_; refine qQ ?_) | refine Zk ?_) | refine Za ?_ | (refine Zg ?_; refine Zu ?_) | (refine Zh ?_; refine Zv ?_) | intro _)
    by_cases hec : ec = 0
    ·subst hec
     rw [show ((0 : Int) != 0) = false from rfl]
     rename_i bs
     refine YZ [(bs, .cells ⟨s.map ZE⟩ 48 (0, 0))] (h := Rem.here) (fun ρ3 hle3 hfz => ?_)
     rw [if_neg (by simp)] at hE
     repeat' (first | (refine Zf ?_; first | (refine Ze ?_; refine qQ ?_) | refine Zk ?_) | refine Za ?_ | (refine Zg ?_; refine Zu ?_) | (refine Zh ?_; refine Zv ?_) | intro _)
     have hacc1 : acc.length = 52 * k0 := hacc
     have hk52 : 52 * k0 ≤ size := by rcases sects_mul hlt with h | h <;> omega
     have hkk : k0 < Zt size := hlt
     have hb4 : turn ≤ 1073741824 := ht8
     have hrem : ZJ turn n (Yi size (acc ++ s.drop 12)) k0 ≠ s → RES = (none, D2, 0) := fun hp => by
      rw [← hE, if_neg hp]
     have hgo2 : ZJ turn n (Yi size (acc ++ s.drop 12)) k0 = s → entGo h n at' turn size (Zt size - (k0 + 1)) (k0 + 1) (acc ++ s.drop 12) D2 = RES := fun hp => by
      rw [hj2, ← hE, if_pos hp]
     have hst := fit_copy (size := size) (k := k0) (acc := acc) (s := s.drop 12) (by simpa using hacc1) hk52 (by simp; omega)
     have hsn : SIn _ ZE (some ⟨bs, 0 + 12 * 1, none⟩) 52 ((s.drop 12).take 52) := Yy (hfz _ (List.mem_singleton.2 rfl)) 12 52 (by omega)
     rw [List.take_of_length_le (by simp; omega)] at hsn
     have hdst : (if size = 52 * k0 then some (⟨bb, 0, none⟩ : Addr) else some ⟨bb, 0 + 52 * k0 * 1, none⟩) = some ⟨bb, 52 * k0, none⟩ := by
      by_cases hx : size = 52 * k0
      ·rw [if_pos hx]; have : k0 = 0 := by rcases sects_mul hkk with h | h <;> omega
       rw [this]
      ·rw [if_neg hx]; simp
     have hton : (52 * (k0 : Int)).toNat = 52 * k0 := by omega
     refine ZA (Zo _ _ ([])) (Zn (hT := tk) (Hp.le_refl _)) ?_
     all_goals (refine ZL 0 ?_; refine ZL 1 ?_; refine rMl 2 ?_; refine rSl 3 ?_; refine rSl 4 ?_)
     all_goals (refine Zp (i := 5) ?_; ((try refine Zl ?_); (first | (simp only [hton, Option.map_some, Yg, hdst]; refine tl_copy (ys := (s.drop 12).map ZE) rfl rfl (SIn.srcV hsn) (by simp; omega) (ZM _) (by simp [YY]; omega) rfl ?_; simp only [hst]) | (refine Zk ?_; try intro _)) <;> ((try simp only [kM, kN, kO]); refine Za ?_; refine Zm ?_)))
     all_goals refine ZH ?_
     all_goals (repeat' (first | (refine Zf ?_; first | (refine Ze ?_; refine qQ ?_) | refine Zk ?_) | refine Za ?_ | (refine Zg ?_; refine Zu ?_) | (refine Zh ?_; refine Zv ?_) | intro _))
     have hown : OwnS (.slice (some ⟨bb, 0, none⟩) size size) size ((Yi size (acc ++ s.drop 12)).map ZE) [] 1 := ⟨.inr ⟨bb, size, rfl, by simp [YY], by simp [YY], Nat.le_refl _⟩⟩
     have hrd := hown.rd (ρ := ρ3) (T := 5)
     rw [show ZO (.slice (some ⟨bb, 0, none⟩) size size) ((Yi size (acc ++ s.drop 12)).map ZE) [] 5 = [(bb, .cells ⟨(Yi size (acc ++ s.drop 12)).map ZE⟩ 5 (0, 0))] by simp [ZO]] at hrd
     have hbs := hfz _ (List.mem_singleton.2 rfl)
     dsimp only at hbs
     have hld : List.take 64 (List.drop 0 (s.map ZE)) = s.map ZE := by rw [List.drop_zero, List.take_of_length_le (by omega)]
     have hpt := part_spec ρ3 _ turn n _ size size _ hrd (Nat.le_refl _) k0 (by omega) hn (by omega) hkk
     have hpl2 : ((ZJ turn n (Yi size (acc ++ s.drop 12)) k0).map ZE).length = 64 := by simp [YF]
     by_cases hp : ZJ turn n (Yi size (acc ++ s.drop 12)) k0 = s
     ·rw [hp] at hpt
      refine ZA (Zo _ _ ([])) (Zn (hT := tk) (Hp.le_refl _)) ?_
      all_goals (refine ZL 0 ?_; refine ZL 1 ?_; refine ZL 2 ?_; refine ZL 3 ?_; refine ZX 5 ?_)
      all_goals (refine Zp (i := 4) ?_; ((try refine Zl ?_); (first | (refine Zb (.func 64) ?_; refine qC rfl rfl hpt ?_; rintro v4 ρ4 L4 hle4 ⟨rfl, rfl, rfl⟩; try simp only [List.cons_append, List.nil_append]) | (refine Zk ?_; try intro _)) <;> ((try simp only [kM, kN, kO]); refine Za ?_; refine Zm ?_)))
      all_goals (refine ZN ?_; refine rCm 6 ?_; refine ZH ?_)
      all_goals (repeat' (first | (refine Zf ?_; first | (refine Ze ?_; refine qQ ?_) | refine Zk ?_) | refine Za ?_ | (refine Zg ?_; refine Zu ?_) | (refine Zh ?_; refine Zv ?_) | intro _))
      all_goals refine ZI (k0 + 1, turn, size, _, _, _, acc ++ s.drop 12, D2) (⟨Hp.le_trans hle1 hle3, hD2, .inr ⟨by dsimp only; omega, hkk, by simp [hacc1]; omega, by dsimp only; omega, by dsimp only; omega, hgo2 hp, bb, rfl, rfl⟩⟩) Zx Zx rfl tk inferInstance (by first | omega | (dsimp only; omega))
     ·have hlm1 : (ZJ turn n (Yi size (acc ++ s.drop 12)) k0).length = 64 := YF _ _ _ _
      refine ZA (Zo _ _ ([])) (Zn (hT := tk) (Hp.le_refl _)) ?_
      all_goals (refine ZL 0 ?_; refine ZL 1 ?_; refine ZL 2 ?_; refine ZL 3 ?_; refine ZX 5 ?_)
      all_goals (refine Zp (i := 4) ?_; ((try refine Zl ?_); (first | (refine Zb (.func 64) ?_; refine qC rfl rfl hpt ?_; rintro v4 ρ4 L4 hle4 ⟨rfl, rfl, rfl⟩; try simp only [List.cons_append, List.nil_append]) | (refine Zk ?_; try intro _)) <;> ((try simp only [kM, kN, kO]); refine Za ?_; refine Zm ?_)))
      all_goals (refine ZN ?_; refine rCm 6 ?_; refine ZH ?_)
      all_goals (repeat' (first | (refine Zf ?_; first | (refine Ze ?_; refine qQ ?_) | refine Zk ?_) | refine Za ?_ | (refine Zg ?_; refine Zu ?_) | (refine Zh ?_; refine Zv ?_) | intro _))
      all_goals rw [hrem hp]
      all_goals exact qE (L' := secS rb rbx db R w ++ Zi db k D2) ⟨Hp.le_trans hle1 hle3, rfl, hD2, rfl⟩
    ·have hcb : (ec != 0) = true := by simpa using hec
     rw [hcb]
     rw [if_pos hec] at hE
     repeat' (first | (refine Zf ?_; first | (refine Ze ?_; refine qQ ?_) | refine Zk ?_) | refine Za ?_ | (refine Zg ?_; refine Zu ?_) | (refine Zh ?_; refine Zv ?_) | intro _)
     rw [← hE]
     exact qE (L' := secS rb rbx db R w ++ Zi db k D2) ⟨hle1, rfl, hD2, rfl⟩
   ·have hks : k0 = Zt size := by omega
    rw [show Zt size - k0 = 0 by omega] at hgo
    simp only [entGo] at hgo
    repeat' (first | (refine Zb (.func 41) ?_; refine qC rfl rfl (hss) ?_; rintro v ρ' L' hle ⟨rfl, rfl, rfl⟩ <;> (try simp only [kM, kN, kO])) | (refine Zf ?_; first | (refine Ze ?_; refine qQ ?_) | refine Zk ?_) | refine Za ?_ | (refine Zg ?_; refine Zu ?_) | (refine Zh ?_; refine Zv ?_) | intro _)
    refine te_freeze [(bb, .cells ⟨(Yi size acc).map ZE⟩ 5 (0, 0))] (h := Rem.here) (fun ρ3 hle3 hfz => ?_)
    have hbb := hfz _ (List.mem_singleton.2 rfl)
    dsimp only at hbb
    have hsi : SIn ρ3 ZE (some ⟨bb, 0, none⟩) size (Yi size acc) := by have := Yy hbb 0 size (by simp [YY]); rwa [List.drop_zero, List.take_of_length_le (by simp [YY])] at this
    rw [← hgo]
    exact qE (L' := secS rb rbx db R w ++ Zi db k D1) ⟨Hp.le_trans hle1 hle3, ⟨⟨some ⟨bb, 0, none⟩, size, size, Yi size acc⟩, rfl, ⟨hsi, Nat.le_refl _⟩, rfl⟩, hD1, rfl⟩
theorem entGo_some {h : Hd} {n at' turn size : Nat} : ∀ (j k : Nat) (acc : Bs) (D : DS) {b : Bs} {D' : DS} {e : Int}, entGo h n at' turn size j k acc D = (some b, D', e) → b.length = size ∧ e = 0
 | 0, k, acc, D, b, D', e, hh => by
  simp only [entGo, Prod.mk.injEq, Option.some.injEq] at hh
  exact ⟨by rw [← hh.1, YY], hh.2.2.symm⟩
 | j + 1, k, acc, D, b, D', e, hh => by
  simp only [entGo] at hh
  split at hh
  ·cases hh
  ·split at hh
   ·exact entGo_some j _ _ _ hh
   ·cases hh
theorem entryR_some {h : Hd} {n at' left : Nat} {D D' : DS} {b : Bs} {e : Int} (hh : Xm h n at' left D = (some b, D', e)) : b.length ≤ 8000 ∧ Zt b.length ≤ left ∧ e = 0 := by
 unfold Xm at hh
 split at hh
 ·cases hh
 ·split at hh
  ·cases hh
  ·unfold entGo0 at hh
   split at hh
   ·cases hh
   ·rename_i hc
    split at hh
    ·obtain ⟨h1, h2⟩ := entGo_some _ _ _ _ hh
     rw [h1]; exact ⟨by omega, by omega, h2⟩
    ·cases hh
theorem found_spec (ρ : Hp) (rb db : Nat) (R0 : RgS) (w0 : RW) (hR0 : RIn ρ R0 w0) (k : DK) (D : DS) (hD : DOk k D) :
  Spec Try.prog 50 [.pointer (some ⟨rb, 0, none⟩)] ρ (ZT rb db R0 w0 ++ Zi db k D)
   (fun v ρ' L' => v = .int .i64 (Yh (R0.h.size + 1) R0 D).2.2 ∧ ρ.le ρ' ∧ DOk k (Yh (R0.h.size + 1) R0 D).2.1 ∧ ∃ w', RIn ρ' (Yh (R0.h.size + 1) R0 D).1 w' ∧ L' = ZT rb db (Yh (R0.h.size + 1) R0 D).1 w' ++ Zi db k (Yh (R0.h.size + 1) R0 D).2.1) := by
 generalize hRES : Yh (R0.h.size + 1) R0 D = RES at *
 refine Zd Try.func50 rfl rfl rfl fun u RR => ?_
 simp only [Zw, List.cons_append, List.nil_append]
 repeat' (first | (refine Zf ?_; first | (refine Ze ?_; refine qQ ?_) | refine Zk ?_) | refine Za ?_ | (refine Zg ?_; refine Zu ?_) | (refine Zh ?_; refine Zv ?_) | intro _)
 rename_i rbx
 refine ZP [(1, _), (3, _)] (fun (ζ : (Nat) × (RgS) × (RW) × (Hp) × (DS)) => [(2, .int .i64 0)]) (fun (ζ : (Nat) × (RgS) × (RW) × (Hp) × (DS)) => ζ.2.2.2.1) (fun (ζ : (Nat) × (RgS) × (RW) × (Hp) × (DS)) => [[(rbx, .cells ⟨[.pointer (some ⟨rb, 0, none⟩)]⟩ 39 (0, 0))]] ++ (ZT rb db ζ.2.1 ζ.2.2.1 ++ Zi db k ζ.2.2.2.2)) (fun (ζ : (Nat) × (RgS) × (RW) × (Hp) × (DS)) => ρ.le ζ.2.2.2.1 ∧ RIn ζ.2.2.2.1 ζ.2.1 ζ.2.2.1 ∧ DOk k ζ.2.2.2.2 ∧ Yh ζ.1 ζ.2.1 ζ.2.2.2.2 = RES ∧ ζ.2.1.h = R0.h ∧ R0.h.size + 1 ≤ ζ.1 + ζ.2.1.used) (fun (ζ : (Nat) × (RgS) × (RW) × (Hp) × (DS)) => ζ.1) ((R0.h.size + 1, R0, w0, ρ, D)) (⟨Hp.le_refl _, hR0, hD, hRES, rfl, by omega⟩) Zx Zx rfl tk ?_
 rintro ⟨f, R, w, ρ1, D1⟩ hI
 try simp only [List.cons_append, List.nil_append, List.append_assoc, List.append_eq] at hI ⊢
 try dsimp only at hI ⊢
 obtain ⟨hle1, hR, hD1, hgo, hh, hf⟩ := hI
 have hok := hR.ok
 have hfit := hok.fit
 have hsz := hok.size
 have hpl := hok.place
 have htu := hok.turn
 have hsz0 : R.h.size = R0.h.size := by rw [hh]
 obtain ⟨f', rfl⟩ : ∃ f', f = f' + 1 := ⟨f - 1, by omega⟩
 have hnx := next_spec ρ1 rb db R w hR
 by_cases hn : R.next < 1099511627776
 ·simp only [Yh, if_pos hn] at hgo
  have hent := entry_spec ρ1 rb rbx db R w k D1 hD1 R.h w.na w.nn w.nc R.next (R.h.place + R.used) (R.h.size - R.used) (by omega) (by omega) (by omega) (by omega) (by omega) (by omega)
  have hsome := @entryR_some R.h R.next (R.h.place + R.used) (R.h.size - R.used) D1
  generalize Xm R.h R.next (R.h.place + R.used) (R.h.size - R.used) D1 = r at *
  obtain ⟨ob, D2, e⟩ := r
  simp only [secS, List.cons_append, List.nil_append, Int.natCast_add, Int.natCast_sub hfit] at hent
  have hn' : ((R.next : Nat) : Int) < 1099511627776 := by omega
  generalize hnxe : ((R.next : Nat) : Int) = nx at *
  repeat' (first | (refine Zb (.func 42) ?_; refine qC rfl rfl (hnx) ?_; rintro v ρ' L' hle ⟨rfl, rfl, rfl⟩ <;> (try simp only [kM, kN, kO])) | (refine Zf ?_; first | (refine Ze ?_; refine qQ ?_) | refine Zk ?_) | refine Za ?_ | (refine Zg ?_; refine Zu ?_) | (refine Zh ?_; refine Zv ?_) | intro _)
  cases ob with
  | none =>
   by_cases he : e = 0
   ·subst he
    refine ZA (Zo _ _ ([[(rb, .cells ⟨rgV R db w⟩ 84 (0, 0))], [(rbx, .cells ⟨[.pointer (some ⟨rb, 0, none⟩)]⟩ 39 (0, 0))]])) (Zn (hT := tk) (Hp.le_refl _)) ?_
    all_goals (refine ZX 0 ?_; refine rNc 1 ?_; refine ZU 2 ?_; refine ZX 3 ?_; refine ZX 4 ?_; refine ZX 6 ?_; refine rNc 7 ?_; refine ZU 8 ?_; refine ZU 9 ?_; refine ZX 10 ?_; refine ZX 11 ?_; refine rNc 12 ?_; refine ZU 13 ?_; refine ZX 14 ?_; refine rAd 15 ?_; refine ZX 16 ?_; refine rNc 17 ?_; refine ZU 18 ?_; refine ZU 19 ?_; refine ZX 20 ?_; refine ZX 21 ?_; refine rNc 22 ?_; refine ZU 23 ?_; refine ZX 24 ?_; refine rSb 25 ?_; refine ZL 26 ?_)
    all_goals (refine Zp (i := 5) ?_; ((try refine Zl ?_); (first | (refine Zb (.func 42) ?_; refine qC rfl rfl (hnx) ?_; rintro v ρ' L' hle ⟨rfl, rfl, rfl⟩ <;> (try simp only [kM, kN, kO])) | (refine Zk ?_; try intro _)) <;> ((try simp only [kM, kN, kO]); refine Za ?_; refine Zm ?_)))
    all_goals (refine Zp (i := 27) ?_; ((try refine Zl ?_); (first | (refine Zb (.func 68) ?_; refine qC rfl rfl hent ?_; rintro v4 ρ4 L4 hle4 ⟨hl4, hans, hD2, rfl⟩; obtain rfl := hans; try simp only [List.cons_append, List.nil_append]) | (refine Zk ?_; try intro _)) <;> ((try simp only [kM, kN, kO]); refine Za ?_; refine Zm ?_)))
    all_goals (refine ZN ?_; refine ZL 28 ?_; refine rEx 29 ?_; refine rEx 30 ?_; refine rEx 31 ?_; refine rAs 32 ?_; refine rAs 33 ?_; refine rAs 34 ?_; refine ZH ?_)
    all_goals (repeat' (first | (refine Zf ?_; first | (refine Ze ?_; refine qQ ?_) | refine Zk ?_) | refine Za ?_ | (refine Zg ?_; refine Zu ?_) | (refine Zh ?_; refine Zv ?_) | intro _))
    all_goals rw [← hgo]
    all_goals exact qE (L' := ZT rb db R w ++ Zi db k D2) ⟨rfl, Hp.le_trans hle1 hl4, hD2, w, hR.mono hl4, rfl⟩
   ·have hcb : (e != 0) = true := by simpa using he
    refine ZA (Zo _ _ ([[(rb, .cells ⟨rgV R db w⟩ 84 (0, 0))], [(rbx, .cells ⟨[.pointer (some ⟨rb, 0, none⟩)]⟩ 39 (0, 0))]])) (Zn (hT := tk) (Hp.le_refl _)) ?_
    all_goals (refine ZX 0 ?_; refine rNc 1 ?_; refine ZU 2 ?_; refine ZX 3 ?_; refine ZX 4 ?_; refine ZX 6 ?_; refine rNc 7 ?_; refine ZU 8 ?_; refine ZU 9 ?_; refine ZX 10 ?_; refine ZX 11 ?_; refine rNc 12 ?_; refine ZU 13 ?_; refine ZX 14 ?_; refine rAd 15 ?_; refine ZX 16 ?_; refine rNc 17 ?_; refine ZU 18 ?_; refine ZU 19 ?_; refine ZX 20 ?_; refine ZX 21 ?_; refine rNc 22 ?_; refine ZU 23 ?_; refine ZX 24 ?_; refine rSb 25 ?_; refine ZL 26 ?_)
    all_goals (refine Zp (i := 5) ?_; ((try refine Zl ?_); (first | (refine Zb (.func 42) ?_; refine qC rfl rfl (hnx) ?_; rintro v ρ' L' hle ⟨rfl, rfl, rfl⟩ <;> (try simp only [kM, kN, kO])) | (refine Zk ?_; try intro _)) <;> ((try simp only [kM, kN, kO]); refine Za ?_; refine Zm ?_)))
    all_goals (refine Zp (i := 27) ?_; ((try refine Zl ?_); (first | (refine Zb (.func 68) ?_; refine qC rfl rfl hent ?_; rintro v4 ρ4 L4 hle4 ⟨hl4, hans, hD2, rfl⟩; obtain rfl := hans; try simp only [List.cons_append, List.nil_append]) | (refine Zk ?_; try intro _)) <;> ((try simp only [kM, kN, kO]); refine Za ?_; refine Zm ?_)))
    all_goals (refine ZN ?_; refine ZL 28 ?_; refine rEx 29 ?_; refine rEx 30 ?_; refine rEx 31 ?_; refine rAs 32 ?_; refine rAs 33 ?_; refine rAs 34 ?_; refine ZH ?_)
    all_goals (repeat' (first | (refine Zf ?_; first | (refine Ze ?_; refine qQ ?_) | refine Zk ?_) | refine Za ?_ | (refine Zg ?_; refine Zu ?_) | (refine Zh ?_; refine Zv ?_) | intro _))
    all_goals rw [← hgo]
    all_goals exact qE (L' := ZT rb db R w ++ Zi db k D2) ⟨rfl, Hp.le_trans hle1 hl4, hD2, w, hR.mono hl4, rfl⟩
  | some b =>
   obtain ⟨hb8, hbs, he0⟩ := hsome rfl
   simp only [he0, if_true] at hgo
   refine ZA (Zo _ _ ([[(rb, .cells ⟨rgV R db w⟩ 84 (0, 0))], [(rbx, .cells ⟨[.pointer (some ⟨rb, 0, none⟩)]⟩ 39 (0, 0))]])) (Zn (hT := tk) (Hp.le_refl _)) ?_
   all_goals (refine ZX 0 ?_; refine rNc 1 ?_; refine ZU 2 ?_; refine ZX 3 ?_; refine ZX 4 ?_; refine ZX 6 ?_; refine rNc 7 ?_; refine ZU 8 ?_; refine ZU 9 ?_; refine ZX 10 ?_; refine ZX 11 ?_; refine rNc 12 ?_; refine ZU 13 ?_; refine ZX 14 ?_; refine rAd 15 ?_; refine ZX 16 ?_; refine rNc 17 ?_; refine ZU 18 ?_; refine ZU 19 ?_; refine ZX 20 ?_; refine ZX 21 ?_; refine rNc 22 ?_; refine ZU 23 ?_; refine ZX 24 ?_; refine rSb 25 ?_; refine ZL 26 ?_)
   all_goals (refine Zp (i := 5) ?_; ((try refine Zl ?_); (first | (refine Zb (.func 42) ?_; refine qC rfl rfl (hnx) ?_; rintro v ρ' L' hle ⟨rfl, rfl, rfl⟩ <;> (try simp only [kM, kN, kO])) | (refine Zk ?_; try intro _)) <;> ((try simp only [kM, kN, kO]); refine Za ?_; refine Zm ?_)))
   all_goals (refine Zp (i := 27) ?_; ((try refine Zl ?_); (first | (refine Zb (.func 68) ?_; refine qC rfl rfl hent ?_; rintro v4 ρ4 L4 hle4 ⟨hl4, hans, hD2, rfl⟩; obtain ⟨e4, rfl, hb4, hbl⟩ := hans; try simp only [List.cons_append, List.nil_append]) | (refine Zk ?_; try intro _)) <;> ((try simp only [kM, kN, kO]); refine Za ?_; refine Zm ?_)))
   all_goals (refine ZN ?_; refine ZL 28 ?_; refine rEx 29 ?_; refine rEx 30 ?_; refine rEx 31 ?_; refine rAs 32 ?_; refine rAs 33 ?_; refine rAs 34 ?_; refine ZH ?_)
   all_goals have hR4 := hR.mono hl4
   all_goals have hbl2 := hb4.s.len
   all_goals have had := adds_spec ρ4 rb db R w hR4 e4 hb4 (by rw [← hbl2, hbl]; omega) (by rw [← hbl2, hbl]; omega) hn
   all_goals simp only [hbl] at had
   all_goals (repeat' (first | (refine Zb (.func 44) ?_; refine qC rfl rfl (had) ?_; rintro v ρ' L' hle ⟨rfl, rfl, ev', sp', hR', rfl⟩ <;> (try simp only [kM, kN, kO])) | (refine Zf ?_; first | (refine Ze ?_; refine qQ ?_) | refine Zk ?_) | refine Za ?_ | (refine Zg ?_; refine Zu ?_) | (refine Zh ?_; refine Zv ?_) | intro _))
   all_goals have hu2 : R0.h.size + 1 ≤ f' + (R.adds b).used := by have := YI b.length; simp only [RgS.adds]; omega
   all_goals refine ZI (f', R.adds b, ⟨w.na, w.nn, w.nc, ev', w.els ++ [e4], sp'⟩, _, D2) (⟨Hp.le_trans hle1 hl4, hR', hD2, hgo, hh, hu2⟩) Zx Zx rfl tk inferInstance (by first | omega | (dsimp only; omega))
 ·simp only [Yh, if_neg hn] at hgo
  have hn' : ¬ ((R.next : Nat) : Int) < 1099511627776 := by omega
  generalize hnxe : ((R.next : Nat) : Int) = nx at *
  repeat' (first | (refine Zb (.func 42) ?_; refine qC rfl rfl (hnx) ?_; rintro v ρ' L' hle ⟨rfl, rfl, rfl⟩ <;> (try simp only [kM, kN, kO])) | (refine Zf ?_; first | (refine Ze ?_; refine qQ ?_) | refine Zk ?_) | refine Za ?_ | (refine Zg ?_; refine Zu ?_) | (refine Zh ?_; refine Zv ?_) | intro _)
  rw [← hgo]
  exact qE (L' := ZT rb db R w ++ Zi db k D1) ⟨rfl, hle1, hD1, w, hR, rfl⟩
theorem hread_spec (ρ : Hp) (s : Blk) (h64 : s.length = 64) :
  Spec Try.prog 66 [bv s] ρ [] (fun v ρ' L' => ρ.le ρ' ∧ (∃ na nn nc, v = .tuple ⟨[.agg ⟨hdV (Yr s).1 na nn nc⟩, .bool (Yr s).2]⟩ ∧ SIn ρ' ZE na nn (Yr s).1.note ∧ nn ≤ nc ∧ nn ≤ 32) ∧ L' = []) := by
 have hpl : (s.map ZE).length = 64 := by simpa using h64
 have hp1 := ZM s
 refine Zd Try.func66 rfl rfl rfl fun u RR => ?_
 simp only [Zw, List.cons_append, List.nil_append]
 repeat' (first | (refine Zf ?_; first | (refine Ze ?_; refine qQ ?_) | refine Zk ?_) | refine Za ?_ | (refine Zg ?_; refine Zu ?_) | (refine Zh ?_; refine Zv ?_) | intro _)
 rename_i b1 b2
 simp only [Int.reduceToNat, Nat.reduceMul, Nat.reduceSub, Nat.zero_add]
 refine YZ [(b1, .cells ⟨s.map ZE⟩ 48 (0, 0))] (fun ρ3 hle3 hfz => ?_)
 have hbs := hfz _ (List.mem_singleton.2 rfl)
 dsimp only at hbs
 have hld : List.take 64 (List.drop 0 (s.map ZE)) = s.map ZE := by rw [List.drop_zero, List.take_of_length_le (by omega)]
 have hx21 : (s.map ZE)[21]? = some (ZE (s.getD 21 0)) := by
  rw [List.getElem?_map, List.getD_eq_getElem?_getD, List.getElem?_eq_getElem (by omega)]; rfl
 have hn1 := numb_spec ρ3 (some ⟨b1, 8, none⟩) 4 56 _ (Yy hbs 8 4 (by omega)) (by omega)
 have hn2 := numb_spec ρ3 (some ⟨b1, 12, none⟩) 2 52 _ (Yy hbs 12 2 (by omega)) (by omega)
 have hn3 := numb_spec ρ3 (some ⟨b1, 14, none⟩) 5 50 _ (Yy hbs 14 5 (by omega)) (by omega)
 have hn4 := numb_spec ρ3 (some ⟨b1, 19, none⟩) 2 45 _ (Yy hbs 19 2 (by omega)) (by omega)
 have hl1 := Xl ((s.drop 8).take 4)
 have hl2 := Xl ((s.drop 12).take 2)
 have hl3 := Xl ((s.drop 14).take 5)
 have hl4 := Xl ((s.drop 19).take 2)
 rw [show ((s.drop 8).take 4).length = 4 by simp; omega] at hl1
 rw [show ((s.drop 12).take 2).length = 2 by simp; omega] at hl2
 rw [show ((s.drop 14).take 5).length = 5 by simp; omega] at hl3
 rw [show ((s.drop 19).take 2).length = 2 by simp; omega] at hl4
 have hh : Xu s = ⟨YJ ((s.drop 8).take 4), YJ ((s.drop 14).take 5), YJ ((s.drop 12).take 2), YJ ((s.drop 19).take 2), (s.drop 22).take (s.getD 21 0).toNat⟩ := rfl
 have hnb : (s.getD 21 0).toNat < 256 := (s.getD 21 0).toNat_lt
 have hrd : Yr s = if (Xu s).Right (s.getD 21 0).toNat then (Xu s, decide (Yk (Xu s) = s)) else (zHd, false) := rfl
 generalize Yr s = RB at *
 simp only [ZE] at hx21
 generalize s.getD 21 0 = nb8 at *
 rw [hh] at hrd
 generalize hT : YJ ((s.drop 8).take 4) = T at *
 generalize hS : YJ ((s.drop 12).take 2) = S at *
 generalize hF : YJ ((s.drop 14).take 5) = F at *
 generalize hP : YJ ((s.drop 19).take 2) = P at *
 generalize hN : nb8.toNat = N at *
 have hrd1 : (1 ≤ T ∧ T ≤ 1073741824 ∧ 4 ≤ S ∧ S ≤ 1000 ∧ 1 ≤ F ∧ F ≤ 1099511627776 ∧ P < S ∧ N ≤ 32) → RB = (⟨T, F, S, P, (s.drop 22).take N⟩, decide (Yk ⟨T, F, S, P, (s.drop 22).take N⟩ = s)) := fun h => by rw [hrd]; exact if_pos h
 have hrd2 : ¬ (1 ≤ T ∧ T ≤ 1073741824 ∧ 4 ≤ S ∧ S ≤ 1000 ∧ 1 ≤ F ∧ F ≤ 1099511627776 ∧ P < S ∧ N ≤ 32) → RB = (zHd, false) := fun h => by rw [hrd]; exact if_neg h
 clear hrd hh
 have Tz : ∃ z : Int, z = T := ⟨_, rfl⟩
 obtain ⟨Ti, hTi⟩ := Tz
 obtain ⟨Fi, hFi⟩ : ∃ z : Int, z = F := ⟨_, rfl⟩
 rw [← hTi] at hn1
 rw [← hFi] at hn3
 repeat' (first | (refine Zf ?_; first | (refine Ze ?_; refine qQ ?_) | refine Zk ?_) | refine Za ?_ | (refine Zg ?_; refine Zu ?_) | (refine Zh ?_; refine Zv ?_) | intro _)
 refine ZA (Zo _ _ ([])) (Zn (hT := tk) (Hp.le_refl _)) ?_
 all_goals (refine ZL 0 ?_; refine rSl 1 ?_; refine ZL 3 ?_; refine rSl 4 ?_; refine ZL 7 ?_; refine rSl 8 ?_; refine ZL 10 ?_; refine rSl 11 ?_)
 all_goals (refine YV (i := 2) (j := 15) ?_ ?_ <;> ((try refine Zl ?_); (first | (refine Zb (.func 81) ?_; refine qC rfl rfl (hn1) ?_; rintro v ρ' L' hle ⟨rfl, rfl, rfl⟩ <;> (try simp only [kM, kN, kO])) | (refine Zb (.func 81) ?_; refine qC rfl rfl (hn2) ?_; rintro v ρ' L' hle ⟨rfl, rfl, rfl⟩ <;> (try simp only [kM, kN, kO])) | (refine Zb (.func 81) ?_; refine qC rfl rfl (hn3) ?_; rintro v ρ' L' hle ⟨rfl, rfl, rfl⟩ <;> (try simp only [kM, kN, kO])) | (refine Zb (.func 81) ?_; refine qC rfl rfl (hn4) ?_; rintro v ρ' L' hle ⟨rfl, rfl, rfl⟩ <;> (try simp only [kM, kN, kO])) | (refine Zk ?_; try intro _)) <;> ((try simp only [kM, kN, kO]); refine Za ?_; refine Zm ?_)))
 all_goals (first | (refine YV (i := 5) (j := 15) ?_ ?_ <;> ((try refine Zl ?_); (first | (refine Zb (.func 81) ?_; refine qC rfl rfl (hn1) ?_; rintro v ρ' L' hle ⟨rfl, rfl, rfl⟩ <;> (try simp only [kM, kN, kO])) | (refine Zb (.func 81) ?_; refine qC rfl rfl (hn2) ?_; rintro v ρ' L' hle ⟨rfl, rfl, rfl⟩ <;> (try simp only [kM, kN, kO])) | (refine Zb (.func 81) ?_; refine qC rfl rfl (hn3) ?_; rintro v ρ' L' hle ⟨rfl, rfl, rfl⟩ <;> (try simp only [kM, kN, kO])) | (refine Zb (.func 81) ?_; refine qC rfl rfl (hn4) ?_; rintro v ρ' L' hle ⟨rfl, rfl, rfl⟩ <;> (try simp only [kM, kN, kO])) | (refine Zk ?_; try intro _)) <;> ((try simp only [kM, kN, kO]); refine Za ?_; refine Zm ?_))) | (refine Zp (i := 2) ?_; ((try refine Zl ?_); (first | (refine Zb (.func 81) ?_; refine qC rfl rfl (hn1) ?_; rintro v ρ' L' hle ⟨rfl, rfl, rfl⟩ <;> (try simp only [kM, kN, kO])) | (refine Zb (.func 81) ?_; refine qC rfl rfl (hn2) ?_; rintro v ρ' L' hle ⟨rfl, rfl, rfl⟩ <;> (try simp only [kM, kN, kO])) | (refine Zb (.func 81) ?_; refine qC rfl rfl (hn3) ?_; rintro v ρ' L' hle ⟨rfl, rfl, rfl⟩ <;> (try simp only [kM, kN, kO])) | (refine Zb (.func 81) ?_; refine qC rfl rfl (hn4) ?_; rintro v ρ' L' hle ⟨rfl, rfl, rfl⟩ <;> (try simp only [kM, kN, kO])) | (refine Zk ?_; try intro _)) <;> ((try simp only [kM, kN, kO]); refine Za ?_; refine Zm ?_))))
 all_goals (first | refine rCv 6 ?_ | (refine Zp (i := 5) ?_; ((try refine Zl ?_); (first | (refine Zb (.func 81) ?_; refine qC rfl rfl (hn1) ?_; rintro v ρ' L' hle ⟨rfl, rfl, rfl⟩ <;> (try simp only [kM, kN, kO])) | (refine Zb (.func 81) ?_; refine qC rfl rfl (hn2) ?_; rintro v ρ' L' hle ⟨rfl, rfl, rfl⟩ <;> (try simp only [kM, kN, kO])) | (refine Zb (.func 81) ?_; refine qC rfl rfl (hn3) ?_; rintro v ρ' L' hle ⟨rfl, rfl, rfl⟩ <;> (try simp only [kM, kN, kO])) | (refine Zb (.func 81) ?_; refine qC rfl rfl (hn4) ?_; rintro v ρ' L' hle ⟨rfl, rfl, rfl⟩ <;> (try simp only [kM, kN, kO])) | (refine Zk ?_; try intro _)) <;> ((try simp only [kM, kN, kO]); refine Za ?_; refine Zm ?_))))
 all_goals (first | refine rCv 6 ?_ | (refine YV (i := 9) (j := 15) ?_ ?_ <;> ((try refine Zl ?_); (first | (refine Zb (.func 81) ?_; refine qC rfl rfl (hn1) ?_; rintro v ρ' L' hle ⟨rfl, rfl, rfl⟩ <;> (try simp only [kM, kN, kO])) | (refine Zb (.func 81) ?_; refine qC rfl rfl (hn2) ?_; rintro v ρ' L' hle ⟨rfl, rfl, rfl⟩ <;> (try simp only [kM, kN, kO])) | (refine Zb (.func 81) ?_; refine qC rfl rfl (hn3) ?_; rintro v ρ' L' hle ⟨rfl, rfl, rfl⟩ <;> (try simp only [kM, kN, kO])) | (refine Zb (.func 81) ?_; refine qC rfl rfl (hn4) ?_; rintro v ρ' L' hle ⟨rfl, rfl, rfl⟩ <;> (try simp only [kM, kN, kO])) | (refine Zk ?_; try intro _)) <;> ((try simp only [kM, kN, kO]); refine Za ?_; refine Zm ?_))))
 all_goals (first | (refine YV (i := 12) (j := 15) ?_ ?_ <;> ((try refine Zl ?_); (first | (refine Zb (.func 81) ?_; refine qC rfl rfl (hn1) ?_; rintro v ρ' L' hle ⟨rfl, rfl, rfl⟩ <;> (try simp only [kM, kN, kO])) | (refine Zb (.func 81) ?_; refine qC rfl rfl (hn2) ?_; rintro v ρ' L' hle ⟨rfl, rfl, rfl⟩ <;> (try simp only [kM, kN, kO])) | (refine Zb (.func 81) ?_; refine qC rfl rfl (hn3) ?_; rintro v ρ' L' hle ⟨rfl, rfl, rfl⟩ <;> (try simp only [kM, kN, kO])) | (refine Zb (.func 81) ?_; refine qC rfl rfl (hn4) ?_; rintro v ρ' L' hle ⟨rfl, rfl, rfl⟩ <;> (try simp only [kM, kN, kO])) | (refine Zk ?_; try intro _)) <;> ((try simp only [kM, kN, kO]); refine Za ?_; refine Zm ?_))) | (refine Zp (i := 9) ?_; ((try refine Zl ?_); (first | (refine Zb (.func 81) ?_; refine qC rfl rfl (hn1) ?_; rintro v ρ' L' hle ⟨rfl, rfl, rfl⟩ <;> (try simp only [kM, kN, kO])) | (refine Zb (.func 81) ?_; refine qC rfl rfl (hn2) ?_; rintro v ρ' L' hle ⟨rfl, rfl, rfl⟩ <;> (try simp only [kM, kN, kO])) | (refine Zb (.func 81) ?_; refine qC rfl rfl (hn3) ?_; rintro v ρ' L' hle ⟨rfl, rfl, rfl⟩ <;> (try simp only [kM, kN, kO])) | (refine Zb (.func 81) ?_; refine qC rfl rfl (hn4) ?_; rintro v ρ' L' hle ⟨rfl, rfl, rfl⟩ <;> (try simp only [kM, kN, kO])) | (refine Zk ?_; try intro _)) <;> ((try simp only [kM, kN, kO]); refine Za ?_; refine Zm ?_))))
 all_goals (first | refine rCv 13 ?_ | (refine Zp (i := 12) ?_; ((try refine Zl ?_); (first | (refine Zb (.func 81) ?_; refine qC rfl rfl (hn1) ?_; rintro v ρ' L' hle ⟨rfl, rfl, rfl⟩ <;> (try simp only [kM, kN, kO])) | (refine Zb (.func 81) ?_; refine qC rfl rfl (hn2) ?_; rintro v ρ' L' hle ⟨rfl, rfl, rfl⟩ <;> (try simp only [kM, kN, kO])) | (refine Zb (.func 81) ?_; refine qC rfl rfl (hn3) ?_; rintro v ρ' L' hle ⟨rfl, rfl, rfl⟩ <;> (try simp only [kM, kN, kO])) | (refine Zb (.func 81) ?_; refine qC rfl rfl (hn4) ?_; rintro v ρ' L' hle ⟨rfl, rfl, rfl⟩ <;> (try simp only [kM, kN, kO])) | (refine Zk ?_; try intro _)) <;> ((try simp only [kM, kN, kO]); refine Za ?_; refine Zm ?_))))
 all_goals (first | refine rCv 13 ?_ | refine rBu 14 ?_)
 all_goals (first | refine rBu 14 ?_ | (refine Zp (i := 15) ?_; ((try refine Zl ?_); (first | (refine Zk ?_; try intro _)) <;> ((try simp only [kM, kN, kO]); refine Za ?_; refine Zm ?_))))
 all_goals (refine Zp (i := 16) ?_; ((try refine Zl ?_); (first | (refine Zk ?_; try intro _)) <;> ((try simp only [kM, kN, kO]); refine Za ?_; refine Zm ?_)))
 all_goals refine ZH ?_
 all_goals
  by_cases hr : 1 ≤ T ∧ T ≤ 1073741824 ∧ 4 ≤ S ∧ S ≤ 1000 ∧ 1 ≤ F ∧ F ≤ 1099511627776 ∧ P < S ∧ N ≤ 32
  ·replace hrd1 := hrd1 hr
   obtain ⟨r1, r2, r3, r4, r5, r6, r7, r8⟩ := hr
   have q1 : (1 : Int) ≤ Ti := by omega
   have q2 : Ti ≤ 1073741824 := by omega
   have q5 : (1 : Int) ≤ Fi := by omega
   have q6 : Fi ≤ 1099511627776 := by omega
   rename Nat => b5
   have hnn : ((14 : Int) + (N : Int)).toNat - (14 : Int).toNat = N := by omega
   have hcl := Xb ρ' [] (some ⟨b1, 22, none⟩) N 42 _ (Yy hbs 22 N (by omega)).rd (by omega)
   repeat' (first | (simp only [hnn]; refine Zb (.func 45) ?_; refine qC rfl rfl hcl ?_; rintro v5 ρ5 L5 hle5 ⟨hl5, e5, rfl, hb5, he5, hn5, rfl⟩; try simp only [List.cons_append, List.nil_append]) | (refine Zf ?_; first | (refine Ze ?_; refine qQ ?_) | refine Zk ?_) | refine Za ?_ | (refine Zg ?_; refine Zu ?_) | (refine Zh ?_; refine Zv ?_) | intro _)
   have hfin := Hp.le_trans hle3 hl5
   have hs5 := hb5.s
   rw [he5] at hs5
   have hbs5 := YT hl5 hbs
   subst hTi
   subst hFi
   have hbk := hblock_spec ρ5 ⟨T, F, S, P, (s.drop 22).take N⟩ e5.a e5.n e5.c hs5 (by dsimp only; omega) r6 (by dsimp only; omega) (by dsimp only; omega) (by omega)
   have hlh : (Yk ⟨T, F, S, P, (s.drop 22).take N⟩).length = 64 := Xq _
   have hplh : ((Yk ⟨T, F, S, P, (s.drop 22).take N⟩).map ZE).length = 64 := by simpa using hlh
   by_cases hbe : Yk ⟨T, F, S, P, (s.drop 22).take N⟩ = s
   ·rw [hbe] at hbk
    rw [decide_eq_true hbe] at hrd1
    subst hrd1
    refine ZA (Zo _ _ ([[(b5, .cells ⟨[.int .u64 (T : Int), .int .u64 (F : Int), .int .i64 (S : Int), .int .i64 (P : Int), slv e5]⟩ 81 (0, 0))]])) (Zn (hT := tk) (Hp.le_refl _)) ?_
    all_goals (refine ZX 0 ?_; refine ZX 1 ?_; refine ZX 3 ?_)
    all_goals (refine Zp (i := 2) ?_; ((try refine Zl ?_); (first | (refine Zb (.func 62) ?_; refine qC rfl rfl (hbk) ?_; rintro v ρ' L' hle ⟨rfl, rfl, rfl⟩ <;> (try simp only [kM, kN, kO])) | (refine Zk ?_; try intro _)) <;> ((try simp only [kM, kN, kO]); refine Za ?_; refine Zm ?_)))
    all_goals refine rCm 4 ?_
    all_goals (refine Zp (i := 5) ?_; ((try refine Zl ?_); (first | (refine Zk ?_; try intro _)) <;> ((try simp only [kM, kN, kO]); refine Za ?_; refine Zm ?_)))
    all_goals (refine ZN ?_; refine rAs 6 ?_; refine ZH ?_)
    all_goals (repeat' (first | (refine Zf ?_; first | (refine Ze ?_; refine qQ ?_) | refine Zk ?_) | refine Za ?_ | (refine Zg ?_; refine Zu ?_) | (refine Zh ?_; refine Zv ?_) | intro _))
    all_goals exact qE (L' := []) (v := .tuple ⟨[.agg ⟨hdV ⟨T, F, S, P, (s.drop 22).take N⟩ e5.a e5.n e5.c⟩, .bool true]⟩) ⟨hfin, ⟨e5.a, e5.n, e5.c, rfl, hs5, hb5.le, by omega⟩, rfl⟩
   ·rw [decide_eq_false hbe] at hrd1
    subst hrd1
    refine ZA (Zo _ _ ([[(b5, .cells ⟨[.int .u64 (T : Int), .int .u64 (F : Int), .int .i64 (S : Int), .int .i64 (P : Int), slv e5]⟩ 81 (0, 0))]])) (Zn (hT := tk) (Hp.le_refl _)) ?_
    all_goals (refine ZX 0 ?_; refine ZX 1 ?_; refine ZX 3 ?_)
    all_goals (refine Zp (i := 2) ?_; ((try refine Zl ?_); (first | (refine Zb (.func 62) ?_; refine qC rfl rfl (hbk) ?_; rintro v ρ' L' hle ⟨rfl, rfl, rfl⟩ <;> (try simp only [kM, kN, kO])) | (refine Zk ?_; try intro _)) <;> ((try simp only [kM, kN, kO]); refine Za ?_; refine Zm ?_)))
    all_goals refine rCm 4 ?_
    all_goals (refine Zp (i := 5) ?_; ((try refine Zl ?_); (first | (refine Zk ?_; try intro _)) <;> ((try simp only [kM, kN, kO]); refine Za ?_; refine Zm ?_)))
    all_goals (refine ZN ?_; refine rAs 6 ?_; refine ZH ?_)
    all_goals (repeat' (first | (refine Zf ?_; first | (refine Ze ?_; refine qQ ?_) | refine Zk ?_) | refine Za ?_ | (refine Zg ?_; refine Zu ?_) | (refine Zh ?_; refine Zv ?_) | intro _))
    all_goals exact qE (L' := []) (v := .tuple ⟨[.agg ⟨hdV ⟨T, F, S, P, (s.drop 22).take N⟩ e5.a e5.n e5.c⟩, .bool false]⟩) ⟨hfin, ⟨e5.a, e5.n, e5.c, rfl, hs5, hb5.le, by omega⟩, rfl⟩
  ·replace hrd2 := hrd2 hr
   subst hrd2
   by_cases q1 : (1 : Int) ≤ Ti
   ·skip
    by_cases q2 : Ti ≤ 1073741824
    ·skip
     by_cases q3 : 4 ≤ S
     ·skip
      by_cases q4 : S ≤ 1000
      ·skip
       by_cases q5 : (1 : Int) ≤ Fi
       ·skip
        by_cases q6 : Fi ≤ 1099511627776
        ·skip
         by_cases q7 : P < S
         ·skip
          by_cases q8 : N ≤ 32
          ·skip
           exact absurd ⟨by omega, by omega, by omega, by omega, by omega, by omega, by omega, by omega⟩ hr
          ·repeat' (first | (refine Zf ?_; first | (refine Ze ?_; refine qQ ?_) | refine Zk ?_) | refine Za ?_ | (refine Zg ?_; refine Zu ?_) | (refine Zh ?_; refine Zv ?_) | intro _)
           exact qE (L' := []) (v := .tuple ⟨[.agg ⟨hdV zHd none 0 0⟩, .bool false]⟩) ⟨hle3, ⟨none, 0, 0, rfl, SIn.nil, Nat.le_refl _, Nat.zero_le _⟩, rfl⟩
         ·repeat' (first | (refine Zf ?_; first | (refine Ze ?_; refine qQ ?_) | refine Zk ?_) | refine Za ?_ | (refine Zg ?_; refine Zu ?_) | (refine Zh ?_; refine Zv ?_) | intro _)
          exact qE (L' := []) (v := .tuple ⟨[.agg ⟨hdV zHd none 0 0⟩, .bool false]⟩) ⟨hle3, ⟨none, 0, 0, rfl, SIn.nil, Nat.le_refl _, Nat.zero_le _⟩, rfl⟩
        ·exact absurd (show Fi ≤ 1099511627776 by omega) q6
       ·repeat' (first | (refine Zf ?_; first | (refine Ze ?_; refine qQ ?_) | refine Zk ?_) | refine Za ?_ | (refine Zg ?_; refine Zu ?_) | (refine Zh ?_; refine Zv ?_) | intro _)
        exact qE (L' := []) (v := .tuple ⟨[.agg ⟨hdV zHd none 0 0⟩, .bool false]⟩) ⟨hle3, ⟨none, 0, 0, rfl, SIn.nil, Nat.le_refl _, Nat.zero_le _⟩, rfl⟩
      ·repeat' (first | (refine Zf ?_; first | (refine Ze ?_; refine qQ ?_) | refine Zk ?_) | refine Za ?_ | (refine Zg ?_; refine Zu ?_) | (refine Zh ?_; refine Zv ?_) | intro _)
       exact qE (L' := []) (v := .tuple ⟨[.agg ⟨hdV zHd none 0 0⟩, .bool false]⟩) ⟨hle3, ⟨none, 0, 0, rfl, SIn.nil, Nat.le_refl _, Nat.zero_le _⟩, rfl⟩
     ·repeat' (first | (refine Zf ?_; first | (refine Ze ?_; refine qQ ?_) | refine Zk ?_) | refine Za ?_ | (refine Zg ?_; refine Zu ?_) | (refine Zh ?_; refine Zv ?_) | intro _)
      exact qE (L' := []) (v := .tuple ⟨[.agg ⟨hdV zHd none 0 0⟩, .bool false]⟩) ⟨hle3, ⟨none, 0, 0, rfl, SIn.nil, Nat.le_refl _, Nat.zero_le _⟩, rfl⟩
    ·repeat' (first | (refine Zf ?_; first | (refine Ze ?_; refine qQ ?_) | refine Zk ?_) | refine Za ?_ | (refine Zg ?_; refine Zu ?_) | (refine Zh ?_; refine Zv ?_) | intro _)
     exact qE (L' := []) (v := .tuple ⟨[.agg ⟨hdV zHd none 0 0⟩, .bool false]⟩) ⟨hle3, ⟨none, 0, 0, rfl, SIn.nil, Nat.le_refl _, Nat.zero_le _⟩, rfl⟩
   ·repeat' (first | (refine Zf ?_; first | (refine Ze ?_; refine qQ ?_) | refine Zk ?_) | refine Za ?_ | (refine Zg ?_; refine Zu ?_) | (refine Zh ?_; refine Zv ?_) | intro _)
    exact qE (L' := []) (v := .tuple ⟨[.agg ⟨hdV zHd none 0 0⟩, .bool false]⟩) ⟨hle3, ⟨none, 0, 0, rfl, SIn.nil, Nat.le_refl _, Nat.zero_le _⟩, rfl⟩
abbrev rhV (h : Hd) (na : Option Addr) (nn nc : Nat) : List Value := [.int .u64 h.turn, .int .i64 h.size, .int .u64 h.first, .int .i64 h.place, .slice na nn nc]
theorem block04H_spec (ρ : Hp) (h : Hd) (na : Option Addr) (nn nc : Nat) (hn : SIn ρ ZE na nn h.note) (ht : h.turn < 4294967296) (hf : h.first ≤ 1099511627776) (hs : h.size < 65536) (hp : h.place < 65536) (hnl : nn ≤ 32) :
  Spec Try.prog 65 [.agg ⟨rhV h na nn nc⟩] ρ [] (fun v ρ' L' => v = bv (Yk h) ∧ ρ.le ρ' ∧ L' = []) := by
 have hl := hn.len
 have hkb : Value.int .u8 (nn : Int) = ZE (UInt8.ofNat nn) := by rw [← u8_wrap nn, Xr (by simp only [lo, hi]; omega)]
 have hpl : ((Yk h).map ZE).length = 64 := by simp [Xq]
 have hp1 := ZM (Yk h)
 have hfin : pad (YL ++ be 4 h.turn ++ be 2 h.size ++ be 5 h.first ++ be 2 h.place ++ [UInt8.ofNat nn] ++ h.note) = Yk h := by unfold Yk; rw [hl]; simp
 refine Zd Try.func65 rfl rfl rfl fun u R => ?_
 simp only [Zw, List.cons_append, List.nil_append]
 repeat' (first | (refine Zq rfl rfl rfl rfl (by simp) rfl rfl (fun _ => ?_)) | (refine Zb (.func 72) ?_; refine qC rfl rfl (Ye _ h.turn 4 (by omega) (by omega)) ?_; rintro v1 ρ1 L1 hle1 ⟨⟨hl1, a1, c1, rfl, hc1, hs1⟩, rfl⟩; simp only [List.cons_append, List.nil_append]) | (refine ZV ?_; refine Zy (Zc rfl) rfl rfl ?_) | (refine Zf ?_; first | (refine Ze ?_; refine qQ ?_) | refine Zk ?_) | refine Za ?_ | (refine Zg ?_; refine Zu ?_) | (refine Zh ?_; refine Zv ?_) | intro _)
 rename_i b1 b2 b3
 refine tl_appB (c := [(b3, .cells ⟨YL.map ZE⟩ 5 (8, 9))]) (l := YL) (ys := be 4 h.turn) (m := 4) rfl rfl (.inr ⟨b3, (8, 9), rfl, by simp [YL], rfl⟩) (hR := YK) (SIn.srcV hs1) (Zs _ _) (fun e => by have := Zs 4 h.turn; rw [e] at this; exact absurd this (by decide)) (by simp [YL]) rfl (fun v2 sp2 hown2 => ?_)
 repeat' (first | (refine ZV ?_; refine Zy (Zc rfl) rfl rfl ?_) | (refine Zf ?_; first | (refine Ze ?_; refine qQ ?_) | refine Zk ?_) | refine Za ?_ | (refine Zg ?_; refine Zu ?_) | (refine Zh ?_; refine Zv ?_) | intro _)
 have hl14 : YL.length = 8 := rfl
 refine ZA (Zo _ _ ([[(b1, .cells ⟨rhV h na nn nc⟩ 32 (0, 0))]])) (Zn (hT := tk) (Hp.le_refl _)) ?_
 all_goals (refine ZL 0 ?_; refine ZU 1 ?_; refine ZX 2 ?_; refine rCv 3 ?_; refine ZU 6 ?_; refine ZX 7 ?_)
 all_goals (refine Zp (i := 4) ?_; ((try refine Zl ?_); (first | (refine Zb (.func 72) ?_; refine qC rfl rfl (Ye _ h.size 2 (by omega) (by omega)) ?_; rintro v3 ρ3 L3 hle3 ⟨⟨hl3, a3, c3, rfl, hc3, hs3⟩, rfl⟩; simp only [List.cons_append, List.nil_append]) | (refine Zb (.func 72) ?_; refine qC rfl rfl (Ye _ h.first 5 (by omega) (by omega)) ?_; rintro v5 ρ5 L5 hle5 ⟨⟨hl5, a5, c5, rfl, hc5, hs5⟩, rfl⟩; simp only [List.cons_append, List.nil_append]) | (refine Zk ?_; try intro _)) <;> ((try simp only [kM, kN, kO]); refine Za ?_; refine Zm ?_)))
 all_goals (refine Zp (i := 5) ?_; ((try refine Zl ?_); (first | (refine Zb (.func 72) ?_; refine qC rfl rfl (Ye _ h.size 2 (by omega) (by omega)) ?_; rintro v3 ρ3 L3 hle3 ⟨⟨hl3, a3, c3, rfl, hc3, hs3⟩, rfl⟩; simp only [List.cons_append, List.nil_append]) | (refine ZR (ys := be 2 h.size) (m := 2) rfl rfl hown2 (hR := by infer_instance) (SIn.srcV hs3) (Zs _ _) (by simp [Zs, YL]) rfl (fun v4 sp4 hown4 => ?_)) | (refine Zb (.func 72) ?_; refine qC rfl rfl (Ye _ h.first 5 (by omega) (by omega)) ?_; rintro v5 ρ5 L5 hle5 ⟨⟨hl5, a5, c5, rfl, hc5, hs5⟩, rfl⟩; simp only [List.cons_append, List.nil_append]) | (refine ZR (ys := be 5 h.first) (m := 5) rfl rfl hown4 (hR := by infer_instance) (SIn.srcV hs5) (Zs _ _) (by simp [Zs, YL]) rfl (fun v6 sp6 hown6 => ?_)) | (refine Zk ?_; try intro _)) <;> ((try simp only [kM, kN, kO]); refine Za ?_; refine Zm ?_)))
 all_goals (refine Zp (i := 8) ?_; ((try refine Zl ?_); (first | (refine Zb (.func 72) ?_; refine qC rfl rfl (Ye _ h.size 2 (by omega) (by omega)) ?_; rintro v3 ρ3 L3 hle3 ⟨⟨hl3, a3, c3, rfl, hc3, hs3⟩, rfl⟩; simp only [List.cons_append, List.nil_append]) | (refine Zb (.func 72) ?_; refine qC rfl rfl (Ye _ h.first 5 (by omega) (by omega)) ?_; rintro v5 ρ5 L5 hle5 ⟨⟨hl5, a5, c5, rfl, hc5, hs5⟩, rfl⟩; simp only [List.cons_append, List.nil_append]) | (refine Zk ?_; try intro _)) <;> ((try simp only [kM, kN, kO]); refine Za ?_; refine Zm ?_)))
 all_goals (refine Zp (i := 9) ?_; ((try refine Zl ?_); (first | (refine Zb (.func 72) ?_; refine qC rfl rfl (Ye _ h.size 2 (by omega) (by omega)) ?_; rintro v3 ρ3 L3 hle3 ⟨⟨hl3, a3, c3, rfl, hc3, hs3⟩, rfl⟩; simp only [List.cons_append, List.nil_append]) | (refine ZR (ys := be 2 h.size) (m := 2) rfl rfl hown2 (hR := by infer_instance) (SIn.srcV hs3) (Zs _ _) (by simp [Zs, YL]) rfl (fun v4 sp4 hown4 => ?_)) | (refine Zb (.func 72) ?_; refine qC rfl rfl (Ye _ h.first 5 (by omega) (by omega)) ?_; rintro v5 ρ5 L5 hle5 ⟨⟨hl5, a5, c5, rfl, hc5, hs5⟩, rfl⟩; simp only [List.cons_append, List.nil_append]) | (refine ZR (ys := be 5 h.first) (m := 5) rfl rfl hown4 (hR := by infer_instance) (SIn.srcV hs5) (Zs _ _) (by simp [Zs, YL]) rfl (fun v6 sp6 hown6 => ?_)) | (refine Zk ?_; try intro _)) <;> ((try simp only [kM, kN, kO]); refine Za ?_; refine Zm ?_)))
 all_goals (refine ZN ?_; refine rAs 10 ?_; refine ZH ?_)
 all_goals (repeat' (first | (refine ZV ?_; refine Zy (Zc rfl) rfl rfl ?_) | (refine Zf ?_; first | (refine Ze ?_; refine qQ ?_) | refine Zk ?_) | refine Za ?_ | (refine Zg ?_; refine Zu ?_) | (refine Zh ?_; refine Zv ?_) | intro _))
 all_goals have hl15 := Hp.le_trans hl1 (Hp.le_trans hl3 hl5)
 all_goals have hn5 := hn.mono hl15
 all_goals refine ZA (Zo _ _ ([[(b1, .cells ⟨rhV h na nn nc⟩ 32 (0, 0))]])) (Zn (hT := tk) (Hp.le_refl _)) ?_
 all_goals (refine ZL 0 ?_; refine ZU 1 ?_; refine ZX 2 ?_; refine rCv 3 ?_; refine ZU 6 ?_; refine ZX 7 ?_; refine rBi 8 ?_; refine rCv 9 ?_)
 all_goals (refine YV (i := 4) (j := 10) ?_ ?_ <;> ((try refine Zl ?_); (first | (refine Zb (.func 72) ?_; refine qC rfl rfl (Ye _ h.place 2 (by omega) (by omega)) ?_; rintro v7 ρ7 L7 hle7 ⟨⟨hl7, a7, c7, rfl, hc7, hs7⟩, rfl⟩; simp only [List.cons_append, List.nil_append]) | (refine Zq rfl rfl rfl rfl (by simp) rfl rfl (fun _ => ?_); simp only [hkb]) | (refine Zk ?_; try intro _)) <;> ((try simp only [kM, kN, kO]); refine Za ?_; refine Zm ?_)))
 all_goals (first | (refine YV (i := 5) (j := 10) ?_ ?_ <;> ((try refine Zl ?_); (first | (refine Zb (.func 72) ?_; refine qC rfl rfl (Ye _ h.place 2 (by omega) (by omega)) ?_; rintro v7 ρ7 L7 hle7 ⟨⟨hl7, a7, c7, rfl, hc7, hs7⟩, rfl⟩; simp only [List.cons_append, List.nil_append]) | (refine ZR (ys := be 2 h.place) (m := 2) rfl rfl hown6 (hR := by infer_instance) (SIn.srcV hs7) (Zs _ _) (by simp [Zs, YL]) rfl (fun v8 sp8 hown8 => ?_)) | (refine Zq rfl rfl rfl rfl (by simp) rfl rfl (fun _ => ?_); simp only [hkb]) | (refine ZR (ys := [UInt8.ofNat nn]) (m := 1) rfl rfl hown8 (hR := by infer_instance) SrcV.lit rfl (by simp [Zs, YL]) rfl (fun v9 sp9 hown9 => ?_)) | (refine Zk ?_; try intro _)) <;> ((try simp only [kM, kN, kO]); refine Za ?_; refine Zm ?_))) | (refine Zp (i := 4) ?_; ((try refine Zl ?_); (first | (refine Zb (.func 72) ?_; refine qC rfl rfl (Ye _ h.place 2 (by omega) (by omega)) ?_; rintro v7 ρ7 L7 hle7 ⟨⟨hl7, a7, c7, rfl, hc7, hs7⟩, rfl⟩; simp only [List.cons_append, List.nil_append]) | (refine Zk ?_; try intro _)) <;> ((try simp only [kM, kN, kO]); refine Za ?_; refine Zm ?_))))
 all_goals (first | (refine Zp (i := 10) ?_; ((try refine Zl ?_); (first | (refine Zq rfl rfl rfl rfl (by simp) rfl rfl (fun _ => ?_); simp only [hkb]) | (refine Zk ?_; try intro _)) <;> ((try simp only [kM, kN, kO]); refine Za ?_; refine Zm ?_))) | (refine Zp (i := 5) ?_; ((try refine Zl ?_); (first | (refine Zb (.func 72) ?_; refine qC rfl rfl (Ye _ h.place 2 (by omega) (by omega)) ?_; rintro v7 ρ7 L7 hle7 ⟨⟨hl7, a7, c7, rfl, hc7, hs7⟩, rfl⟩; simp only [List.cons_append, List.nil_append]) | (refine ZR (ys := be 2 h.place) (m := 2) rfl rfl hown6 (hR := by infer_instance) (SIn.srcV hs7) (Zs _ _) (by simp [Zs, YL]) rfl (fun v8 sp8 hown8 => ?_)) | (refine ZR (ys := [UInt8.ofNat nn]) (m := 1) rfl rfl hown8 (hR := by infer_instance) SrcV.lit rfl (by simp [Zs, YL]) rfl (fun v9 sp9 hown9 => ?_)) | (refine Zk ?_; try intro _)) <;> ((try simp only [kM, kN, kO]); refine Za ?_; refine Zm ?_))))
 all_goals (refine Zp (i := 11) ?_; ((try refine Zl ?_); (first | (refine Zb (.func 72) ?_; refine qC rfl rfl (Ye _ h.place 2 (by omega) (by omega)) ?_; rintro v7 ρ7 L7 hle7 ⟨⟨hl7, a7, c7, rfl, hc7, hs7⟩, rfl⟩; simp only [List.cons_append, List.nil_append]) | (refine ZR (ys := be 2 h.place) (m := 2) rfl rfl hown6 (hR := by infer_instance) (SIn.srcV hs7) (Zs _ _) (by simp [Zs, YL]) rfl (fun v8 sp8 hown8 => ?_)) | (refine ZR (ys := [UInt8.ofNat nn]) (m := 1) rfl rfl hown8 (hR := by infer_instance) SrcV.lit rfl (by simp [Zs, YL]) rfl (fun v9 sp9 hown9 => ?_)) | (refine Zk ?_; try intro _)) <;> ((try simp only [kM, kN, kO]); refine Za ?_; refine Zm ?_)))
 all_goals (refine ZN ?_; refine rAs 12 ?_; refine ZH ?_)
 all_goals (repeat' (first | (refine ZR (ys := h.note) rfl rfl hown9 (hR := by infer_instance) (SIn.srcV (by first | exact hn5.mono hl7 | assumption)) hl (by simp [Zs, YL]; omega) rfl (fun v10 sp10 hown10 => ?_)) | (refine Zb (.func 73) ?_; refine qC rfl rfl (block04_own _ _ _ _ _ hown10 (by simp [Zs, YL]; omega)) ?_; rintro v11 ρ11 L11 hle11 ⟨rfl, rfl, rfl⟩; simp only [List.cons_append, List.nil_append, hfin]) | (refine ZV ?_; refine Zy (Zc rfl) rfl rfl ?_) | (refine Zf ?_; first | (refine Ze ?_; refine qQ ?_) | refine Zk ?_) | refine Za ?_ | (refine Zg ?_; refine Zu ?_) | (refine Zh ?_; refine Zv ?_) | intro _))
 all_goals have hfl := Hp.le_trans hl15 hl7
 all_goals exact qE (L' := []) ⟨rfl, hfl, rfl⟩
end Go.Proofs.E
