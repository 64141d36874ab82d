/- The law RedoSheets. Part 11 of 12. -/
import Derived.Test.YtjajdpfdhokkhaaGreatZ10
namespace Go.Proofs.E
open Go
set_option linter.unusedVariables false
set_option linter.unusedSimpArgs false
set_option linter.unusedSectionVars false
set_option maxRecDepth 4000
set_option maxHeartbeats 1000000
attribute [local irreducible] Yl TL TC TE Spec Xn R1 Hp.le EnvLe TS TR YS Zq
theorem cell_at4 {C : List Value} {i sz : Nat} {l : List Value} (h : (C.drop i).take sz = l) {d : Nat} {v : Value} (hd : l[d]? = some v) : C[i + d]? = some v := by
 have h1 : d < sz := by
  have := (List.getElem?_eq_some_iff.1 hd).1
  rw [← h, List.length_take] at this
  omega
 rw [← h, List.getElem?_take_of_lt h1, List.getElem?_drop] at hd
 exact hd
structure PgD where
 w : CV
 c : Cont
 lsn : Nat
abbrev pgV (p : PgD) : List Value := [.int .i64 p.c.kind, .slice p.w.ra p.w.rn p.w.rc, .slice p.w.ka p.w.kn p.w.kc, .int .u64 p.lsn]
theorem pgV_len (p : PgD) : (pgV p).length = 4 := rfl
abbrev lC (b : Nat) (a : Option Addr) (n c : Nat) : List (Nat × Obj) := [(b, .cells ⟨[.slice a n c]⟩ 106 (0, 0))]
def whyE (d : List CkP) (r : Rc) : Int := if YF d then (if Yo r then 0 else 220) else 320
theorem why_spec (ρ : Hp) (s : SV) (d : List CkP) (hd : AS ρ 2 YG s d) (v : RV) (r : Rc) (h : RcIn ρ v r) : Spec Tryz.prog 143 [.slice s.a s.n s.c, .agg ⟨Xo v r⟩] ρ [] (fun z ρ' L' => z = .int .i64 (whyE d r) ∧ ρ' = ρ ∧ L' = []) := by
 have hck := ckcheck_spec ρ s d hd
 have hrc := rcheck_spec ρ v r h
 unfold whyE
 refine Zf Tryz.func143 rfl rfl rfl fun u R => ?_
 simp only [ZG, List.cons_append, List.nil_append]
 cases ht : YF d
 ·rw [ht] at hck
  simp only [Bool.false_eq_true, if_false] at hck ⊢
  repeat' (first | (refine Zd (.func 157) ?_; refine qC rfl rfl (hck) ?_; rintro v ρ' L' hle ⟨rfl, rfl, rfl⟩ <;> (try simp only [kM, kN, kO])) | (refine iBu ?_; refine ZC (Ze rfl) rfl rfl ?_) | (refine Zj ?_; first | (refine Zi ?_; refine qQ ?_) | refine Zo ?_) | refine Zc ?_ | (refine Zh ?_; refine Zz ?_) | (refine Zg ?_; refine Zy ?_) | intro _)
  exact qE (L' := []) ⟨rfl, rfl, rfl⟩
 ·rw [ht] at hck
  simp only [if_true] at hck ⊢
  repeat' (first | (refine Zd (.func 157) ?_; refine qC rfl rfl (hck) ?_; rintro v ρ' L' hle ⟨rfl, rfl, rfl⟩ <;> (try simp only [kM, kN, kO])) | (refine Zd (.func 27) ?_; refine qC rfl rfl (hrc) ?_; rintro v ρ' L' hle ⟨rfl, rfl, rfl⟩ <;> (try simp only [kM, kN, kO])) | (refine iBu ?_; refine ZC (Ze rfl) rfl rfl ?_) | (refine Zj ?_; first | (refine Zi ?_; refine qQ ?_) | refine Zo ?_) | refine Zc ?_ | (refine Zh ?_; refine Zz ?_) | (refine Zg ?_; refine Zy ?_) | intro _)
  exact qE (L' := []) ⟨rfl, rfl, rfl⟩
theorem lsn1_spec (ρ : Hp) (lb : Nat) (a : Option Addr) (n c : Nat) (l : List PgD) (hl : AIn ρ 4 pgV a n l) (page : Int) (m : Nat) (h0 : 0 ≤ page) (hp : page < n) (hm : ∀ h : page.toNat < l.length, (l[page.toNat]).lsn = m) :
  Spec Tryz.prog 145 [.int .i64 page, .pointer (some ⟨lb, 0, none⟩)] ρ [lC lb a n c] (fun z ρ' L' => z = .tuple ⟨[.int .u64 m, .int .i64 0]⟩ ∧ ρ' = ρ ∧ L' = [lC lb a n c]) := by
 have hln := hl.len
 obtain ⟨k, rfl⟩ : ∃ k : Nat, page = (k : Int) := ⟨page.toNat, by omega⟩
 have hk : k < l.length := by omega
 obtain ⟨b, off, C, T, fr, e1, hb, hfit, hc⟩ := hl.get hk
 have hm := hm (by simpa using hk)
 simp only [Int.toNat_natCast] at hm
 generalize l[k]'hk = x at *
 subst hm
 subst e1
 have hce : C[off + (k : Int).toNat * 4 + 3]? = some (.int .u64 x.lsn) := cell_at4 hc rfl
 refine Zf Tryz.func145 rfl rfl rfl fun u R => ?_
 simp only [ZG, List.cons_append, List.nil_append]
 repeat' (first | (refine iBu ?_; refine ZC (Ze rfl) rfl rfl ?_) | (refine Zj ?_; first | (refine Zi ?_; refine qQ ?_) | refine Zo ?_) | refine Zc ?_ | (refine Zh ?_; refine Zz ?_) | (refine Zg ?_; refine Zy ?_) | intro _)
 exact qE (L' := [lC lb (some ⟨b, off, none⟩) n c]) ⟨rfl, rfl, rfl⟩
theorem lsn1_own (ρ : Hp) (lb b n c : Nat) (cs : List Value) (page : Int) (m : Nat) (h0 : 0 ≤ page) (hp : page < n) (hm : cs[0 + page.toNat * 4 + 3]? = some (.int .u64 m)) :
  Spec Tryz.prog 145 [.int .i64 page, .pointer (some ⟨lb, 0, none⟩)] ρ [lC lb (some ⟨b, 0, none⟩) n c, [(b, .cells ⟨cs⟩ 112 (0, 0))]] (fun z ρ' L' => z = .tuple ⟨[.int .u64 m, .int .i64 0]⟩ ∧ ρ' = ρ ∧ L' = [lC lb (some ⟨b, 0, none⟩) n c, [(b, .cells ⟨cs⟩ 112 (0, 0))]]) := by
 refine Zf Tryz.func145 rfl rfl rfl fun u R => ?_
 simp only [ZG, List.cons_append, List.nil_append]
 repeat' (first | (refine iBu ?_; refine ZC (Ze rfl) rfl rfl ?_) | (refine Zj ?_; first | (refine Zi ?_; refine qQ ?_) | refine Zo ?_) | refine Zc ?_ | (refine Zh ?_; refine Zz ?_) | (refine Zg ?_; refine Zy ?_) | intro _)
 exact qE (L' := [lC lb (some ⟨b, 0, none⟩) n c, [(b, .cells ⟨cs⟩ 112 (0, 0))]]) ⟨rfl, rfl, rfl⟩
def shE (d : List CkP) (r : Rc) (n : Nat) : Int := if whyE d r ≠ 0 then whyE d r else if n ≠ 64 then 2 else 0
theorem AS.nilS {α : Type} {ρ : Hp} {sz : Nat} {g : α → List Value} : AS ρ sz g nilS ([] : List α) := ⟨AIn.nil, Nat.zero_le _, Nat.le_refl _⟩
theorem rsheets_spec (ρ : Hp) (a : Option Addr) (n c : Nat) (s : SV) (d : List CkP) (hd : AS ρ 2 YG s d) (v : RV) (r : Rc) (h : RcIn ρ v r) (X : SH) (f : Int → Nat)
  (hf : whyE d r = 0 → n = 64 → ∀ lb ρ2, ρ.le ρ2 → ∀ x ∈ r.ims, Spec Tryz.prog 145 [.int .i64 x.page, .pointer (some ⟨lb, 0, none⟩)] ρ2 (lC lb a n c :: X) (fun z ρ' L' => z = .tuple ⟨[.int .u64 (f x.page : Nat), .int .i64 0]⟩ ∧ ρ' = ρ2 ∧ L' = lC lb a n c :: X)) :
  Spec Tryz.prog 63 [.slice a n c, .slice s.a s.n s.c, .agg ⟨Xo v r⟩] ρ X
   (fun z ρ' L' => ρ.le ρ' ∧ ∃ s2 : SV, z = .tuple ⟨[.slice s2.a s2.n s2.c, .int .i64 (shE d r n)]⟩ ∧ AS ρ' 4 shV s2 (if shE d r n = 0 then (Xs f d r).map Xi else []) ∧ L' = X) := by
 have hwy := why_spec ρ s d hd v r h
 unfold shE
 by_cases hw : whyE d r = 0
 ·rw [hw] at hwy
  simp only [hw, ne_eq, not_true_eq_false, if_false]
  by_cases hn : n = 64
  ·subst hn
   simp only [not_true_eq_false, if_false, if_true]
   have hsh := fun lb => sheets_spec ρ s d hd v r h 145 [.pointer (some ⟨lb, 0, none⟩)] (lC lb a 64 c :: X) f (hf hw rfl lb)
   refine Zf Tryz.func63 rfl rfl rfl fun u R => ?_
   simp only [ZG, List.cons_append, List.nil_append]
   repeat' (first | (refine Zd (.func 143) ?_; refine qC rfl rfl (hwy) ?_; rintro v ρ' L' hle ⟨rfl, rfl, rfl⟩ <;> (try simp only [kM, kN, kO])) | (refine Zd (.func 144) ?_; refine qC rfl rfl (hsh _) ?_; rintro v ρ' L' hle ⟨hz1, s2, rfl, hs2, rfl⟩ <;> (try simp only [kM, kN, kO])) | (refine iBu ?_; refine ZC (Ze rfl) rfl rfl ?_) | (refine Zj ?_; first | (refine Zi ?_; refine qQ ?_) | refine Zo ?_) | refine Zc ?_ | (refine Zh ?_; refine Zz ?_) | (refine Zg ?_; refine Zy ?_) | intro _)
   exact qE (L' := X) ⟨hz1, s2, rfl, hs2, rfl⟩
  ·simp only [hn, not_false_eq_true, if_true]
   refine Zf Tryz.func63 rfl rfl rfl fun u R => ?_
   simp only [ZG, List.cons_append, List.nil_append]
   repeat' (first | (refine Zd (.func 143) ?_; refine qC rfl rfl (hwy) ?_; rintro v ρ' L' hle ⟨rfl, rfl, rfl⟩ <;> (try simp only [kM, kN, kO])) | (refine iBu ?_; refine ZC (Ze rfl) rfl rfl ?_) | (refine Zj ?_; first | (refine Zi ?_; refine qQ ?_) | refine Zo ?_) | refine Zc ?_ | (refine Zh ?_; refine Zz ?_) | (refine Zg ?_; refine Zy ?_) | intro _)
   exact qE (L' := X) ⟨Hp.le_refl _, nilS, rfl, by rw [if_neg (by decide)]; exact AS.nilS, rfl⟩
 ·simp only [hw, ne_eq, not_false_eq_true, if_true, if_false]
  generalize whyE d r = e at *
  refine Zf Tryz.func63 rfl rfl rfl fun u R => ?_
  simp only [ZG, List.cons_append, List.nil_append]
  repeat' (first | (refine Zd (.func 143) ?_; refine qC rfl rfl (hwy) ?_; rintro v ρ' L' hle ⟨rfl, rfl, rfl⟩ <;> (try simp only [kM, kN, kO])) | (refine iBu ?_; refine ZC (Ze rfl) rfl rfl ?_) | (refine Zj ?_; first | (refine Zi ?_; refine qQ ?_) | refine Zo ?_) | refine Zc ?_ | (refine Zh ?_; refine Zz ?_) | (refine Zg ?_; refine Zy ?_) | intro _)
  exact qE (L' := X) ⟨Hp.le_refl _, nilS, rfl, AS.nilS, rfl⟩
def gI (f : Int → Nat) (d : List CkP) (r : Rc) (k : Nat) : List Im := if YA d r k && decide (f k < r.lsn) then (r.ims.find? (fun x => decide (x.page = (k : Int)))).toList else []
def refL (f : Int → Nat) (d : List CkP) (r : Rc) (k : Nat) : List Im := (List.range k).flatMap (gI f d r)
theorem refL_succ (f : Int → Nat) (d : List CkP) (r : Rc) (k : Nat) : refL f d r (k + 1) = refL f d r k ++ gI f d r k := by
 unfold refL; rw [List.range_succ, List.flatMap_append]; simp
theorem needs_some {d : List CkP} {r : Rc} {page : Int} (h : YA d r page = true) : ∃ x, r.ims.find? (fun x => decide (x.page = page)) = some x ∧ x ∈ r.ims ∧ x.page = page := by
 unfold YA redoI at h
 rw [Bool.and_eq_true] at h
 cases hr : Yo r
 ·rw [hr] at h; cases h.1
 ·rw [hr, if_pos rfl] at h
  obtain ⟨x, hx⟩ := Option.isSome_iff_exists.1 h.1
  exact ⟨x, hx, List.mem_of_find?_eq_some hx, by simpa using List.find?_some hx⟩
theorem drop1_take {C : List Value} {i : Nat} {a b c d : Value} (h : (C.drop i).take 4 = [a, b, c, d]) : List.take 3 (List.drop (i + 1) C) = [b, c, d] := by
 have := congrArg (List.drop 1) h
 rw [List.drop_take, List.drop_drop] at this
 simpa using this
theorem ref24_spec (ρ : Hp) (a : Option Addr) (n c : Nat) (l : List PgD) (hl : AIn ρ 4 pgV a n l) (s : SV) (d : List CkP) (hd : AS ρ 2 YG s d) (v : RV) (r : Rc) (h : RcIn ρ v r) (f : Int → Nat) (hf : ∀ k (hk : k < l.length), (l[k]).lsn = f (k : Int)) :
  Spec Tryz.prog 65 [.slice a n c, .slice s.a s.n s.c, .agg ⟨Xo v r⟩] ρ []
   (fun z ρ' L' => ρ.le ρ' ∧ ∃ s2 : SV, z = .tuple ⟨[.slice s2.a s2.n s2.c, .int .i64 (shE d r n)]⟩ ∧ AS ρ' 4 shV s2 (if shE d r n = 0 then (refL f d r 64).map Xi else []) ∧ L' = []) := by
 have hrd := right22_spec ρ s d hd
 rw [← tblOk_up] at hrd
 have hrr := right12_spec ρ v r h
 have hln := hl.len
 unfold shE whyE
 cases ht : YF d
 ·rw [ht] at hrd
  have e : (if (if (false = true) then (if Yo r = true then (0 : Int) else 220) else 320) ≠ 0 then (if (false = true) then (if Yo r = true then (0 : Int) else 220) else 320) else if n ≠ 64 then 2 else 0) = 320 := rfl
  rw [e]
  refine Zf Tryz.func65 rfl rfl rfl fun u R => ?_
  simp only [ZG, List.cons_append, List.nil_append]
  repeat' (first | (refine Zd (.func 146) ?_; refine qC rfl rfl (hrd) ?_; rintro v ρ' L' hle ⟨rfl, rfl, rfl⟩ <;> (try simp only [kM, kN, kO])) | (refine iBu ?_; refine ZC (Ze rfl) rfl rfl ?_) | (refine Zj ?_; first | (refine Zi ?_; refine qQ ?_) | refine Zo ?_) | refine Zc ?_ | (refine Zh ?_; refine Zz ?_) | (refine Zg ?_; refine Zy ?_) | intro _)
  exact qE (L' := []) ⟨Hp.le_refl _, nilS, rfl, by rw [if_neg (by decide)]; exact AS.nilS, rfl⟩
 rw [ht] at hrd
 simp only [if_true]
 cases hr : Yo r
 ·rw [hr] at hrr
  have e : (if (if (false = true) then (0 : Int) else 220) ≠ 0 then (if (false = true) then (0 : Int) else 220) else if n ≠ 64 then 2 else 0) = 220 := rfl
  rw [e]
  refine Zf Tryz.func65 rfl rfl rfl fun u R => ?_
  simp only [ZG, List.cons_append, List.nil_append]
  repeat' (first | (refine Zd (.func 146) ?_; refine qC rfl rfl (hrd) ?_; rintro v ρ' L' hle ⟨rfl, rfl, rfl⟩ <;> (try simp only [kM, kN, kO])) | (refine Zd (.func 26) ?_; refine qC rfl rfl (hrr) ?_; rintro v ρ' L' hle ⟨rfl, rfl, rfl⟩ <;> (try simp only [kM, kN, kO])) | (refine iBu ?_; refine ZC (Ze rfl) rfl rfl ?_) | (refine Zj ?_; first | (refine Zi ?_; refine qQ ?_) | refine Zo ?_) | refine Zc ?_ | (refine Zh ?_; refine Zz ?_) | (refine Zg ?_; refine Zy ?_) | intro _)
  exact qE (L' := []) ⟨Hp.le_refl _, nilS, rfl, by rw [if_neg (by decide)]; exact AS.nilS, rfl⟩
 rw [hr] at hrr
 simp only [if_true, ne_eq, not_true_eq_false, if_false]
 by_cases hn : n = 64
 case' neg =>
  simp only [hn, not_false_eq_true, if_true]
  refine Zf Tryz.func65 rfl rfl rfl fun u R => ?_
  simp only [ZG, List.cons_append, List.nil_append]
  repeat' (first | (refine Zd (.func 146) ?_; refine qC rfl rfl (hrd) ?_; rintro v ρ' L' hle ⟨rfl, rfl, rfl⟩ <;> (try simp only [kM, kN, kO])) | (refine Zd (.func 26) ?_; refine qC rfl rfl (hrr) ?_; rintro v ρ' L' hle ⟨rfl, rfl, rfl⟩ <;> (try simp only [kM, kN, kO])) | (refine iBu ?_; refine ZC (Ze rfl) rfl rfl ?_) | (refine Zj ?_; first | (refine Zi ?_; refine qQ ?_) | refine Zo ?_) | refine Zc ?_ | (refine Zh ?_; refine Zz ?_) | (refine Zg ?_; refine Zy ?_) | intro _)
  exact qE (L' := []) ⟨Hp.le_refl _, nilS, rfl, by rw [if_neg (by decide)]; exact AS.nilS, rfl⟩
 subst hn
 simp only [not_true_eq_false, if_false, if_true]
 have hne := fun (k : Nat) => needs22_spec ρ s d hd v r h k
 have hre := fun (k : Nat) => redoes12_spec ρ v r h k
 refine Zf Tryz.func65 rfl rfl rfl fun u R => ?_
 simp only [ZG, List.cons_append, List.nil_append]
 repeat' (first | (refine Zd (.func 146) ?_; refine qC rfl rfl (hrd) ?_; rintro v ρ' L' hle ⟨rfl, rfl, rfl⟩ <;> (try simp only [kM, kN, kO])) | (refine Zd (.func 26) ?_; refine qC rfl rfl (hrr) ?_; rintro v ρ' L' hle ⟨rfl, rfl, rfl⟩ <;> (try simp only [kM, kN, kO])) | (refine iBu ?_; refine ZC (Ze rfl) rfl rfl ?_) | (refine Zj ?_; first | (refine Zi ?_; refine qQ ?_) | refine Zo ?_) | refine Zc ?_ | (refine Zh ?_; refine Zz ?_) | (refine Zg ?_; refine Zy ?_) | intro _)
 rename_i rb _
 refine ZL [(0, _), (1, _), (5, _), (6, _), (7, _)] (fun (ζ : (Nat) × (Value) × (List Value) × (List Im)) => [(24, .int .i64 ζ.1), (8, ζ.2.1)]) (fun (ζ : (Nat) × (Value) × (List Value) × (List Im)) => ρ') (fun (ζ : (Nat) × (Value) × (List Value) × (List Im)) => [[(rb, .cells ⟨Xo v r⟩ 30 (0, 0))], YT ζ.2.1 (((ζ.2.2.2.map Xi).map shV).flatten) ζ.2.2.1 189]) (fun (ζ : (Nat) × (Value) × (List Value) × (List Im)) => ζ.1 ≤ 64 ∧ ζ.2.2.2.length ≤ ζ.1 ∧ OwnS ζ.2.1 ζ.2.2.2.length (((ζ.2.2.2.map Xi).map shV).flatten) ζ.2.2.1 4 ∧ ζ.2.2.2 = refL f d r ζ.1) (fun (ζ : (Nat) × (Value) × (List Value) × (List Im)) => 64 - ζ.1) ((0, .slice none 0 0, [], [])) (⟨Nat.zero_le _, Nat.zero_le _, OwnS.nil 4, rfl⟩) Zn Zn rfl tk ?_
 rintro ⟨k, vv, sp, acc⟩ hI
 try simp only [List.cons_append, List.nil_append, List.append_assoc, List.append_eq] at hI ⊢
 try dsimp only at hI ⊢
 obtain ⟨hk, hal, hown, hacc⟩ := hI
 obtain ⟨va, vc, rfl, _⟩ := hown.slice
 by_cases hlt : k < 64
 ·obtain ⟨b, off, C, T, fr, e1, hb, hfit, hc⟩ := hl.get (show k < l.length by omega)
  have hfk := hf k (by omega)
  have hsucc := refL_succ f d r k
  have hnk := hne k
  generalize l[k]'(by omega) = x at *
  rw [e1]
  have hce : C[off + k * 4 + 3]? = some (.int .u64 x.lsn) := cell_at4 hc rfl
  cases hq : YA d r k
  ·rw [hq] at hnk
   have hg : gI f d r k = [] := by unfold gI; rw [hq]; rfl
   rw [hg, List.append_nil, ← hacc] at hsucc
   repeat' (first | (refine iBu ?_; refine ZC (Ze rfl) rfl rfl ?_) | (refine Zj ?_; first | (refine Zi ?_; refine qQ ?_) | refine Zo ?_) | refine Zc ?_ | (refine Zh ?_; refine Zz ?_) | (refine Zg ?_; refine Zy ?_) | intro _)
   refine ZJ (Zq _ _ ([[(rb, .cells ⟨Xo v r⟩ 30 (0, 0))]])) (Yc (hT := tk) (Hp.le_refl _)) ?_
   all_goals (refine ZW 0 ?_; refine rLd 1 ?_; refine ZW 2 ?_)
   all_goals (refine Zt (i := 3) ?_; ((try refine Zr ?_); (first | (refine Zd (.func 147) ?_; refine qC rfl rfl (hnk) ?_; rintro v ρ' L' hle ⟨rfl, rfl, rfl⟩ <;> (try simp only [kM, kN, kO])) | (refine Zo ?_; try intro _)) <;> ((try simp only [kM, kN, kO]); refine Zc ?_; refine Zs ?_)))
   all_goals (refine ZY ?_; refine ZW 4 ?_; (first | refine Zb 5 ?_ | refine Za 5 ?_ | refine ZD 5 ?_); (first | refine Zb 6 ?_ | refine Za 6 ?_ | refine ZD 6 ?_); (first | refine Zb 7 ?_ | refine Za 7 ?_ | refine wIa 7 ?_); (first | refine Zb 8 ?_ | refine Za 8 ?_ | refine ZV 8 ?_); (first | refine Zb 9 ?_ | refine Za 9 ?_ | refine ZX 9 ?_); (first | refine Zb 10 ?_ | refine Za 10 ?_ | refine ZV 10 ?_); (first | refine Zb 11 ?_ | refine Za 11 ?_ | refine ZX 11 ?_); (first | refine Zb 12 ?_ | refine Za 12 ?_ | refine wCm 12 ?_); refine rPk 13 ?_; refine ZT ?_)
   all_goals (repeat' (first | (refine iBu ?_; refine ZC (Ze rfl) rfl rfl ?_) | (refine Zj ?_; first | (refine Zi ?_; refine qQ ?_) | refine Zo ?_) | refine Zc ?_ | (refine Zh ?_; refine Zz ?_) | (refine Zg ?_; refine Zy ?_) | intro _))
   all_goals rw [← e1]
   all_goals refine Zu (k + 1, .slice va acc.length vc, sp, acc) (⟨hlt, Nat.le_succ_of_le hal, hown, hsucc.symm⟩) Zn Zn rfl tk inferInstance (by first | omega | (dsimp only; omega))
  ·rw [hq] at hnk
   obtain ⟨y, hy, hym, hyp⟩ := needs_some hq
   by_cases hlt2 : f k < r.lsn
   ·have hg : gI f d r k = [y] := by unfold gI; rw [hq, decide_eq_true hlt2, hy]; rfl
    rw [hg, ← hacc] at hsucc
    have hrek := hre k
    rw [hy] at hrek
    have hsh : shV (Xi y) = [.int .i64 (k : Int), .int .i64 y.a.kind, .slice y.av.ra y.av.rn y.av.rc, .slice y.av.ka y.av.kn y.av.kc] := by rw [← hyp]; rfl
    have hrek2 : Spec Tryz.prog 148 [.agg ⟨Xo v r⟩, .int .i64 k] ρ' [] (fun z ρq L' => z = .tuple ⟨[.agg ⟨[.int .i64 y.a.kind, .slice y.av.ra y.av.rn y.av.rc, .slice y.av.ka y.av.kn y.av.kc]⟩, .bool true]⟩ ∧ ρq = ρ' ∧ L' = []) := hrek
    repeat' (first | (refine iBu ?_; refine ZC (Ze rfl) rfl rfl ?_) | (refine Zj ?_; first | (refine Zi ?_; refine qQ ?_) | refine Zo ?_) | refine Zc ?_ | (refine Zh ?_; refine Zz ?_) | (refine Zg ?_; refine Zy ?_) | intro _)
    refine ZJ (Zq _ _ ([[(rb, .cells ⟨Xo v r⟩ 30 (0, 0))]])) (Yc (hT := tk) (Hp.le_refl _)) ?_
    all_goals (refine ZW 0 ?_; refine rLd 1 ?_; refine ZW 2 ?_)
    all_goals (refine Zt (i := 3) ?_; ((try refine Zr ?_); (first | (refine Zd (.func 147) ?_; refine qC rfl rfl (hnk) ?_; rintro v ρ' L' hle ⟨rfl, rfl, rfl⟩ <;> (try simp only [kM, kN, kO])) | (refine Zo ?_; try intro _)) <;> ((try simp only [kM, kN, kO]); refine Zc ?_; refine Zs ?_)))
    all_goals (refine ZY ?_; refine ZW 4 ?_; (first | refine Zb 5 ?_ | refine Za 5 ?_ | refine ZD 5 ?_); (first | refine Zb 6 ?_ | refine Za 6 ?_ | refine ZD 6 ?_); (first | refine Zb 7 ?_ | refine Za 7 ?_ | refine wIa 7 ?_); (first | refine Zb 8 ?_ | refine Za 8 ?_ | refine ZV 8 ?_); (first | refine Zb 9 ?_ | refine Za 9 ?_ | refine ZX 9 ?_); (first | refine Zb 10 ?_ | refine Za 10 ?_ | refine ZV 10 ?_); (first | refine Zb 11 ?_ | refine Za 11 ?_ | refine ZX 11 ?_); (first | refine Zb 12 ?_ | refine Za 12 ?_ | refine wCm 12 ?_); refine rPk 13 ?_; refine ZT ?_)
    all_goals (repeat' (first | (refine Zd (.func 148) ?_; refine qC rfl rfl (hrek2) ?_; rintro v ρ' L' hle ⟨rfl, rfl, rfl⟩ <;> (try simp only [kM, kN, kO])) | (refine Yp (css := [[.int .i64 (k : Int), .int .i64 y.a.kind, .slice y.av.ra y.av.rn y.av.rc, .slice y.av.ka y.av.kn y.av.kc]]) (sz := 4) rfl rfl rfl rfl (by simp) (by simp) rfl (fun bs => ?_); simp only [List.flatten_cons, List.flatten_nil, List.append_nil]) | (refine Xq (ys := [.int .i64 (k : Int), .int .i64 y.a.kind, .slice y.av.ra y.av.rn y.av.rc, .slice y.av.ka y.av.kn y.av.kc]) (m := 1) rfl rfl hown (hR := by repeat (first | exact ZQ | apply ZS)) SrcV.lit rfl rfl (by decide) rfl (by omega) (by omega) rfl (fun v3 sp3 hown3 => ?_)) | (refine iBu ?_; refine ZC (Ze rfl) rfl rfl ?_) | (refine Zj ?_; first | (refine Zi ?_; refine qQ ?_) | refine Zo ?_) | refine Zc ?_ | (refine Zh ?_; refine Zz ?_) | (refine Zg ?_; refine Zy ?_) | intro _))
    all_goals
     have hm : ((acc.map Xi).map shV).flatten ++ shV (Xi y) = (((acc ++ [y]).map Xi).map shV).flatten := by simp
     rw [← hsh, hm] at hown3 ⊢
     rw [← e1]
     refine Zu (k + 1, v3, sp3, acc ++ [y]) (⟨hlt, by rw [List.length_append]; exact Nat.succ_le_succ hal, by rw [List.length_append]; exact hown3, hsucc.symm⟩) Zn Zn rfl tk inferInstance (by first | omega | (dsimp only; omega))
   ·have hg : gI f d r k = [] := by unfold gI; rw [hq, decide_eq_false hlt2]; rfl
    rw [hg, List.append_nil, ← hacc] at hsucc
    repeat' (first | (refine iBu ?_; refine ZC (Ze rfl) rfl rfl ?_) | (refine Zj ?_; first | (refine Zi ?_; refine qQ ?_) | refine Zo ?_) | refine Zc ?_ | (refine Zh ?_; refine Zz ?_) | (refine Zg ?_; refine Zy ?_) | intro _)
    refine ZJ (Zq _ _ ([[(rb, .cells ⟨Xo v r⟩ 30 (0, 0))]])) (Yc (hT := tk) (Hp.le_refl _)) ?_
    all_goals (refine ZW 0 ?_; refine rLd 1 ?_; refine ZW 2 ?_)
    all_goals (refine Zt (i := 3) ?_; ((try refine Zr ?_); (first | (refine Zd (.func 147) ?_; refine qC rfl rfl (hnk) ?_; rintro v ρ' L' hle ⟨rfl, rfl, rfl⟩ <;> (try simp only [kM, kN, kO])) | (refine Zo ?_; try intro _)) <;> ((try simp only [kM, kN, kO]); refine Zc ?_; refine Zs ?_)))
    all_goals (refine ZY ?_; refine ZW 4 ?_; (first | refine Zb 5 ?_ | refine Za 5 ?_ | refine ZD 5 ?_); (first | refine Zb 6 ?_ | refine Za 6 ?_ | refine ZD 6 ?_); (first | refine Zb 7 ?_ | refine Za 7 ?_ | refine wIa 7 ?_); (first | refine Zb 8 ?_ | refine Za 8 ?_ | refine ZV 8 ?_); (first | refine Zb 9 ?_ | refine Za 9 ?_ | refine ZX 9 ?_); (first | refine Zb 10 ?_ | refine Za 10 ?_ | refine ZV 10 ?_); (first | refine Zb 11 ?_ | refine Za 11 ?_ | refine ZX 11 ?_); (first | refine Zb 12 ?_ | refine Za 12 ?_ | refine wCm 12 ?_); refine rPk 13 ?_; refine ZT ?_)
    all_goals (repeat' (first | (refine iBu ?_; refine ZC (Ze rfl) rfl rfl ?_) | (refine Zj ?_; first | (refine Zi ?_; refine qQ ?_) | refine Zo ?_) | refine Zc ?_ | (refine Zh ?_; refine Zz ?_) | (refine Zg ?_; refine Zy ?_) | intro _))
    all_goals rw [← e1]
    all_goals refine Zu (k + 1, .slice va acc.length vc, sp, acc) (⟨hlt, Nat.le_succ_of_le hal, hown, hsucc.symm⟩) Zn Zn rfl tk inferInstance (by first | omega | (dsimp only; omega))
 ·have hkn : k = 64 := by omega
  subst hkn
  repeat' (first | (refine iBu ?_; refine ZC (Ze rfl) rfl rfl ?_) | (refine Zj ?_; first | (refine Zi ?_; refine qQ ?_) | refine Zo ?_) | refine Zc ?_ | (refine Zh ?_; refine Zz ?_) | (refine Zg ?_; refine Zy ?_) | intro _)
  refine te_freeze (YT (.slice va acc.length vc) (((acc.map Xi).map shV).flatten) sp 189) (fun ρ3 hle3 hfz => ?_)
  obtain ⟨sa, sc, f1, hsc, hA2⟩ := hown.aIn (by simp) (fun x _ => shV_len x) hfz
  cases f1
  exact qE (L' := []) (hle := hle3) ⟨hle3, ⟨va, acc.length, vc⟩, rfl, by rw [← hacc]; exact ⟨hA2, by dsimp only; omega, hsc⟩, rfl⟩
theorem sameSh_spec (ρ : Hp) (s1 s2 : SV) (A B : List ShD) (h1 : AS ρ 4 shV s1 A) (h2 : AS ρ 4 shV s2 B) (c1 : ∀ x ∈ A, CIn ρ x.w x.c.rows x.c.kids) (c2 : ∀ x ∈ B, CIn ρ x.w x.c.rows x.c.kids) (he : A.map (fun x => (x.page, x.c)) = B.map (fun x => (x.page, x.c))) :
  Spec Tryz.prog 66 [.slice s1.a s1.n s1.c, .slice s2.a s2.n s2.c] ρ [] (fun z ρ' L' => z = .bool true ∧ ρ' = ρ ∧ L' = []) := by
 have l1 := h1.at'.len
 have l2 := h2.at'.len
 have b1 := h1.big
 have hll : A.length = B.length := by simpa using congrArg List.length he
 refine Zf Tryz.func66 rfl rfl rfl fun u R => ?_
 simp only [ZG, List.cons_append, List.nil_append]
 repeat' (first | (refine iBu ?_; refine ZC (Ze rfl) rfl rfl ?_) | (refine Zj ?_; first | (refine Zi ?_; refine qQ ?_) | refine Zo ?_) | refine Zc ?_ | (refine Zh ?_; refine Zz ?_) | (refine Zg ?_; refine Zy ?_) | intro _)
 refine ZL [(0, _), (1, _), (12, _)] (fun (ζ : (Nat)) => [(13, .int .i64 ζ), (4, .bool false)]) (fun (ζ : (Nat)) => ρ) (fun (ζ : (Nat)) => []) (fun (ζ : (Nat)) => ζ ≤ s1.n) (fun (ζ : (Nat)) => s1.n - ζ) (0) (Nat.zero_le _) Zn Zn rfl tk ?_
 rintro k hI
 try simp only [List.cons_append, List.nil_append, List.append_assoc, List.append_eq] at hI ⊢
 try dsimp only at hI ⊢
 by_cases hlt : k < s1.n
 ·obtain ⟨b, off, C, T, fr, e1, hb, hfit, hc⟩ := h1.at'.get (show k < A.length by omega)
  obtain ⟨b', off', C', T', fr', e2, hb', hfit', hc'⟩ := h2.at'.get (show k < B.length by omega)
  have hx := c1 _ (List.getElem_mem (show k < A.length by omega))
  have hy := c2 _ (List.getElem_mem (show k < B.length by omega))
  have hk := congrArg (fun m => m[k]?) he
  simp only [List.getElem?_map, List.getElem?_eq_getElem (show k < A.length by omega), List.getElem?_eq_getElem (show k < B.length by omega), Option.map_some, Option.some.injEq, Prod.mk.injEq] at hk
  generalize A[k]'(by omega) = x at *
  generalize B[k]'(by omega) = y at *
  obtain ⟨hp, hcc⟩ := hk
  have hs := sameR_spec ρ x.w y.w x.c y.c hx hy
  rw [decide_eq_true hcc] at hs
  have hld1 := drop1_take hc
  have hld2 := drop1_take hc'
  have hc0 : C[off + k * 4 + 0]? = some (.int .i64 x.page) := cell_at4 hc rfl
  have hc0' : C'[off' + k * 4 + 0]? = some (.int .i64 y.page) := cell_at4 hc' rfl
  rw [e1, e2]
  repeat' (first | (refine iBu ?_; refine ZC (Ze rfl) rfl rfl ?_) | (refine Zj ?_; first | (refine Zi ?_; refine qQ ?_) | refine Zo ?_) | refine Zc ?_ | (refine Zh ?_; refine Zz ?_) | (refine Zg ?_; refine Zy ?_) | intro _)
  refine ZJ (Zq _ _ _) Zx ?_
  all_goals (refine ZW 0 ?_; refine ZW 1 ?_; refine rIa 2 ?_; refine rFa 3 ?_; refine rLd 4 ?_; refine ZW 5 ?_; refine ZW 6 ?_; refine rIa 7 ?_; refine rFa 8 ?_; refine rLd 9 ?_; refine rCm 10 ?_; refine ZW 11 ?_; (first | refine Zb 12 ?_ | refine Za 12 ?_ | refine ZD 12 ?_); (first | refine Zb 13 ?_ | refine Za 13 ?_ | refine ZD 13 ?_); (first | refine Zb 14 ?_ | refine Za 14 ?_ | refine wIa 14 ?_); (first | refine Zb 15 ?_ | refine Za 15 ?_ | refine ZV 15 ?_); (first | refine Zb 16 ?_ | refine Za 16 ?_ | refine ZX 16 ?_); (first | refine Zb 17 ?_ | refine Za 17 ?_ | refine ZD 17 ?_); (first | refine Zb 18 ?_ | refine Za 18 ?_ | refine ZD 18 ?_); (first | refine Zb 19 ?_ | refine Za 19 ?_ | refine wIa 19 ?_); (first | refine Zb 20 ?_ | refine Za 20 ?_ | refine ZV 20 ?_); (first | refine Zb 21 ?_ | refine Za 21 ?_ | refine ZX 21 ?_))
  all_goals (first | refine Zb 22 ?_ | refine Za 22 ?_ | (refine Zt (i := 22) ?_; ((try refine Zr ?_); (first | (refine Zd (.func 93) ?_; refine qC rfl rfl (hs) ?_; rintro v ρ' L' hle ⟨rfl, rfl, rfl⟩ <;> (try simp only [kM, kN, kO])) | (refine Zo ?_; try intro _)) <;> ((try simp only [kM, kN, kO]); refine Zc ?_; refine Zs ?_))))
  all_goals (refine ZY ?_; (first | refine Zb 23 ?_ | refine Za 23 ?_ | refine wUn 23 ?_); refine rPk 24 ?_; refine ZT ?_)
  all_goals (repeat' (first | (refine iBu ?_; refine ZC (Ze rfl) rfl rfl ?_) | (refine Zj ?_; first | (refine Zi ?_; refine qQ ?_) | refine Zo ?_) | refine Zc ?_ | (refine Zh ?_; refine Zz ?_) | (refine Zg ?_; refine Zy ?_) | intro _))
  all_goals rw [← e1, ← e2]
  all_goals refine Zu (k + 1) (hlt) Zn Zn rfl tk inferInstance (by first | omega | (dsimp only; omega))
 ·repeat' (first | (refine iBu ?_; refine ZC (Ze rfl) rfl rfl ?_) | (refine Zj ?_; first | (refine Zi ?_; refine qQ ?_) | refine Zo ?_) | refine Zc ?_ | (refine Zh ?_; refine Zz ?_) | (refine Zg ?_; refine Zy ?_) | intro _)
  exact qE (L' := []) ⟨rfl, rfl, rfl⟩
end Go.Proofs.E
namespace Go.Proofs.E
open Go Go.RowKit
set_option linter.unusedVariables false
set_option linter.unusedSimpArgs false
set_option linter.unusedSectionVars false
theorem filt_step (P : Int → Bool) : ∀ (l : List Im), l.Pairwise (fun a b => a.page < b.page) → ∀ (k : Int),
  l.filter (fun x => decide (x.page < k + 1) && P x.page) = l.filter (fun x => decide (x.page < k) && P x.page) ++ (if P k then (l.find? (fun x => decide (x.page = k))).toList else [])
 | [], _, k => by cases P k <;> rfl
 | x :: t, h, k => by
  rw [List.pairwise_cons] at h
  have ih := filt_step P t h.2 k
  have hgt : k ≤ x.page → t.filter (fun x => decide (x.page < k + 1) && P x.page) = [] ∧ t.filter (fun x => decide (x.page < k) && P x.page) = [] ∧ t.find? (fun x => decide (x.page = k)) = none := fun hx => by
   refine ⟨List.filter_eq_nil_iff.2 (fun y hy => ?_), List.filter_eq_nil_iff.2 (fun y hy => ?_), List.find?_eq_none.2 (fun y hy => ?_)⟩
   all_goals
    have := h.1 y hy
    simp
    omega
  rw [List.filter_cons, List.filter_cons, List.find?_cons]
  rcases Int.lt_trichotomy x.page k with hl | hl | hl
  ·rw [decide_eq_true (show x.page < k + 1 by omega), decide_eq_true hl, decide_eq_false (show ¬ x.page = k by omega), ih]
   cases P x.page <;> simp
  ·obtain ⟨g1, g2, g3⟩ := hgt (by omega)
   rw [g1, g2, decide_eq_true (show x.page < k + 1 by omega), decide_eq_false (show ¬ x.page < k by omega), decide_eq_true hl, hl]
   cases P k <;> simp
  ·obtain ⟨g1, g2, g3⟩ := hgt (by omega)
   rw [g1, g2, decide_eq_false (show ¬ x.page < k + 1 by omega), decide_eq_false (show ¬ x.page < k by omega), decide_eq_false (show ¬ x.page = k by omega), g3]
   cases P k <;> simp
theorem filt_all (P : Int → Bool) (l : List Im) (h : l.Pairwise (fun a b => a.page < b.page)) (h0 : ∀ x ∈ l, 0 ≤ x.page) : ∀ (k : Nat),
  (List.range k).flatMap (fun n : Nat => if P n then (l.find? (fun x => decide (x.page = (n : Int)))).toList else []) = l.filter (fun x => decide (x.page < (k : Int)) && P x.page)
 | 0 => by
  symm
  refine List.filter_eq_nil_iff.2 (fun y hy => ?_)
  have := h0 y hy
  simp
  intro h1
  omega
 | k + 1 => by
  rw [List.range_succ, List.flatMap_append, filt_all P l h h0 k]
  have := filt_step P l h (k : Int)
  rw [show ((k + 1 : Nat) : Int) = (k : Int) + 1 by omega, this]
  simp
theorem ims_up {r : Rc} (h : Yo r = true) : r.ims.Pairwise (fun a b => a.page < b.page) := by
 have key : ∀ (right : Im → Bool), upB right Im.page r.ims r.ims.length = true → r.ims.Pairwise (fun a b => a.page < b.page) := fun right hu => by
  rw [List.pairwise_iff_getElem]
  intro i j hi hj hij
  exact up_lt hu j hj i hij
 have f := recOk_facts h
 rcases f.i0 with hi | hk | hk
 ·rw [hi]; exact .nil
 ·exact key _ (recOk_up2 h hk)
 ·refine key (imOk false) ?_
  unfold Yo askOk at h
  rw [if_neg (by omega), if_neg (by omega), if_pos hk, Bool.and_eq_true, Bool.and_eq_true, Bool.and_eq_true] at h
  have := h.2.2.1
  rw [if_neg (show ¬ r.kind = 4 by omega), Bool.and_eq_true] at this
  have := this.2
  unfold imsOk at this
  rw [Bool.and_eq_true] at this
  exact this.2
theorem redo_ref {f : Int → Nat} {d : List CkP} {r : Rc} (h : whyE d r = 0) : Xs f d r = refL f d r 64 := by
 have hr : Yo r = true := by
  unfold whyE at h
  cases hr : Yo r
  ·rw [hr] at h; revert h; cases YF d <;> simp
  ·rfl
 have hf := recOk_facts hr
 have := filt_all (fun n => YA d r n && decide (f n < r.lsn)) r.ims (ims_up hr) (fun x hx => (hf.im x hx).1.1) 64
 unfold refL gI Xs Xu
 rw [this, List.filter_filter]
 refine List.filter_congr (fun x hx => ?_)
 rw [decide_eq_true (show x.page < ((64 : Nat) : Int) from (hf.im x hx).1.2), Bool.true_and, Bool.and_comm]
end Go.Proofs.E
namespace Go.Proofs.E
open Go
set_option linter.unusedVariables false
set_option linter.unusedSimpArgs false
set_option linter.unusedSectionVars false
set_option maxRecDepth 4000
set_option maxHeartbeats 1000000
attribute [local irreducible] Yl TL TC TE Spec Xn R1 Hp.le EnvLe TS TR YS Zq
theorem stepnil_spec (ρ : Hp) (s : SV) (v : RV) (r : Rc) : Spec Tryz.prog 142 [.pointer none, .slice s.a s.n s.c, .agg ⟨Xo v r⟩] ρ [] (fun z ρ' L' => z = .tuple ⟨[.int .i64 0, .int .i64 1]⟩ ∧ ρ' = ρ ∧ L' = []) := by
 refine Zf Tryz.func142 rfl rfl rfl fun u R => ?_
 simp only [ZG, List.cons_append, List.nil_append]
 repeat' (first | (refine iBu ?_; refine ZC (Ze rfl) rfl rfl ?_) | (refine Zj ?_; first | (refine Zi ?_; refine qQ ?_) | refine Zo ?_) | refine Zc ?_ | (refine Zh ?_; refine Zz ?_) | (refine Zg ?_; refine Zy ?_) | intro _)
 exact qE (L' := []) ⟨rfl, rfl, rfl⟩
def wnI (n : Int) : Im := ⟨n, nilCV, ztC, nilCV, ztC⟩
def wnR : Rc := ⟨2, 7, 1, 1, 0, [wnI 2, wnI 5], [], 0, [], []⟩
def wnD : List CkP := [⟨2, 7⟩, ⟨5, 3⟩]
def wnF (m : Nat) (n : Int) : Nat := if n = 5 then m else 0
theorem wn_why : whyE wnD wnR = 0 := by decide +kernel
theorem wn_a : (Xs (wnF 0) wnD wnR).map Im.page = [2, 5] := by decide +kernel
theorem wn_b : (Xs (wnF 7) wnD wnR).map Im.page = [2] := by decide +kernel
theorem wnSh (ρ : Hp) (b : Nat) (W : List Value) (m : Nat) (h2 : W[0 + 2 * 4 + 3]? = some (.int .u64 0)) (h5 : W[0 + 5 * 4 + 3]? = some (.int .u64 m)) (s : SV) (hd : AS ρ 2 YG s wnD) (v : RV) (h : RcIn ρ v wnR) :
  Spec Tryz.prog 63 [.slice (some ⟨b, 0, none⟩) 64 64, .slice s.a s.n s.c, .agg ⟨Xo v wnR⟩] ρ [[(b, .cells ⟨W⟩ 112 (0, 0))]]
   (fun z ρ' L' => ρ.le ρ' ∧ ∃ s2 : SV, z = .tuple ⟨[.slice s2.a s2.n s2.c, .int .i64 0]⟩ ∧ AS ρ' 4 shV s2 ((Xs (wnF m) wnD wnR).map Xi) ∧ L' = [[(b, .cells ⟨W⟩ 112 (0, 0))]]) := by
 have e : shE wnD wnR 64 = 0 := by unfold shE; rw [wn_why]; rfl
 have := rsheets_spec ρ (some ⟨b, 0, none⟩) 64 64 s wnD hd v wnR h [[(b, .cells ⟨W⟩ 112 (0, 0))]] (wnF m) (fun _ _ lb ρ2 _ x hx => by
  have hx : x = wnI 2 ∨ x = wnI 5 := by simpa [wnR] using hx
  rcases hx with rfl | rfl
  ·exact lsn1_own ρ2 lb b 64 64 W 2 0 (by decide) (by decide) h2
  ·exact lsn1_own ρ2 lb b 64 64 W 5 m (by decide) (by decide) h5)
 rw [e, if_pos rfl] at this
 exact this
theorem wnA (ρ : Hp) (b : Nat) (W : List Value) (h2 : W[0 + 2 * 4 + 3]? = some (.int .u64 0)) (h5 : W[0 + 5 * 4 + 3]? = some (.int .u64 0)) (s : SV) (hd : AS ρ 2 YG s wnD) (v : RV) (h : RcIn ρ v wnR) :
  Spec Tryz.prog 63 [.slice (some ⟨b, 0, none⟩) 64 64, .slice s.a s.n s.c, .agg ⟨Xo v wnR⟩] ρ [[(b, .cells ⟨W⟩ 112 (0, 0))]]
   (fun z ρ' L' => ρ.le ρ' ∧ ∃ s2 : SV, z = .tuple ⟨[.slice s2.a 2 s2.c, .int .i64 0]⟩ ∧ L' = [[(b, .cells ⟨W⟩ 112 (0, 0))]]) := by
 refine (wnSh ρ b W 0 h2 h5 s hd v h).mono ?_
 rintro z ρ' L' _ ⟨q1, s2, q2, q3, q4⟩
 have e : s2.n = 2 := by
  have := q3.at'.len
  have h3 := congrArg List.length wn_a
  simp only [List.length_map, List.length_cons, List.length_nil] at this h3
  omega
 rw [e] at q2
 exact ⟨q1, s2, q2, q4⟩
theorem wnB (ρ : Hp) (b : Nat) (W : List Value) (h2 : W[0 + 2 * 4 + 3]? = some (.int .u64 0)) (h5 : W[0 + 5 * 4 + 3]? = some (.int .u64 7)) (s : SV) (hd : AS ρ 2 YG s wnD) (v : RV) (h : RcIn ρ v wnR) :
  Spec Tryz.prog 63 [.slice (some ⟨b, 0, none⟩) 64 64, .slice s.a s.n s.c, .agg ⟨Xo v wnR⟩] ρ [[(b, .cells ⟨W⟩ 112 (0, 0))]]
   (fun z ρ' L' => ρ.le ρ' ∧ ∃ b2 off C T fr c, z = .tuple ⟨[.slice (some ⟨b2, off, none⟩) 1 c, .int .i64 0]⟩ ∧ ρ' b2 = some (.cells ⟨C⟩ T fr) ∧ C[off + (0 : Int).toNat * 4 + 0]? = some (.int .i64 2) ∧ L' = [[(b, .cells ⟨W⟩ 112 (0, 0))]]) := by
 refine (wnSh ρ b W 7 h2 h5 s hd v h).mono ?_
 rintro z ρ' L' _ ⟨q1, s2, q2, q3, q4⟩
 have hl := q3.at'.len
 have h3 := congrArg List.length wn_b
 simp only [List.length_map, List.length_cons, List.length_nil] at hl h3
 have h4 := congrArg (fun l => l[0]?) wn_b
 simp only [List.getElem?_map, List.getElem?_cons_zero, List.getElem?_eq_getElem (show 0 < (Xs (wnF 7) wnD wnR).length by omega), Option.map_some, Option.some.injEq] at h4
 obtain ⟨b2, off, C, T, fr, e1, hb, hfit, hc⟩ := q3.at'.get (show 0 < ((Xs (wnF 7) wnD wnR).map Xi).length by rw [List.length_map]; omega)
 rw [List.getElem_map] at hc
 have hc0 := cell_at4 hc (d := 0) rfl
 rw [show (Xi ((Xs (wnF 7) wnD wnR)[0]'(by omega))).page = 2 from h4] at hc0
 refine ⟨q1, b2, off, C, T, fr, s2.c, ?_, hb, hc0, q4⟩
 rw [q2, e1, show s2.n = 1 by omega]
theorem set7 {W : List Value} (h : W.length = 256) : SetL W (0 + (5 : Int).toNat * 4 + 3) (.int .u64 7) (W.set 23 (.int .u64 7)) := by
 refine ⟨by rw [h]; decide, ?_⟩
 rw [List.set_eq_take_append_cons_drop, if_pos (by rw [h]; decide)]
 simp [stc]
def wnW : Array Value := madeCells (Value.cells (.agg ⟨[.int .i64 0, .slice none 0 0, .slice none 0 0, .int .u64 0]⟩)) (Int.toNat 64 * 4)
theorem wn_W : wnW.toList.length = 256 ∧ wnW.toList[0 + 2 * 4 + 3]? = some (.int .u64 0) ∧ wnW.toList[0 + 5 * 4 + 3]? = some (.int .u64 0) := ⟨by kernel_rfl, by kernel_rfl, by kernel_rfl⟩
theorem wakes24_spec (ρ : Hp) : Spec Tryz.prog 61 [] ρ [] (fun v ρ' L' => v = .bool true ∧ ρ.le ρ' ∧ L' = []) := by
 refine Zf Tryz.func61 rfl rfl rfl fun u R => ?_
 simp only [ZG, List.cons_append, List.nil_append]
 repeat' (first | (refine Yp (css := [imV (wnI 2), imV (wnI 5)]) (sz := 7) rfl rfl rfl rfl (by simp) (by simp) rfl (fun bs => ?_); simp only [List.flatten_cons, List.flatten_nil, List.append_nil]; refine tl_freeze _ (h := Rem.here) (fun ρz hlz hfz => ?_); have hbs := hfz _ (List.mem_singleton.2 rfl); clear hfz; (try simp only [List.nil_append])) | (refine Yp (css := [YG ⟨2, 7⟩, YG ⟨5, 3⟩]) (sz := 2) rfl rfl rfl rfl (by simp) (by simp) rfl (fun bs2 => ?_); simp only [List.flatten_cons, List.flatten_nil, List.append_nil]; refine tl_freeze _ (h := Rem.here) (fun ρy hly hfy => ?_); have hbs2 := hfy _ (List.mem_singleton.2 rfl); clear hfy; (try simp only [List.nil_append])) | (refine iBu ?_; refine ZC (Ze rfl) rfl rfl ?_) | (refine Zj ?_; first | (refine Zi ?_; refine qQ ?_) | refine Zo ?_) | refine Zc ?_ | (refine Zh ?_; refine Zz ?_) | (refine Zg ?_; refine Zy ?_) | intro _)
 refine tl_makeSlice rfl rfl (by omega) (by omega) (by omega) (by omega) rfl (fun hbn => ?_)
 have hW := wn_W
 obtain ⟨W0, hW0⟩ : ∃ W0 : List Value, wnW = ⟨W0⟩ := ⟨_, rfl⟩
 rw [hW0] at hW
 rw [show madeCells (Value.cells (.agg ⟨[.int .i64 0, .slice none 0 0, .slice none 0 0, .int .u64 0]⟩)) (Int.toNat 64 * 4) = ⟨W0⟩ from hW0]
 clear hW0
 obtain ⟨hW1, hW2, hW3⟩ := hW
 simp only [show Int.toNat 64 = 64 from rfl]
 haveI hst := set7 hW1
 have hd : ∀ ρq, ρy.le ρq → AS ρq 2 YG ⟨some ⟨bs2, 0, none⟩, 2, 2⟩ wnD := fun ρq hq => ⟨⟨rfl, .inr ⟨bs2, 0, _, _, _, rfl, Hp.up hq hbs2, Nat.le_refl _, rfl⟩, by (intro x hx; rfl)⟩, by (dsimp only; omega), Nat.le_refl _⟩
 have hr : ∀ ρq, ρz.le ρq → RcIn ρq ⟨⟨some ⟨bs, 0, none⟩, 2, 2⟩, ⟨none, 0, 0⟩, ⟨none, 0, 0⟩, ⟨none, 0, 0⟩⟩ wnR := fun ρq hq => ⟨⟨⟨rfl, .inr ⟨bs, 0, _, _, _, rfl, Hp.up hq hbs, Nat.le_refl _, rfl⟩, by (intro x hx; rfl)⟩, by (dsimp only; omega), Nat.le_refl _⟩, fun x hx => by (have hx : x = wnI 2 ∨ x = wnI 5 := by (simpa [wnR] using hx)); (rcases hx with rfl | rfl); (exact ⟨CI.nil, CI.nil⟩); (exact ⟨CI.nil, CI.nil⟩), AS.nil, AS.nil, AS.nil, by (simp [wnR])⟩
 have h11 : (W0.set 23 (Value.int .u64 7))[0 + 2 * 4 + 3]? = some (.int .u64 0) := by (rw [List.getElem?_set_ne (by decide)]; exact hW2)
 have h23 : (W0.set 23 (Value.int .u64 7))[0 + 5 * 4 + 3]? = some (.int .u64 7) := by (rw [List.getElem?_set_self (by rw [hW1]; decide)])
 repeat' (first | (refine Zd (.func 63) ?_; refine qC rfl rfl ((wnA _ hbn W0 hW2 hW3 ⟨some ⟨bs2, 0, none⟩, 2, 2⟩ (hd _ (Hp.le_refl _)) _ (hr _ hly))) ?_; rintro v ρ' L' hle ⟨hz1, s2, rfl, rfl⟩ <;> (try simp only [kM, kN, kO])) | (refine Zd (.func 63) ?_; refine qC rfl rfl ((wnB _ hbn (W0.set 23 (.int .u64 7)) h11 h23 ⟨some ⟨bs2, 0, none⟩, 2, 2⟩ (hd _ hz1) _ (hr _ (Hp.le_trans hly hz1)))) ?_; rintro v ρ' L' hle ⟨hz2, b3, off, C, T, fr, c3, rfl, hb3, hcell, rfl⟩ <;> (try simp only [kM, kN, kO])) | (refine Zd (.func 142) ?_; refine qC rfl rfl ((stepnil_spec _ ⟨some ⟨bs2, 0, none⟩, 2, 2⟩ ⟨⟨some ⟨bs, 0, none⟩, 2, 2⟩, ⟨none, 0, 0⟩, ⟨none, 0, 0⟩, ⟨none, 0, 0⟩⟩ wnR)) ?_; rintro v ρ' L' hle ⟨rfl, rfl, rfl⟩ <;> (try simp only [kM, kN, kO])) | (refine iBu ?_; refine ZC (Ze rfl) rfl rfl ?_) | (refine Zj ?_; first | (refine Zi ?_; refine qQ ?_) | refine Zo ?_) | refine Zc ?_ | (refine Zh ?_; refine Zz ?_) | (refine Zg ?_; refine Zy ?_) | intro _)
 exact qE (L' := []) (hle := Hp.le_trans hlz (Hp.le_trans hly (Hp.le_trans hz1 hz2))) ⟨rfl, Hp.le_trans hlz (Hp.le_trans hly (Hp.le_trans hz1 hz2)), rfl⟩
end Go.Proofs.E
namespace Go.Proofs.E
open Go Go.RowKit
set_option linter.unusedVariables false
set_option linter.unusedSimpArgs false
set_option linter.unusedSectionVars false
set_option maxRecDepth 8000
section
variable {H : Type} {enc : TypeId × Value → H} {w : World}
theorem opnS_paged : OpnS enc Tryz.prog w 112 (fun cs (x : PgD) => cs = pgV x ∧ CW (hpOf w) x.w x.c) := fun fuel cs x h hw => by
 obtain ⟨hl, hf⟩ := Yw Tryz.underlying112 h hw
 have hl : cs.length = 4 := by rw [hl]; kernel_rfl
 obtain ⟨c0, c1, c2, c3, rfl⟩ : ∃ c0 c1 c2 c3, cs = [c0, c1, c2, c3] := by
  match cs, hl with
  | [c0, c1, c2, c3], _ => exact ⟨c0, c1, c2, c3, rfl⟩
 obtain ⟨⟨bv, b⟩, h1, w1⟩ := ZF h hw Tryz.underlying112 0 0 3 rfl rfl rfl (by kernel_rfl) opnS_cont
 obtain ⟨l, h2, l0, _⟩ := ZF h hw Tryz.underlying112 1 3 1 rfl rfl rfl (by kernel_rfl) (Ym Tryz.underlying24).sized
 simp only [List.drop_zero, List.drop_succ_cons, List.take_succ_cons, List.take_zero, List.cons.injEq, and_true] at h1 h2
 obtain ⟨g0, g1, g2⟩ := h1
 subst h2; subst g0; subst g1; subst g2
 refine ⟨⟨bv, b, l.toNat⟩, ?_, w1⟩
 simp only [pgV, u64_back l0]
end
end Go.Proofs.E
namespace Go.Proofs.E
open Go
set_option linter.unusedVariables false
set_option linter.unusedSimpArgs false
set_option linter.unusedSectionVars false
set_option maxRecDepth 4000
set_option maxHeartbeats 1000000
attribute [local irreducible] Yl TL TC TE Spec Xn R1 Hp.le EnvLe TS TR YS Zq
def fewR24 (r : Rc) : Rc := { r with ims := (r.ims.take 17).map fewIm, steps := r.steps.take 3, txns := r.txns.take 9, dirty := r.dirty.take 65 }
theorem content24_spec (ρ : Hp) (w : CV) (c : Cont) (h : CInW ρ w c.rows c.kids) :
  Spec Tryz.prog 62 [.agg ⟨contV c.kind w⟩] ρ [] (fun v ρ' L' => ρ.le ρ' ∧ ∃ w', v = .agg ⟨contV c.kind w'⟩ ∧ CIn ρ' w' (fewC c).rows (fewC c).kids ∧ L' = []) := by
 obtain ⟨kind, rows, kids⟩ := c
 obtain ⟨ra, rn, rc, ka, kn, kc⟩ := w
 obtain ⟨hr, hk, hrb, hkb, hrc, hkc⟩ := h
 dsimp only at hr hk hrb hkb hrc hkc
 have hrl := hr.len
 have hkl := hk.len
 dsimp only [fewC, contV]
 obtain ⟨m, hm⟩ : ∃ m, m = min kn 5 := ⟨_, rfl⟩
 obtain ⟨q, hq⟩ : ∃ q, q = min rn 5 := ⟨_, rfl⟩
 have hmt : (min (kn : Int) 5).toNat = m := by omega
 have hqt : (min (rn : Int) 5).toNat = q := by omega
 have hk5 := hk.take (hi' := m) (by omega)
 have hr5 := hr.take (hi' := q) (by omega)
 rw [take_five _ _ _ hkl hm] at hk5
 rw [take_five _ _ _ hrl hq] at hr5
 have hm5 : m ≤ 5 := by omega
 have hq5 : q ≤ 5 := by omega
 generalize kids.take 5 = KS at *
 generalize rows.take 5 = RS at *
 refine Zf Tryz.func62 rfl rfl rfl fun u R => ?_
 simp only [ZG, List.cons_append, List.nil_append]
 repeat' (first | (refine iBu ?_; refine ZC (Ze rfl) rfl rfl ?_) | (refine Zj ?_; first | (refine Zi ?_; refine qQ ?_) | refine Zo ?_) | refine Zc ?_ | (refine Zh ?_; refine Zz ?_) | (refine Zg ?_; refine Zy ?_) | intro _)
 rename_i b1 b2
 refine tc_cut_k R [] (fun (ζ : (Option Addr) × (Nat) × (List Value) × (Option Addr) × (Nat) × (List Value)) => [(1, .pointer (some ⟨b1, 0, none⟩)), (2, .pointer (some ⟨b2, 0, none⟩))]) (fun (ζ : (Option Addr) × (Nat) × (List Value) × (Option Addr) × (Nat) × (List Value)) => ρ) (fun (ζ : (Option Addr) × (Nat) × (List Value) × (Option Addr) × (Nat) × (List Value)) => [YT (.slice ζ.1 q ζ.2.1) (RS.map Yx).flatten ζ.2.2.1 101, YT (.slice ζ.2.2.2.1 m ζ.2.2.2.2.1) (KS.map Xp).flatten ζ.2.2.2.2.2 224, [(b1, .cells ⟨[.int .i64 kind, .slice ζ.1 q ζ.2.1, .slice ζ.2.2.2.1 m ζ.2.2.2.2.1]⟩ 110 (0, 0))], [(b2, .cells ⟨[.int .i64 0, .slice none 0 0, .slice none 0 0]⟩ 110 (0, 0))]]) (fun (ζ : (Option Addr) × (Nat) × (List Value) × (Option Addr) × (Nat) × (List Value)) => OwnS (.slice ζ.1 q ζ.2.1) q (RS.map Yx).flatten ζ.2.2.1 4 ∧ OwnS (.slice ζ.2.2.2.1 m ζ.2.2.2.2.1) m (KS.map Xp).flatten ζ.2.2.2.2.2 3) Zn ?_ ?_
 ·refine tc_phase 19 (Zq _ _ ([[(b1, .cells ⟨[.int .i64 kind, .slice ra rn rc, .slice ka kn kc]⟩ 110 (0, 0))]])) (by decide +kernel) (Yc (hT := tk) (Hp.le_refl _)) ?_
  simp only [List.take_succ_cons, List.take_zero]
  all_goals (refine rFa 1 ?_; refine rLd 2 ?_; refine rFa 3 ?_; refine rLd 4 ?_; refine rBi 5 ?_; refine rBi 6 ?_; refine rSl 7 ?_; refine rFa 10 ?_; refine rLd 11 ?_; refine rFa 12 ?_; refine rLd 13 ?_; refine rBi 14 ?_; refine rBi 15 ?_; refine rSl 16 ?_)
  all_goals (refine rStep2 (i := 0) (j := 9) ?_ ?_ <;> ((try refine Zr ?_); (first | (refine Zo ?_; try intro _)) <;> ((try simp only [kM, kN, kO]); refine Zc ?_; refine Zs ?_)))
  all_goals (first | (refine rStep2 (i := 8) (j := 9) ?_ ?_ <;> ((try refine Zr ?_); (first | (simp only [hqt]; refine Xq (n := 0) (xs := []) (sp := []) (ys := (RS.map Yx).flatten) (m := q) (sz := 4) rfl rfl (OwnS.zero _ 4) (hR := by first | exact ZQ | exact ZS ZQ | exact ZS (ZS ZQ)) (AIn.srcV hr5) (by rw [YC Yx 4 _ (fun x _ => rfl), hr5.len]) (flatR_one _) (by decide) rfl (by omega) (by omega) rfl (fun v1 sp1 hown1 => ?_); simp only [Nat.zero_add, List.nil_append] at hown1 ⊢; obtain ⟨a1, c1, rfl, hlen1⟩ := hown1.len) | (simp only [hmt]; refine Xq (n := 0) (xs := []) (sp := []) (ys := (KS.map Xp).flatten) (m := m) (sz := 3) rfl rfl (OwnS.zero _ 3) (hR := by first | exact ZQ | exact ZS ZQ | exact ZS (ZS ZQ)) (AIn.srcV hk5) (by rw [YC Xp 3 _ (fun x _ => rfl), hk5.len]) (flatK_one _) (by decide) rfl (by omega) (by omega) rfl (fun v2 sp2 hown2 => ?_); simp only [Nat.zero_add, List.nil_append] at hown2 ⊢; obtain ⟨a2, c2, rfl, hlen2⟩ := hown2.len) | (refine Zo ?_; try intro _)) <;> ((try simp only [kM, kN, kO]); refine Zc ?_; refine Zs ?_))) | (refine Zt (i := 0) ?_; ((try refine Zr ?_); (first | (refine Zo ?_; try intro _)) <;> ((try simp only [kM, kN, kO]); refine Zc ?_; refine Zs ?_))))
  all_goals (first | refine rFa 18 ?_ | (refine Zt (i := 8) ?_; ((try refine Zr ?_); (first | (simp only [hqt]; refine Xq (n := 0) (xs := []) (sp := []) (ys := (RS.map Yx).flatten) (m := q) (sz := 4) rfl rfl (OwnS.zero _ 4) (hR := by first | exact ZQ | exact ZS ZQ | exact ZS (ZS ZQ)) (AIn.srcV hr5) (by rw [YC Yx 4 _ (fun x _ => rfl), hr5.len]) (flatR_one _) (by decide) rfl (by omega) (by omega) rfl (fun v1 sp1 hown1 => ?_); simp only [Nat.zero_add, List.nil_append] at hown1 ⊢; obtain ⟨a1, c1, rfl, hlen1⟩ := hown1.len) | (simp only [hmt]; refine Xq (n := 0) (xs := []) (sp := []) (ys := (KS.map Xp).flatten) (m := m) (sz := 3) rfl rfl (OwnS.zero _ 3) (hR := by first | exact ZQ | exact ZS ZQ | exact ZS (ZS ZQ)) (AIn.srcV hk5) (by rw [YC Xp 3 _ (fun x _ => rfl), hk5.len]) (flatK_one _) (by decide) rfl (by omega) (by omega) rfl (fun v2 sp2 hown2 => ?_); simp only [Nat.zero_add, List.nil_append] at hown2 ⊢; obtain ⟨a2, c2, rfl, hlen2⟩ := hown2.len) | (refine Zo ?_; try intro _)) <;> ((try simp only [kM, kN, kO]); refine Zc ?_; refine Zs ?_))))
  all_goals (first | refine rFa 18 ?_ | (refine Zt (i := 9) ?_; ((try refine Zr ?_); (first | (refine Zo ?_; try intro _)) <;> ((try simp only [kM, kN, kO]); refine Zc ?_; refine Zs ?_))))
  all_goals (refine Zt (i := 17) ?_; ((try refine Zr ?_); (first | (simp only [hqt]; refine Xq (n := 0) (xs := []) (sp := []) (ys := (RS.map Yx).flatten) (m := q) (sz := 4) rfl rfl (OwnS.zero _ 4) (hR := by first | exact ZQ | exact ZS ZQ | exact ZS (ZS ZQ)) (AIn.srcV hr5) (by rw [YC Yx 4 _ (fun x _ => rfl), hr5.len]) (flatR_one _) (by decide) rfl (by omega) (by omega) rfl (fun v1 sp1 hown1 => ?_); simp only [Nat.zero_add, List.nil_append] at hown1 ⊢; obtain ⟨a1, c1, rfl, hlen1⟩ := hown1.len) | (simp only [hmt]; refine Xq (n := 0) (xs := []) (sp := []) (ys := (KS.map Xp).flatten) (m := m) (sz := 3) rfl rfl (OwnS.zero _ 3) (hR := by first | exact ZQ | exact ZS ZQ | exact ZS (ZS ZQ)) (AIn.srcV hk5) (by rw [YC Xp 3 _ (fun x _ => rfl), hk5.len]) (flatK_one _) (by decide) rfl (by omega) (by omega) rfl (fun v2 sp2 hown2 => ?_); simp only [Nat.zero_add, List.nil_append] at hown2 ⊢; obtain ⟨a2, c2, rfl, hlen2⟩ := hown2.len) | (refine Zo ?_; try intro _)) <;> ((try simp only [kM, kN, kO]); refine Zc ?_; refine Zs ?_)))
  all_goals refine ZT ?_
  all_goals refine te_phase (fuel := 3) (m := [true, true, true, true, true, true, true, true, true, true, true, true, true, true, true, true, true, true, true, false, false, false]) (Zq _ _ ([])) rfl rfl (Yc (hT := tk) (Hp.le_refl _)) ?_
  all_goals (refine Zt (i := 19) ?_; ((try refine Zr ?_); (first | (refine Zo ?_; try intro _)) <;> ((try simp only [kM, kN, kO]); refine Zc ?_; refine Zs ?_)))
  all_goals refine rFa 20 ?_
  all_goals (refine Zt (i := 21) ?_; ((try refine Zr ?_); (first | (refine Zo ?_; try intro _)) <;> ((try simp only [kM, kN, kO]); refine Zc ?_; refine Zs ?_)))
  all_goals refine ZT ?_
  all_goals refine te_cut_g ((a1, c1, sp1, a2, c2, sp2)) (⟨hown1, hown2⟩) Zn Zn rfl tk inferInstance
 ·rintro ⟨a1, c1, sp1, a2, c2, sp2⟩ ⟨hown1, hown2⟩
  simp only [List.cons_append, List.nil_append] at hown1 hown2 ⊢
  have hRl := hr5.len
  repeat' (first | (refine iBu ?_; refine ZC (Ze rfl) rfl rfl ?_) | (refine Zj ?_; first | (refine Zi ?_; refine qQ ?_) | refine Zo ?_) | refine Zc ?_ | (refine Zh ?_; refine Zz ?_) | (refine Zg ?_; refine Zy ?_) | intro _)
  refine ZL [(1, _), (2, _), (26, _)] (fun (ζ : (Nat) × (List Row)) => [(27, .int .i64 ζ.1)]) (fun (ζ : (Nat) × (List Row)) => ρ) (fun (ζ : (Nat) × (List Row)) => [YT (.slice a1 q c1) (ζ.2.map Yx).flatten sp1 101, [(b1, .cells ⟨[.int .i64 kind, .slice a1 q c1, .slice a2 m c2]⟩ 110 (0, 0))]]) (fun (ζ : (Nat) × (List Row)) => ζ.1 ≤ q ∧ ζ.2 = (RS.take ζ.1).map shortR ++ RS.drop ζ.1) (fun (ζ : (Nat) × (List Row)) => q - ζ.1) ((0, RS)) (⟨Nat.zero_le _, by simp⟩) Zn Zn rfl tk ?_
  rintro ⟨k, acc⟩ hI
  try simp only [List.cons_append, List.nil_append, List.append_assoc, List.append_eq] at hI ⊢
  try dsimp only at hI ⊢
  obtain ⟨hk0, hacc⟩ := hI
  by_cases hlt : k < q
  ·have hal : acc.length = q := by rw [hacc]; simp; omega
   obtain ⟨pb, pc, e1⟩ := hown1.pos (by omega)
   cases e1
   have hkR : k < RS.length := by rw [hRl]; exact hlt
   have hkv := get_step RS k hkR
   have hset := set_step RS k hkR
   rw [← hacc] at hkv
   rw [← hacc] at hset
   generalize RS[k]'hkR = r at *
   have hld := row_get (sp := sp1) acc k r hkv
   haveI hst := row_setL (sp := sp1) (r.note.take (min (r.note.length : Int) 9).toNat) hkv
   have e9 := take_min9 r.note
   repeat' (first | (refine iBu ?_; refine ZC (Ze rfl) rfl rfl ?_) | (refine Zj ?_; first | (refine Zi ?_; refine qQ ?_) | refine Zo ?_) | refine Zc ?_ | (refine Zh ?_; refine Zz ?_) | (refine Zg ?_; refine Zy ?_) | intro _)
   rw [show YT (.slice (some ⟨pb, 0, none⟩) q c1) ((acc.map Yx).flatten) sp1 101 = [(pb, .cells ⟨(acc.map Yx).flatten ++ sp1⟩ 101 (0, 0))] from rfl]
   refine tc_phase 20 (Zq _ _ ([[(pb, .cells ⟨(acc.map Yx).flatten ++ sp1⟩ 101 (0, 0))], [(b1, .cells ⟨[.int .i64 kind, .slice (some ⟨pb, 0, none⟩) q c1, .slice a2 m c2]⟩ 110 (0, 0))]])) (by decide +kernel) (Yc (hT := tk) (Hp.le_refl _)) ?_
   simp only [List.take_succ_cons, List.take_zero]
   all_goals (refine rFa 0 ?_; refine rLd 1 ?_; refine ZW 2 ?_; refine rFa 3 ?_; refine rLd 4 ?_; refine ZW 5 ?_; refine rIa 6 ?_; refine rFa 7 ?_; refine rLd 8 ?_; refine rFa 9 ?_; refine rLd 10 ?_; refine ZW 11 ?_; refine rIa 12 ?_; refine rFa 13 ?_; refine rLd 14 ?_; refine rBi 15 ?_; refine rBi 16 ?_; refine rSl 17 ?_; refine rIa 18 ?_; refine rFa 19 ?_; refine ZT ?_)
   all_goals refine te_phase (fuel := 1) (m := [true, true, true, true, true, true, true, true, true, true, true, true, true, true, true, true, true, true, true, true, false]) (Zq _ _ ([])) rfl rfl (Yc (hT := tk) (Hp.le_refl _)) ?_
   all_goals (refine Zt (i := 20) ?_; ((try refine Zr ?_); (first | (refine Zo ?_; try intro _)) <;> ((try simp only [kM, kN, kO]); refine Zc ?_; refine Zs ?_)))
   all_goals refine ZT ?_
   all_goals rw [e9]
   all_goals (repeat' (first | (refine iBu ?_; refine ZC (Ze rfl) rfl rfl ?_) | (refine Zj ?_; first | (refine Zi ?_; refine qQ ?_) | refine Zo ?_) | refine Zc ?_ | (refine Zh ?_; refine Zz ?_) | (refine Zg ?_; refine Zy ?_) | intro _))
   have hsr : (⟨r.t, r.id, r.val, r.note.take 9⟩ : Row) = shortR r := rfl
   rw [hsr]
   rw [← show YT (.slice (some ⟨pb, 0, none⟩) q c1) (((acc.set k (shortR r)).map Yx).flatten) sp1 101 = [(pb, .cells ⟨((acc.set k (shortR r)).map Yx).flatten ++ sp1⟩ 101 (0, 0))] from rfl]
   refine Zu (k + 1, acc.set k (shortR r)) (⟨hlt, hset⟩) Zn Zn rfl tk inferInstance (by first | omega | (dsimp only; omega))
  ·have hkq : k = q := by omega
   have hfin : acc = RS.map shortR := by rw [hacc, List.take_of_length_le (by omega), List.drop_eq_nil_of_le (by omega), List.append_nil]
   have hal : acc.length = q := by rw [hfin]; simp; omega
   have hown1' : OwnS (.slice a1 q c1) q ((acc.map Yx).flatten) sp1 4 := by
    have hL : ((acc.map Yx).flatten).length = ((RS.map Yx).flatten).length := by rw [YC Yx 4 _ (fun x _ => rfl), YC Yx 4 _ (fun x _ => rfl), hal, hRl]
    rcases hown1.out with ⟨h1, h2, h3, h4⟩ | ⟨b, cap, h1, h2, h3, h4⟩
    ·exact ⟨.inl ⟨h1, h2, List.eq_nil_of_length_eq_zero (by rw [hL, h3]; rfl), h4⟩⟩
    ·exact ⟨.inr ⟨b, cap, h1, by rw [hL]; exact h2, by rw [hL]; exact h3, h4⟩⟩
   refine tc_freeze (YT (.slice a1 q c1) ((acc.map Yx).flatten) sp1 101) (fun ρ1 hle1 hfz1 => ?_)
   obtain ⟨a3, c3, e3, hc3, hA3⟩ := hown1'.aIn hal (fun x _ => rfl) hfz1
   cases e3
   refine tc_freeze (YT (.slice a2 m c2) ((KS.map Xp).flatten) sp2 224) (fun ρ2 hle2 hfz2 => ?_)
   obtain ⟨a4, c4, e4, hc4, hA4⟩ := hown2.aIn hk5.len (fun x _ => rfl) hfz2
   cases e4
   repeat' (first | (refine iBu ?_; refine ZC (Ze rfl) rfl rfl ?_) | (refine Zj ?_; first | (refine Zi ?_; refine qQ ?_) | refine Zo ?_) | refine Zc ?_ | (refine Zh ?_; refine Zz ?_) | (refine Zg ?_; refine Zy ?_) | intro _)
   exact qE (L' := []) ⟨Hp.le_trans hle1 hle2, ⟨a1, q, c1, a2, m, c2⟩, rfl, ⟨by rw [← hfin]; exact hA3.mono hle2, hA4, by dsimp only; omega, by dsimp only; omega, hc3, hc4⟩, rfl⟩
theorem few24_spec (ρ : Hp) (v : RV) (r : Rc) (h : RcW ρ v r) : Spec Tryz.prog 64 [.agg ⟨Xo v r⟩] ρ []
  (fun z ρ' L' => ρ.le ρ' ∧ ∃ v' r', z = .agg ⟨Xo v' r'⟩ ∧ RcIn ρ' v' r' ∧ r'.plain = fewR24 r ∧ L' = []) := by
 obtain ⟨hi, him, hs, ht, hd, hsf⟩ := h
 have hsl := hs.at'.len
 have hsb := hs.big
 have htl := ht.at'.len
 have htb := ht.big
 have hdl := hd.at'.len
 have hdb := hd.big
 have cs := hs.cap
 have ct := ht.cap
 have cd := hd.cap
 obtain ⟨ms, hms⟩ : ∃ m, m = min v.s.n 3 := ⟨_, rfl⟩
 obtain ⟨mt, hmt⟩ : ∃ m, m = min v.t.n 9 := ⟨_, rfl⟩
 obtain ⟨md, hmd⟩ : ∃ m, m = min v.d.n 65 := ⟨_, rfl⟩
 have hsm : (min (v.s.n : Int) 3).toNat = ms := by omega
 have htm : (min (v.t.n : Int) 9).toNat = mt := by omega
 have hdm : (min (v.d.n : Int) 65).toNat = md := by omega
 have hS := hs.at'.take (hi' := ms) (by omega)
 have hT := ht.at'.take (hi' := mt) (by omega)
 have hD := hd.at'.take (hi' := md) (by omega)
 rw [take_some 3 _ _ _ hsl hms] at hS
 rw [take_some 9 _ _ _ htl hmt] at hT
 rw [take_some 65 _ _ _ hdl hmd] at hD
 have hSf : ∀ s ∈ r.steps.take 3, RowFit s.row := fun s hh => hsf s (List.mem_of_mem_take hh)
 have hil := hi.at'.len
 have hib := hi.big
 refine Zf Tryz.func64 rfl rfl rfl fun u R => ?_
 simp only [ZG, List.cons_append, List.nil_append]
 repeat' (first | (refine iBu ?_; refine ZC (Ze rfl) rfl rfl ?_) | (refine Zj ?_; first | (refine Zi ?_; refine qQ ?_) | refine Zo ?_) | refine Zc ?_ | (refine Zh ?_; refine Zz ?_) | (refine Zg ?_; refine Zy ?_) | intro _)
 rename_i b1 b2
 refine ZL [(1, _), (2, _), (7, _), (8, _)] (fun (ζ : (Nat) × (Hp) × (Value) × (List Value) × (List Im)) => [(9, .int .i64 ζ.1), (3, ζ.2.2.1)]) (fun (ζ : (Nat) × (Hp) × (Value) × (List Value) × (List Im)) => ζ.2.1) (fun (ζ : (Nat) × (Hp) × (Value) × (List Value) × (List Im)) => [YT ζ.2.2.1 ((ζ.2.2.2.2.map imV).flatten) ζ.2.2.2.1 128]) (fun (ζ : (Nat) × (Hp) × (Value) × (List Value) × (List Im)) => ζ.1 ≤ v.i.n ∧ ρ.le ζ.2.1 ∧ OwnS ζ.2.2.1 ζ.2.2.2.2.length ((ζ.2.2.2.2.map imV).flatten) ζ.2.2.2.1 7 ∧ ζ.2.2.2.2.map Im.plain = (r.ims.take (min ζ.1 17)).map fewIm ∧ (∀ x ∈ ζ.2.2.2.2, Im.In ζ.2.1 x)) (fun (ζ : (Nat) × (Hp) × (Value) × (List Value) × (List Im)) => v.i.n - ζ.1) ((0, ρ, .slice none 0 0, [], [])) (⟨Nat.zero_le _, Hp.le_refl _, OwnS.nil 7, by simp, by simp⟩) Zn Zn rfl tk ?_
 rintro ⟨k, ρ1, vv, sp, acc⟩ hI
 try simp only [List.cons_append, List.nil_append, List.append_assoc, List.append_eq] at hI ⊢
 try dsimp only at hI ⊢
 obtain ⟨hk, hle1, hown, hacc, hin⟩ := hI
 have hal : acc.length = min k 17 := by have := congrArg List.length hacc; simp at this; omega
 obtain ⟨va, vc, rfl, _⟩ := hown.slice
 by_cases hlt : k < v.i.n
 ·obtain ⟨b, off, C, T, fr, e1, hb, hfit, hc⟩ := (hi.at'.mono hle1).get (show k < r.ims.length by omega)
  have hts := List.take_succ_eq_append_getElem (show k < r.ims.length by omega)
  obtain ⟨hxb, hxa⟩ := him _ (List.getElem_mem (show k < r.ims.length by omega))
  generalize r.ims[k]'(by omega) = x at *
  rw [e1]
  by_cases h16 : k ≤ 16
  ·have hcb := content24_spec ρ1 x.bv x.b (hxb.mono hle1).few
   have hca := fun ρ2 (hle : ρ1.le ρ2) => content24_spec ρ2 x.av x.a (hxa.mono (Hp.le_trans hle1 hle)).few
   repeat' (first | (refine iBu ?_; refine ZC (Ze rfl) rfl rfl ?_) | (refine Zj ?_; first | (refine Zi ?_; refine qQ ?_) | refine Zo ?_) | refine Zc ?_ | (refine Zh ?_; refine Zz ?_) | (refine Zg ?_; refine Zy ?_) | intro _)
   refine ZJ (Zq _ _ ([[(_, .cells ⟨imV x⟩ 128 (0, 0))]])) (Yc (hT := tk) (Hp.le_refl _)) ?_
   all_goals (refine ZW 0 ?_; refine rFa 1 ?_; refine rLd 2 ?_; refine rFa 3 ?_; refine rLd 4 ?_; refine rFa 6 ?_; refine rLd 7 ?_)
   all_goals (refine Zt (i := 5) ?_; ((try refine Zr ?_); (first | (refine Zd (.func 62) ?_; refine qC rfl rfl (hcb) ?_; rintro v ρ' L' hle ⟨hl2, w2, rfl, hC2, rfl⟩ <;> (try simp only [kM, kN, kO])) | (refine Zd (.func 62) ?_; refine qC rfl rfl (hca _ hl2) ?_; rintro v ρ' L' hle ⟨hl3, w3, rfl, hC3, rfl⟩ <;> (try simp only [kM, kN, kO])) | (refine Zo ?_; try intro _)) <;> ((try simp only [kM, kN, kO]); refine Zc ?_; refine Zs ?_)))
   all_goals (refine Zt (i := 8) ?_; ((try refine Zr ?_); (first | (refine Zd (.func 62) ?_; refine qC rfl rfl (hcb) ?_; rintro v ρ' L' hle ⟨hl2, w2, rfl, hC2, rfl⟩ <;> (try simp only [kM, kN, kO])) | (refine Zd (.func 62) ?_; refine qC rfl rfl (hca _ hl2) ?_; rintro v ρ' L' hle ⟨hl3, w3, rfl, hC3, rfl⟩ <;> (try simp only [kM, kN, kO])) | (refine Zo ?_; try intro _)) <;> ((try simp only [kM, kN, kO]); refine Zc ?_; refine Zs ?_)))
   all_goals refine rBu 9 ?_ (y := fun _ _ => Ze rfl)
   all_goals (refine Zt (i := 10) ?_; ((try refine Zr ?_); (first | (refine Yp (css := [[.int .i64 x.page, .int .i64 x.b.kind, .slice w2.ra w2.rn w2.rc, .slice w2.ka w2.kn w2.kc, .int .i64 x.a.kind, .slice w3.ra w3.rn w3.rc, .slice w3.ka w3.kn w3.kc]]) (sz := 7) rfl rfl rfl rfl (by simp) (by simp) rfl (fun bs => ?_); simp only [List.flatten_cons, List.flatten_nil, List.append_nil]) | (refine Zo ?_; try intro _)) <;> ((try simp only [kM, kN, kO]); refine Zc ?_; refine Zs ?_)))
   all_goals (refine Zt (i := 11) ?_; ((try refine Zr ?_); (first | (refine Yp (css := [[.int .i64 x.page, .int .i64 x.b.kind, .slice w2.ra w2.rn w2.rc, .slice w2.ka w2.kn w2.kc, .int .i64 x.a.kind, .slice w3.ra w3.rn w3.rc, .slice w3.ka w3.kn w3.kc]]) (sz := 7) rfl rfl rfl rfl (by simp) (by simp) rfl (fun bs => ?_); simp only [List.flatten_cons, List.flatten_nil, List.append_nil]) | (refine Xq (ys := [.int .i64 x.page, .int .i64 x.b.kind, .slice w2.ra w2.rn w2.rc, .slice w2.ka w2.kn w2.kc, .int .i64 x.a.kind, .slice w3.ra w3.rn w3.rc, .slice w3.ka w3.kn w3.kc]) (m := 1) rfl rfl hown (hR := by infer_instance) (SrcV.lit) rfl rfl (by decide) rfl (by omega) (by omega) rfl (fun v' sp' hown' => ?_)) | (refine Zo ?_; try intro _)) <;> ((try simp only [kM, kN, kO]); refine Zc ?_; refine Zs ?_)))
   all_goals (refine ZY ?_; refine rAs 12 ?_; refine ZT ?_)
   all_goals (
    have hy : ∃ y : Im, (⟨x.page, w2, fewC x.b, w3, fewC x.a⟩ : Im) = y := ⟨_, rfl⟩
    obtain ⟨y, hy⟩ := hy
    have hyp : y.plain = fewIm x := by rw [← hy]; rfl
    have hyi : Im.In ρ' y := by rw [← hy]; exact ⟨(fewC_fit hxb hC2).mono hl3, fewC_fit hxa hC3⟩
    have hyl : [.int .i64 x.page, .int .i64 x.b.kind, .slice w2.ra w2.rn w2.rc, .slice w2.ka w2.kn w2.kc, .int .i64 x.a.kind, .slice w3.ra w3.rn w3.rc, .slice w3.ka w3.kn w3.kc] = imV y := by rw [← hy]; rfl
    rw [hyl] at hown' ⊢
    have hm : (acc.map imV).flatten ++ imV y = ((acc ++ [y]).map imV).flatten := by simp
    rw [hm] at hown' ⊢
    have hac2 : (acc ++ [y]).map Im.plain = (r.ims.take (min (k + 1) 17)).map fewIm := by
     rw [List.map_append, hacc, show min k 17 = k by omega, show min (k + 1) 17 = k + 1 by omega, hts]
     simp [hyp]
    have hin2 : ∀ z ∈ acc ++ [y], Im.In ρ' z := fun z hz => by
     rcases List.mem_append.1 hz with hz | hz
     ·exact (hin z hz).mono (Hp.le_trans hl2 hl3)
     ·rw [List.mem_singleton.1 hz]; exact hyi
    have hown2 : OwnS v' (acc ++ [y]).length (((acc ++ [y]).map imV).flatten) sp' 7 := by simpa using hown'
    obtain ⟨va', vc', rfl, _⟩ := hown2.slice
    skip)
   all_goals (repeat' (first | (refine iBu ?_; refine ZC (Ze rfl) rfl rfl ?_) | (refine Zj ?_; first | (refine Zi ?_; refine qQ ?_) | refine Zo ?_) | refine Zc ?_ | (refine Zh ?_; refine Zz ?_) | (refine Zg ?_; refine Zy ?_) | intro _))
   all_goals rw [← e1]
   all_goals refine Zu (k + 1, _, _, sp', acc ++ [y]) (⟨hlt, Hp.le_trans hle1 (Hp.le_trans hl2 hl3), hown2, hac2, hin2⟩) Zn Zn rfl tk inferInstance (by first | omega | (dsimp only; omega))
  ·have hacc' : acc.map Im.plain = (r.ims.take (min (k + 1) 17)).map fewIm := by rw [hacc, show min k 17 = 17 by omega, show min (k + 1) 17 = 17 by omega]
   repeat' (first | (refine iBu ?_; refine ZC (Ze rfl) rfl rfl ?_) | (refine Zj ?_; first | (refine Zi ?_; refine qQ ?_) | refine Zo ?_) | refine Zc ?_ | (refine Zh ?_; refine Zz ?_) | (refine Zg ?_; refine Zy ?_) | intro _)
   rw [← e1]
   refine Zu (k + 1, ρ1, _, sp, acc) (⟨hlt, hle1, hown, hacc', hin⟩) Zn Zn rfl tk inferInstance (by first | omega | (dsimp only; omega))
 ·have hk2 : k = v.i.n := by omega
  have hacc2 : acc.map Im.plain = (r.ims.take 17).map fewIm := by rw [hacc, take_some 17 r.ims v.i.n (min k 17) hil (by omega)]
  have hρ := hle1
  have hSl := hS.len
  have hTl := hT.len
  have hDl := hD.len
  unfold fewR24
  generalize hSS : r.steps.take 3 = SS at *
  generalize hTT : r.txns.take 9 = TT at *
  generalize hDD : r.dirty.take 65 = DD at *
  refine tc_freeze (YT (.slice va acc.length vc) ((acc.map imV).flatten) sp 128) (fun ρ2 hle2 hfz => ?_)
  obtain ⟨sa, sc, e1, hsc, hAI⟩ := hown.aIn rfl (fun x _ => imV_len x) hfz
  cases e1
  have hρ := Hp.le_trans hρ hle2
  clear hfz
  repeat' (first | (simp only [hsm]; refine Xq (n := 0) (xs := []) (sp := []) (ys := (SS.map stpV).flatten) (m := ms) (sz := 6) rfl rfl (OwnS.zero _ 6) (hR := ZQ) (AIn.srcV (hS.mono hρ)) (by rw [YC stpV 6 _ (fun x _ => rfl), hSl]) (flat_one stpV stpV_one _) (by decide) rfl (by omega) (by omega) rfl (fun v1 sp1 hown1 => ?_); simp only [Nat.zero_add, List.nil_append] at hown1 ⊢; refine tl_freeze _ (h := Rem.here) (fun ρ3 hle3 hfz => ?_); obtain ⟨a1, c1, rfl, hsc3, hAS⟩ := hown1.aIn hSl (fun x _ => stpV_len x) hfz; clear hfz) | (simp only [htm]; refine Xq (n := 0) (xs := []) (sp := []) (ys := (TT.map ckTV).flatten) (m := mt) (sz := 5) rfl rfl (OwnS.zero _ 5) (hR := ZQ) (AIn.srcV ((hT.mono hρ).mono hle3)) (by rw [YC ckTV 5 _ (fun x _ => rfl), hTl]) (flat_one ckTV ckTV_one _) (by decide) rfl (by omega) (by omega) rfl (fun v4 sp4 hown4 => ?_); simp only [Nat.zero_add, List.nil_append] at hown4 ⊢; refine tl_freeze _ (h := Rem.here) (fun ρ4 hle4 hfz => ?_); obtain ⟨a4, c4, rfl, hsc4, hAT⟩ := hown4.aIn hTl (fun x _ => ckTV_len x) hfz; clear hfz) | (simp only [hdm]; refine Xq (n := 0) (xs := []) (sp := []) (ys := (DD.map YG).flatten) (m := md) (sz := 2) rfl rfl (OwnS.zero _ 2) (hR := ZQ) (AIn.srcV (((hD.mono hρ).mono hle3).mono hle4)) (by rw [YC YG 2 _ (fun x _ => rfl), hDl]) (flat_one YG ckPV_one _) (by decide) rfl (by omega) (by omega) rfl (fun v5 sp5 hown5 => ?_); simp only [Nat.zero_add, List.nil_append] at hown5 ⊢; refine tl_freeze _ (h := Rem.here) (fun ρ5 hle5 hfz => ?_); obtain ⟨a5, c5, rfl, hsc5, hAD⟩ := hown5.aIn hDl (fun x _ => ckPV_len x) hfz; clear hfz) | (refine iBu ?_; refine ZC (Ze rfl) rfl rfl ?_) | (refine Zj ?_; first | (refine Zi ?_; refine qQ ?_) | refine Zo ?_) | refine Zc ?_ | (refine Zh ?_; refine Zz ?_) | (refine Zg ?_; refine Zy ?_) | intro _)
  have h25 := Hp.le_trans hle3 (Hp.le_trans hle4 hle5)
  exact qE (L' := []) ⟨Hp.le_trans hρ h25, ⟨⟨va, acc.length, vc⟩, ⟨a1, ms, c1⟩, ⟨a4, mt, c4⟩, ⟨a5, md, c5⟩⟩, { r with ims := acc, steps := SS, txns := TT, dirty := DD }, rfl, ⟨⟨hAI.mono h25, by dsimp only; omega, hsc⟩, fun x hx => (hin x hx).mono (Hp.le_trans hle2 h25), ⟨hAS.mono (Hp.le_trans hle4 hle5), by dsimp only; omega, hsc3⟩, ⟨hAT.mono hle5, by dsimp only; omega, hsc4⟩, ⟨hAD, by dsimp only; omega, hsc5⟩, hSf⟩, by rw [← hacc2], rfl⟩
theorem needs_plain (d : List CkP) (r : Rc) (page : Int) : YA d r.plain page = YA d r page := by
 unfold YA redoI
 rw [recOk_plain]
 congr 1
 show ((if Yo r = true then (r.ims.map Im.plain).find? (fun x => decide (x.page = page)) else none) : Option Im).isSome = _
 split
 ·rw [List.find?_map, Option.isSome_map]; rfl
 ·rfl
theorem redoL_plain (f : Int → Nat) (d : List CkP) (r : Rc) : Xs f d r.plain = (Xs f d r).map Im.plain := by
 unfold Xs Xu
 simp only [needs_plain]
 show (((r.ims.map Im.plain).filter _).filter _) = _
 rw [List.filter_map, List.filter_map]
 rfl
theorem redo_keys (f : Int → Nat) {d : List CkP} {r1 r2 : Rc} (h : r1.plain = r2.plain) : whyE d r1 = whyE d r2 ∧ ((Xs f d r1).map Xi).map (fun x => (x.page, x.c)) = ((Xs f d r2).map Xi).map (fun x => (x.page, x.c)) := by
 constructor
 ·unfold whyE; rw [← recOk_plain r1, ← recOk_plain r2, h]
 ·have e : ∀ r : Rc, ((Xs f d r).map Xi).map (fun x : ShD => (x.page, x.c)) = ((Xs f d r.plain).map Xi).map (fun x : ShD => (x.page, x.c)) := fun r => by
   rw [redoL_plain, List.map_map, List.map_map, List.map_map]; rfl
  rw [e r1, e r2, h]
def fA (l : List PgD) (n : Int) : Nat := (l.getD n.toNat ⟨nilCV, ztC, 0⟩).lsn
theorem redoL_in {ρ : Hp} {v : RV} {r : Rc} (h : RcIn ρ v r) {f : Int → Nat} {d : List CkP} : ∀ x ∈ (Xs f d r).map Xi, CIn ρ x.w x.c.rows x.c.kids := fun x hx => by
 obtain ⟨y, hy, rfl⟩ := List.mem_map.1 hx
 exact (h.im y (List.mem_filter.1 (List.mem_filter.1 hy).1).1).a.cin
theorem sheetsLaw_spec (ρ : Hp) (a : Option Addr) (n c : Nat) (pl : List PgD) (hA : AIn ρ 4 pgV a n pl) (hP : ∀ x ∈ pl, CW ρ x.w x.c) (hn : n ≤ 9223372036854775807)
  (a1 : Option Addr) (n1 c1 : Nat) (dl : List CkP) (h1 : AIn ρ 2 YG a1 n1 dl) (hc1 : n1 ≤ c1) (hn1 : n1 ≤ 9223372036854775807)
  (a2 : Option Addr) (n2 c2 : Nat) (rs : List (RV × Rc)) (h2 : AIn ρ 10 rcV a2 n2 rs) (hw : ∀ x ∈ rs, RcW ρ x.1 x.2) (hn2 : n2 ≤ 9223372036854775807) :
  Spec Tryz.prog 12 [.slice a n c, .slice a1 n1 c1, .slice a2 n2 c2] ρ [] (fun z ρ' L' => z = .bool true ∧ ρ.le ρ' ∧ L' = []) := by
 have hl := hA.len
 have hl1 := h1.len
 have hl2 := h2.len
 obtain ⟨md, hmd⟩ : ∃ m, m = min n1 65 := ⟨_, rfl⟩
 have hdm : (min (n1 : Int) 65).toNat = md := by omega
 have hD := h1.take (hi' := md) (by omega)
 rw [take_some 65 _ _ _ hl1 hmd] at hD
 have hDl := hD.len
 generalize dl.take 65 = DD at *
 refine Zf Tryz.func12 rfl rfl rfl fun u R => ?_
 simp only [ZG, List.cons_append, List.nil_append]
 repeat' (first | (refine Zd (.func 61) ?_; refine qC rfl rfl (wakes24_spec _) ?_; rintro v ρ' L' hle ⟨rfl, hz1, rfl⟩ <;> (try simp only [kM, kN, kO])) | (refine iBu ?_; refine ZC (Ze rfl) rfl rfl ?_) | (refine Zj ?_; first | (refine Zi ?_; refine qQ ?_) | refine Zo ?_) | refine Zc ?_ | (refine Zh ?_; refine Zz ?_) | (refine Zg ?_; refine Zy ?_) | intro _)
 refine ZL [(1, _), (2, _), (6, _), (18, _), (19, _)] (fun (ζ : (Nat) × (Hp) × (Value) × (List Value) × (List PgD)) => [(20, .int .i64 ζ.1), (7, ζ.2.2.1)]) (fun (ζ : (Nat) × (Hp) × (Value) × (List Value) × (List PgD)) => ζ.2.1) (fun (ζ : (Nat) × (Hp) × (Value) × (List Value) × (List PgD)) => [YT ζ.2.2.1 ((ζ.2.2.2.2.map pgV).flatten) ζ.2.2.2.1 112]) (fun (ζ : (Nat) × (Hp) × (Value) × (List Value) × (List PgD)) => ζ.1 ≤ n ∧ ρ.le ζ.2.1 ∧ ζ.2.2.2.2.length = min ζ.1 65 ∧ OwnS ζ.2.2.1 ζ.2.2.2.2.length ((ζ.2.2.2.2.map pgV).flatten) ζ.2.2.2.1 4) (fun (ζ : (Nat) × (Hp) × (Value) × (List Value) × (List PgD)) => n - ζ.1) ((0, ρ', .slice none 0 0, [], [])) (⟨Nat.zero_le _, hz1, rfl, OwnS.nil 4⟩) Zn Zn rfl tk ?_
 rintro ⟨k, ρ1, vv, sp, acc⟩ hI
 try simp only [List.cons_append, List.nil_append, List.append_assoc, List.append_eq] at hI ⊢
 try dsimp only at hI ⊢
 obtain ⟨hk, hle1, hal, hown⟩ := hI
 obtain ⟨va, vc, rfl, _⟩ := hown.slice
 by_cases hlt : k < n
 ·obtain ⟨b, off, C, T, fr, e1, hb, hfit, hc⟩ := (hA.mono hle1).get (show k < pl.length by omega)
  have hx := (hP _ (List.getElem_mem (show k < pl.length by omega))).mono hle1
  generalize pl[k]'(by omega) = x at *
  have hct := content24_spec ρ1 x.w x.c hx.few
  rw [e1]
  by_cases h65 : k ≤ 64
  ·repeat' (first | (refine iBu ?_; refine ZC (Ze rfl) rfl rfl ?_) | (refine Zj ?_; first | (refine Zi ?_; refine qQ ?_) | refine Zo ?_) | refine Zc ?_ | (refine Zh ?_; refine Zz ?_) | (refine Zg ?_; refine Zy ?_) | intro _)
   refine ZJ (Zq _ _ ([[(_, .cells ⟨pgV x⟩ 112 (0, 0))]])) (Yc (hT := tk) (Hp.le_refl _)) ?_
   all_goals (refine ZW 0 ?_; refine rFa 1 ?_; refine rLd 2 ?_; refine rFa 4 ?_; refine rLd 5 ?_)
   all_goals (refine Zt (i := 3) ?_; ((try refine Zr ?_); (first | (refine Zd (.func 62) ?_; refine qC rfl rfl (hct) ?_; rintro v ρ' L' hle ⟨hz2, w2, rfl, hC2, rfl⟩ <;> (try simp only [kM, kN, kO])) | (refine Zo ?_; try intro _)) <;> ((try simp only [kM, kN, kO]); refine Zc ?_; refine Zs ?_)))
   all_goals refine rBu 6 ?_ (y := fun _ _ => Ze rfl)
   all_goals (refine Zt (i := 7) ?_; ((try refine Zr ?_); (first | (refine Yp (css := [pgV ⟨w2, x.c, x.lsn⟩]) (sz := 4) rfl rfl rfl rfl (by simp) (by simp) rfl (fun bs => ?_); simp only [List.flatten_cons, List.flatten_nil, List.append_nil]) | (refine Zo ?_; try intro _)) <;> ((try simp only [kM, kN, kO]); refine Zc ?_; refine Zs ?_)))
   all_goals (refine Zt (i := 8) ?_; ((try refine Zr ?_); (first | (refine Yp (css := [pgV ⟨w2, x.c, x.lsn⟩]) (sz := 4) rfl rfl rfl rfl (by simp) (by simp) rfl (fun bs => ?_); simp only [List.flatten_cons, List.flatten_nil, List.append_nil]) | (refine Xq (ys := pgV ⟨w2, x.c, x.lsn⟩) (m := 1) rfl rfl hown (hR := by repeat (first | exact ZQ | apply ZS)) SrcV.lit rfl rfl (by decide) rfl (by omega) (by omega) rfl (fun v3 sp3 hown3 => ?_)) | (refine Zo ?_; try intro _)) <;> ((try simp only [kM, kN, kO]); refine Zc ?_; refine Zs ?_)))
   all_goals (refine ZY ?_; refine rAs 9 ?_; refine ZT ?_)
   all_goals
    have hm : (acc.map pgV).flatten ++ pgV ⟨w2, x.c, x.lsn⟩ = ((acc ++ [(⟨w2, x.c, x.lsn⟩ : PgD)]).map pgV).flatten := by simp
    rw [hm] at hown3 ⊢
    repeat' (first | (refine iBu ?_; refine ZC (Ze rfl) rfl rfl ?_) | (refine Zj ?_; first | (refine Zi ?_; refine qQ ?_) | refine Zo ?_) | refine Zc ?_ | (refine Zh ?_; refine Zz ?_) | (refine Zg ?_; refine Zy ?_) | intro _)
   all_goals rw [← e1]
   all_goals refine Zu (k + 1, ρ', v3, sp3, acc ++ [⟨w2, x.c, x.lsn⟩]) (⟨hlt, Hp.le_trans hle1 hz2, by dsimp only; rw [List.length_append, hal]; simp; omega, by rw [List.length_append]; exact hown3⟩) Zn Zn rfl tk inferInstance (by first | omega | (dsimp only; omega))
  ·repeat' (first | (refine iBu ?_; refine ZC (Ze rfl) rfl rfl ?_) | (refine Zj ?_; first | (refine Zi ?_; refine qQ ?_) | refine Zo ?_) | refine Zc ?_ | (refine Zh ?_; refine Zz ?_) | (refine Zg ?_; refine Zy ?_) | intro _)
   rw [← e1]
   refine Zu (k + 1, ρ1, .slice va acc.length vc, sp, acc) (⟨hlt, hle1, by dsimp only; omega, hown⟩) Zn Zn rfl tk inferInstance (by first | omega | (dsimp only; omega))
 ·refine tc_freeze (YT (.slice va acc.length vc) ((acc.map pgV).flatten) sp 112) (fun ρ2 hle2 hfz => ?_)
  obtain ⟨sa, sc, f1, hsc, hA2⟩ := hown.aIn rfl (fun x _ => pgV_len x) hfz
  cases f1
  clear hfz
  have hρ := Hp.le_trans hle1 hle2
  repeat' (first | (simp only [hdm]; refine Xq (n := 0) (xs := []) (sp := []) (ys := (DD.map YG).flatten) (m := md) (sz := 2) rfl rfl (OwnS.zero _ 2) (hR := ZQ) (AIn.srcV (hD.mono hρ)) (by rw [YC YG 2 _ (fun x _ => rfl), hDl]) (flat_one YG ckPV_one _) (by decide) rfl (by omega) (by omega) rfl (fun v5 sp5 hown5 => ?_); simp only [Nat.zero_add, List.nil_append] at hown5 ⊢; refine tl_freeze _ (h := Rem.here) (fun ρ5 hle5 hfz => ?_); obtain ⟨a5, c5, rfl, hsc5, hAD⟩ := hown5.aIn hDl (fun x _ => ckPV_len x) hfz; clear hfz) | (refine iBu ?_; refine ZC (Ze rfl) rfl rfl ?_) | (refine Zj ?_; first | (refine Zi ?_; refine qQ ?_) | refine Zo ?_) | refine Zc ?_ | (refine Zh ?_; refine Zz ?_) | (refine Zg ?_; refine Zy ?_) | intro _)
  have hρ5 := Hp.le_trans hρ hle5
  have hA5 := hA2.mono hle5
  have hAS : AS ρ5 2 YG ⟨a5, md, c5⟩ DD := ⟨hAD, by dsimp only; omega, hsc5⟩
  refine ZL [(1, _), (7, _), (44, _), (45, _)] (fun (ζ : (Nat) × (Hp)) => [(46, .int .i64 ζ.1), (6, .bool false)]) (fun (ζ : (Nat) × (Hp)) => ζ.2) (fun (ζ : (Nat) × (Hp)) => []) (fun (ζ : (Nat) × (Hp)) => ζ.1 ≤ n2 ∧ ρ5.le ζ.2) (fun (ζ : (Nat) × (Hp)) => n2 - ζ.1) ((0, ρ5)) (⟨Nat.zero_le _, Hp.le_refl _⟩) Zn Zn rfl tk ?_
  rintro ⟨j, ρ6⟩ hI
  try simp only [List.cons_append, List.nil_append, List.append_assoc, List.append_eq] at hI ⊢
  try dsimp only at hI ⊢
  obtain ⟨hj, hle6⟩ := hI
  by_cases hlt2 : j < n2
  ·have hρ6 := Hp.le_trans hρ5 hle6
   obtain ⟨b, off, C, T, fr, e1, hb, hfit, hc⟩ := (h2.mono hρ6).get (show j < rs.length by omega)
   have hwx := (hw _ (List.getElem_mem (show j < rs.length by omega))).mono hρ6
   generalize rs[j]'(by omega) = x at *
   obtain ⟨v, r⟩ := x
   dsimp only at hwx hc
   rw [e1]
   by_cases h10 : j = 10
   ·repeat' (first | (refine iBu ?_; refine ZC (Ze rfl) rfl rfl ?_) | (refine Zj ?_; first | (refine Zi ?_; refine qQ ?_) | refine Zo ?_) | refine Zc ?_ | (refine Zh ?_; refine Zz ?_) | (refine Zg ?_; refine Zy ?_) | intro _)
    exact qE (L' := []) (hle := hρ6) ⟨rfl, hρ6, rfl⟩
   have hfew := fun ρ7 (hh : ρ6.le ρ7) => few24_spec ρ7 v r (hwx.mono hh)
   have hsh := fun ρ7 (hh : ρ6.le ρ7) v7 r7 (h7 : RcIn ρ7 v7 r7) => rsheets_spec ρ7 va acc.length vc ⟨a5, md, c5⟩ DD (hAS.mono (Hp.le_trans hle6 hh)) v7 r7 h7 [] (fA acc) (fun hwy h64 lb ρ8 h8 y hy => by
    have hrk : Yo r7 = true := by
     unfold whyE at hwy
     cases hr : Yo r7
     ·rw [hr] at hwy; revert hwy; cases YF DD <;> simp
     ·rfl
    have hpg := ((recOk_facts hrk).im y hy).1
    refine lsn1_spec ρ8 lb va acc.length vc acc (hA5.mono (Hp.le_trans hle6 (Hp.le_trans hh h8))) y.page _ hpg.1 (by omega) (fun hb => ?_)
    unfold fA
    rw [List.getD_eq_getElem?_getD, List.getElem?_eq_getElem hb]; rfl)
   have hrf := fun ρ7 (hh : ρ6.le ρ7) v7 r7 (h7 : RcIn ρ7 v7 r7) => ref24_spec ρ7 va acc.length vc acc (hA5.mono (Hp.le_trans hle6 hh)) ⟨a5, md, c5⟩ DD (hAS.mono (Hp.le_trans hle6 hh)) v7 r7 h7 (fA acc) (fun k hk => by
    unfold fA
    rw [List.getD_eq_getElem?_getD, Int.toNat_natCast, List.getElem?_eq_getElem hk]; rfl)
   repeat' (first | (refine Zd (.func 64) ?_; refine qC rfl rfl (hfew _ (Hp.le_refl _)) ?_; rintro v ρ' L' hle ⟨hz3, v3, r3, rfl, hR3, hp3, rfl⟩ <;> (try simp only [kM, kN, kO])) | (refine Zd (.func 63) ?_; refine qC rfl rfl (hsh _ hz3 v3 r3 hR3) ?_; rintro v ρ' L' hle ⟨hz4, s4, rfl, hs4, rfl⟩ <;> (try simp only [kM, kN, kO])) | (refine Zd (.func 64) ?_; refine qC rfl rfl (hfew _ (Hp.le_trans hz3 hz4)) ?_; rintro v ρ' L' hle ⟨hz5, v5, r5, rfl, hR5, hp5, rfl⟩ <;> (try simp only [kM, kN, kO])) | (refine Zd (.func 65) ?_; refine qC rfl rfl (hrf _ (Hp.le_trans hz3 (Hp.le_trans hz4 hz5)) v5 r5 hR5) ?_; rintro v ρ' L' hle ⟨hz6, s6, rfl, hs6, rfl⟩ <;> (try simp only [kM, kN, kO])) | (refine iBu ?_; refine ZC (Ze rfl) rfl rfl ?_) | (refine Zj ?_; first | (refine Zi ?_; refine qQ ?_) | refine Zo ?_) | refine Zc ?_ | (refine Zh ?_; refine Zz ?_) | (refine Zg ?_; refine Zy ?_) | intro _)
   obtain ⟨hw35, hk35⟩ := redo_keys (fA acc) (d := DD) (hp3.trans hp5.symm)
   have hse : shE DD r3 acc.length = shE DD r5 acc.length := by unfold shE; rw [hw35]
   rw [hse] at hs4 ⊢
   have hbb : (shE DD r5 acc.length != shE DD r5 acc.length) = false := by simp
   rw [hbb]
   have hsame : Spec Tryz.prog 66 [.slice s4.a s4.n s4.c, .slice s6.a s6.n s6.c] ρ' [] (fun z ρq L' => z = .bool true ∧ ρq = ρ' ∧ L' = []) := by
    by_cases he : shE DD r5 acc.length = 0
    ·rw [if_pos he] at hs4 hs6
     have hwy : whyE DD r5 = 0 := by
      unfold shE at he
      by_cases h0 : whyE DD r5 = 0
      ·exact h0
      ·rw [if_pos h0] at he; exact absurd he h0
     rw [← redo_ref hwy] at hs6
     exact sameSh_spec ρ' s4 s6 _ _ (hs4.mono (Hp.le_trans hz5 hz6)) hs6 (fun x hx => (redoL_in hR3 x hx).mono (Hp.le_trans hz4 (Hp.le_trans hz5 hz6))) (fun x hx => (redoL_in hR5 x hx).mono hz6) hk35
    ·rw [if_neg he] at hs4 hs6
     exact sameSh_spec ρ' s4 s6 [] [] (hs4.mono (Hp.le_trans hz5 hz6)) hs6 (fun x hx => by cases hx) (fun x hx => by cases hx) rfl
   repeat' (first | (refine Zd (.func 66) ?_; refine qC rfl rfl (hsame) ?_; rintro v ρ' L' hle ⟨rfl, rfl, rfl⟩ <;> (try simp only [kM, kN, kO])) | (refine iBu ?_; refine ZC (Ze rfl) rfl rfl ?_) | (refine Zj ?_; first | (refine Zi ?_; refine qQ ?_) | refine Zo ?_) | refine Zc ?_ | (refine Zh ?_; refine Zz ?_) | (refine Zg ?_; refine Zy ?_) | intro _)
   rw [← e1]
   refine Zu (j + 1, ρ') (⟨hlt2, Hp.le_trans hle6 (Hp.le_trans hz3 (Hp.le_trans hz4 (Hp.le_trans hz5 hz6)))⟩) Zn Zn rfl tk inferInstance (by first | omega | (dsimp only; omega))
  ·repeat' (first | (refine iBu ?_; refine ZC (Ze rfl) rfl rfl ?_) | (refine Zj ?_; first | (refine Zi ?_; refine qQ ?_) | refine Zo ?_) | refine Zc ?_ | (refine Zh ?_; refine Zz ?_) | (refine Zg ?_; refine Zy ?_) | intro _)
   exact qE (L' := []) (hle := Hp.le_trans hρ5 hle6) ⟨rfl, Hp.le_trans hρ5 hle6, rfl⟩
end Go.Proofs.E
