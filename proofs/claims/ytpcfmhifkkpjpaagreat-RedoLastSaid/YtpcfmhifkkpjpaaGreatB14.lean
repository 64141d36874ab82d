/- Laws of RedoLast. Part 14 of 19. -/
import Derived.Test.YtpcfmhifkkpjpaaGreatB13
namespace Go.Proofs.E
open Go
set_option linter.unusedVariables false
set_option linter.unusedSimpArgs false
set_option linter.unusedSectionVars false
set_option maxRecDepth 4000
set_option maxHeartbeats 1000000
attribute [local irreducible] Yl TL TC TE Spec ZK R1 Hp.le EnvLe TS TR YS Zp TP QP
abbrev YU (l : List CkP) : List Value := (l.map YN).flatten
theorem flatP_one (l : List CkP) : (YU l).all (·.oneCell') = true := by
 induction l with
 | nil => rfl
 | cons a r ih => simp only [YU, List.map_cons, List.flatten_cons, List.all_append, Bool.and_eq_true]; exact ⟨rfl, ih⟩
theorem flatP_len (l : List CkP) : (YU l).length = l.length * 2 := flatN_len ckPV_len l
theorem OwnS.zero' (b sz : Nat) : OwnS (.slice (some ⟨b, 0, none⟩) 0 0) 0 [] [] sz := ⟨.inr ⟨b, 0, rfl, by simp, by simp, Nat.le_refl _⟩⟩
theorem clonep_spec (ρ : Hp) (s : SV) (l : List CkP) (h : AS ρ 2 YN s l) : Spec Tryz.prog 208 [.slice s.a s.n s.c] ρ []
  (fun v ρ' L' => ρ' = ρ ∧ ∃ sp, OwnS v l.length (YU l) sp 2 ∧ L' = [ZG v (YU l) sp 108]) := by
 have hl := h.at'.len
 have hn := h.big
 have hA := h.at'
 obtain ⟨a, n, c⟩ := s
 dsimp only at hl hn hA ⊢
 cases a with
 | none =>
  have hl0 : l = [] := by
   by_cases h0 : 0 < l.length
   ·obtain ⟨b, off, C, T, fr, h, _⟩ := hA.get h0
    cases h
   ·exact List.eq_nil_of_length_eq_zero (by omega)
  subst hl0
  refine Za Tryz.func208 rfl rfl rfl fun u R => ?_
  simp only [Zg, kA]
  repeat' (first | refine zV ?_ | intro _)
  exact qE (L' := [[]]) ⟨rfl, [], OwnS.nil 2, rfl⟩
 | some ad =>
  refine Za Tryz.func208 rfl rfl rfl fun u R => ?_
  simp only [Zg, kA]
  repeat' (first | refine zV ?_ | intro _)
  rename_i bx
  refine Yv (n := 0) (xs := []) (sp := []) (ys := YU l) (sz := 2) rfl rfl (OwnS.zero' _ 2) (hR := Zz) hA.srcV (by rw [flatP_len]; omega) (flatP_one l) (by decide) rfl (by omega) (by omega) rfl (fun v' sp' hown' => ?_)
  simp only [Nat.zero_add, List.nil_append] at hown' ⊢
  repeat' (first | refine zV ?_ | intro _)
  rw [← hl] at hown'
  exact qE ⟨rfl, sp', hown', rfl⟩
theorem insert_spec (ρ : Hp) (v : Value) (sp : List Value) (l : List CkP) (hl : l.length ≤ 1000000) (hown : OwnS v l.length (YU l) sp 2) (i : Nat) (hi : i ≤ l.length) (bv : Nat) (p : CkP) :
  Spec Tryz.prog 141 [v, .int .i64 (i : Nat), .slice (some ⟨bv, 0, none⟩) 1 1] ρ [ZG v (YU l) sp 108, [(bv, .cells ⟨YN p⟩ 108 (0, 0))]]
  (fun z ρ' L' => ρ' = ρ ∧ ∃ sp', OwnS z (l.length + 1) (YU (l.take i ++ p :: l.drop i)) sp' 2 ∧ L' = [ZG z (YU (l.take i ++ p :: l.drop i)) sp' 108]) := by
 obtain ⟨va, vc, rfl, hvc⟩ := hown.slice
 by_cases hin : i = l.length
 ·have hm : YU l ++ YN p = YU (l.take i ++ p :: l.drop i) := by rw [hin]; simp [YU]
  refine Za Tryz.func141 rfl rfl rfl fun u R => ?_
  simp only [Zg, kA]
  repeat' (first | refine zV ?_ | intro _)
  refine Yv (ys := YN p) (m := 1) rfl rfl hown (hR := by infer_instance) SrcV.lit rfl rfl (by decide) rfl (by omega) (by omega) rfl (fun v' sp' hown' => ?_)
  rw [hm] at hown' ⊢
  repeat' (first | refine zV ?_ | intro _)
  exact qE ⟨rfl, sp', hown', rfl⟩
 ·have hfl := flatP_len l
  have hA := flatN_take ckPV_len l i
  have hD := flatN_drop ckPV_len l i
  have hAl := flatP_len (l.take i)
  have hDl := flatP_len (l.drop i)
  rw [List.length_take, Nat.min_eq_left hi] at hAl
  rw [List.length_drop] at hDl
  have hsplit : YU l = YU (l.take i) ++ YU (l.drop i) := by
   show (l.map YN).flatten = ((l.take i).map YN).flatten ++ ((l.drop i).map YN).flatten
   rw [← hA, ← hD, List.take_append_drop]
  have hfin : YU (l.take i ++ p :: l.drop i) = (YU (l.take i) ++ YN p) ++ YU (l.drop i) := by simp [YU]
  have hDone := flatP_one (l.drop i)
  rcases hown.out with ⟨e, _, e2, _⟩ | ⟨b, c, e, e1, e2, e3⟩
  ·have := (Value.slice.inj e).2.1
   omega
  ·cases e
   rw [hfin]
   generalize hAA : YU (l.take i) = A at *
   generalize hDD : YU (l.drop i) = D at *
   have hC : ∀ xs sp, ZG (.slice (some ⟨b, 0, none⟩) l.length vc) xs sp 108 = [(b, .cells ⟨xs ++ sp⟩ 108 (0, 0))] := fun _ _ => rfl
   rw [hC, hsplit]
   refine Za Tryz.func141 rfl rfl rfl fun u R => ?_
   simp only [Zg, kA]
   have t1 : ((i : Int) + 1).toNat = i + 1 := by omega
   have hAl2 : A.length = i * 2 := by omega
   have hn1 : ((l.length : Int) + 1 - i) = ((l.length + 1 - i : Nat) : Int) := by omega
   have hni : i + (l.length + 1 - i) = l.length + 1 := by omega
   have hp2 : (YN p).length = 2 := rfl
   have t2 : ((i : Int) + ((1 : Nat) : Int)).toNat = i + 1 := by omega
   have tn2 : ((l.length : Int) + ((1 : Nat) : Int)).toNat = l.length + 1 := by omega
   by_cases hroom : l.length + 1 ≤ vc
   ·have hne : ¬ vc = i + 1 := by omega
    have hne2 : ¬ vc = i := by omega
    have tn1 : ((l.length : Int) + 1).toNat = l.length + 1 := by omega
    obtain ⟨X, Y, hXY, hXl⟩ : ∃ X Y : List Value, A ++ D ++ sp = X ++ Y ∧ X.length = (i + 1) * 2 := ⟨(A ++ D ++ sp).take ((i + 1) * 2), (A ++ D ++ sp).drop ((i + 1) * 2), (List.take_append_drop _ _).symm, by simp; omega⟩
    have hYl : D.length ≤ Y.length := by have := congrArg List.length hXY; simp only [List.length_append] at this; omega
    obtain ⟨X2, hX2, hX2l⟩ : ∃ X2 : List Value, X = A ++ X2 ∧ X2.length = 2 := by
     have h1 : X = (A ++ D ++ sp).take ((i + 1) * 2) := by rw [hXY, List.take_left' hXl]
     refine ⟨(D ++ sp).take 2, ?_, by simp; omega⟩
     rw [h1, List.append_assoc, List.take_append, List.take_of_length_le (by omega), hAl2, show (i + 1) * 2 - i * 2 = 2 by omega]
    have hsrc : ((X ++ Y).drop (i * 2)).take D.length = D := by rw [← hXY, List.append_assoc, List.drop_left' (by omega), List.take_left' rfl]
    have hst1 : stc (X ++ Y) ((i + 1) * 2) D = A ++ (X2 ++ (D ++ Y.drop D.length)) := by
     rw [← hXl, stc_end X Y D hYl, hX2]; simp only [List.append_assoc]
    have hst2 : stc (A ++ (X2 ++ (D ++ Y.drop D.length))) (i * 2) (YN p) = ((A ++ YN p) ++ D) ++ Y.drop D.length := by
     rw [← hAl2, stcN_mid (by rw [hX2l]; rfl)]; simp only [List.append_assoc]
    rw [hXY]
    repeat' (first | refine zV ?_ | intro _)
    simp only [tn1, t1, t2, tn2, if_neg hne, Option.map_some, Yt, Nat.zero_add]
    refine tl_overlaps (sz := 2) (hF := inferInstance) (hF2 := inferInstance) rfl rfl (by have := congrArg List.length hXY; simp only [List.length_append] at this ⊢; show 2 ≠ _; omega) (by intro e; have := congrArg List.length e; simp only [List.length_append, List.length_nil] at this; omega) (fn := Tryz.f219) rfl rfl rfl rfl rfl rfl ?_
    repeat' (first | refine zV ?_ | intro _)
    refine tpA [0,1,2,3,4,5,6,7] (.e 8 [] .o) ([]) ?_
    repeat' (refine iT ?_; first | refine rA ?_ | ((refine iE ?_; refine rE ?_) <;> ((try refine Zn ?_); (first | (simp only [Int.toNat_natCast, t1, t2, tn2, if_neg hne, if_neg hne2, Option.map_some, Yt, Nat.zero_add]; refine tl_copyN (ys := D) rfl rfl (Src.find (n := D.length) hsrc) (by omega) hDone (by simp only [List.length_append]; omega) rfl ?_) | (refine Yj ?_; try intro _)) <;> ((try simp only [kA]); refine Zi ?_; refine rN ?_))))
    rw [hst1]
    repeat' (first | refine zV ?_ | intro _)
    simp only [Int.toNat_natCast, if_neg hne2, Option.map_some, Yt, Nat.zero_add]
    refine tl_copyN (ys := YN p) rfl rfl (Src.find (n := 2) rfl) (by rw [hp2]; omega) rfl (by simp only [List.length_append, hp2, hX2l]; omega) rfl ?_
    rw [hst2]
    repeat' (first | refine zV ?_ | intro _)
    refine qE ⟨rfl, _, ⟨.inr ⟨b, vc, rfl, ?_, ?_, hroom⟩⟩, rfl⟩
    ·simp only [List.length_append, hp2]; omega
    ·have := congrArg List.length hXY
     simp only [List.length_append, List.length_drop, hp2] at this ⊢
     omega
   ·have hne2 : ¬ vc = i := by omega
    repeat' (first | refine zV ?_ | intro _)
    simp only [Int.toNat_natCast]
    rw [show ((l.length : Int) + ((1 : Nat) : Int) - i) = ((l.length + 1 - i : Nat) : Int) by omega]
    refine tl_appZ (i := i) (n := l.length + 1 - i) (cap := vc) (b := b) (olds := A) (z := .agg ⟨[.int .i64 0, .int .u64 0]⟩) rfl rfl (Src.find (n := A.length) (by simp)) hAl2 (by omega) (by decide) rfl (by omega) (by omega) (by omega) rfl (fun b' c' ws hc' hws => ?_)
    rw [hni]
    have hwl : 2 + D.length ≤ ws.length := by omega
    have hst1 : stc (A ++ ws) (i * 2) (YN p) = (A ++ YN p) ++ ws.drop 2 := by rw [← hAl2, stc_end A ws (YN p) (by rw [hp2]; omega)]; rfl
    have hst2 : stc ((A ++ YN p) ++ ws.drop 2) ((i + 1) * 2) D = ((A ++ YN p) ++ D) ++ (ws.drop 2).drop D.length := by
     have : (A ++ YN p).length = (i + 1) * 2 := by rw [List.length_append, hp2]; omega
     rw [← this, stc_end (A ++ YN p) (ws.drop 2) D (by rw [List.length_drop]; omega)]
    have hnc : ¬ c' = i := by omega
    have hnc2 : ¬ c' = i + 1 := by omega
    repeat' (first | refine zV ?_ | intro _)
    simp only [Int.toNat_natCast, if_neg hnc, Option.map_some, Yt, Nat.zero_add]
    refine tl_copyN (ys := YN p) rfl rfl (Src.find (n := 2) rfl) (by rw [hp2]; omega) rfl (by simp; omega) rfl ?_
    rw [hst1]
    repeat' (first | refine zV ?_ | intro _)
    refine tpA [0,1,2,3,4,5,6,7] (.e 8 [] .o) ([]) ?_
    repeat' (refine iT ?_; first | refine rA ?_ | ((refine iE ?_; refine rE ?_) <;> ((try refine Zn ?_); (first | (simp only [Int.toNat_natCast, t1, t2, if_neg hnc2, if_neg hne2, Option.map_some, Yt, Nat.zero_add]; refine tl_copyN (ys := D) rfl rfl (Src.find (n := D.length) (by rw [List.append_assoc, List.drop_left' (by omega), List.take_left' rfl])) (by omega) hDone (by simp; omega) rfl ?_) | (refine Yj ?_; try intro _)) <;> ((try simp only [kA]); refine Zi ?_; refine rN ?_))))
    rw [hst2]
    repeat' (first | refine zV ?_ | intro _)
    refine qE ⟨rfl, _, ⟨.inr ⟨b', c', rfl, ?_, ?_, by omega⟩⟩, rfl⟩
    ·simp only [List.length_append, hp2]; omega
    ·simp only [List.length_append, List.length_drop, hp2]; omega
theorem at_own (ρ : Hp) (v : Value) (sp : List Value) (l : List CkP) (hl : l.length ≤ 1000000) (hown : OwnS v l.length (YU l) sp 2) (page : Int) :
  Spec Tryz.prog 140 [v, .int .i64 page] ρ [ZG v (YU l) sp 108] (fun z ρ' L' => ρ' = ρ ∧ ∃ i there, z = .tuple ⟨[.int .i64 (i : Nat), .bool there]⟩ ∧ AtR l page i there ∧ L' = [ZG v (YU l) sp 108]) := by
 refine (Spec.thaw (C := [ZG v (YU l) sp 108]) (L := []) (Post := fun z L' => ∃ i there, z = .tuple ⟨[.int .i64 (i : Nat), .bool there]⟩ ∧ AtR l page i there ∧ L' = []) (fun ρ1 hle hf => ?_)).mono ?_
 ·obtain ⟨a, c, rfl, hc, hA⟩ := hown.aIn rfl (fun x _ => ckPV_len x) (by simpa using hf)
  exact at_spec ρ1 ⟨a, l.length, c⟩ l ⟨hA, hl, hc⟩ page
 ·rintro z ρ' L' _ ⟨rfl, L2, ⟨i, there, rfl, h1, rfl⟩, rfl⟩
  exact ⟨rfl, i, there, rfl, h1, rfl⟩
def addP (page : Int) (lsn : Nat) : List CkP → List CkP
 | [] => [⟨page, lsn⟩]
 | p :: r => if p.page < page then p :: addP page lsn r else if p.page = page then p :: r else ⟨page, lsn⟩ :: p :: r
def touchI (lsn : Nat) : List Im → List CkP → List CkP
 | [], l => l
 | x :: r, l => touchI lsn r (addP x.page lsn l)
def touchP (r : Rc) (l : List CkP) : List CkP := touchI r.lsn r.ims l
def recP (page : Int) (l : List CkP) : Option CkP := l.find? (fun p => decide (p.page = page))
theorem addP_in {page : Int} {lsn : Nat} : ∀ {l : List CkP} {i : Nat} (h : i < l.length), (∀ j (h : j < l.length), j < i → l[j].page < page) → l[i].page = page → addP page lsn l = l
 | p :: r, 0, h, _, he => by simp at he; simp [addP, he]
 | p :: r, i + 1, h, hlt, he => by
  have h0 := hlt 0 (by simp) (by omega)
  simp only [List.getElem_cons_zero] at h0
  rw [addP, if_pos h0, addP_in (i := i) (by simpa using h) (fun j hj hji => by have := hlt (j + 1) (by simpa using hj) (by omega); simpa using this) (by simpa using he)]
theorem addP_out {page : Int} {lsn : Nat} : ∀ {l : List CkP} {i : Nat} (h : i ≤ l.length), (∀ j (h : j < l.length), j < i → l[j].page < page) → (∀ j (h : j < l.length), i ≤ j → page < l[j].page) → addP page lsn l = l.take i ++ ⟨page, lsn⟩ :: l.drop i
 | [], 0, _, _, _ => rfl
 | p :: r, 0, _, _, hi => by
  have h0 := hi 0 (by simp) (by omega)
  simp only [List.getElem_cons_zero] at h0
  rw [addP, if_neg (by omega), if_neg (by omega)]; rfl
 | p :: r, i + 1, h, hlt, hi => by
  have h0 := hlt 0 (by simp) (by omega)
  simp only [List.getElem_cons_zero] at h0
  rw [addP, if_pos h0, addP_out (i := i) (by simpa using h) (fun j hj hji => by have := hlt (j + 1) (by simpa using hj) (by omega); simpa using this) (fun j hj hji => by have := hi (j + 1) (by simpa using hj) (by omega); simpa using this)]
  rfl
theorem addP_tbl {page : Int} {lsn : Nat} (h64 : page < 64) (h1 : 1 ≤ lsn) (h2 : lsn ≤ 1099511627776) : ∀ {l : List CkP} {last : Int}, last < page → tblB last l = true → tblB last (addP page lsn l) = true
 | [], last, hp, _ => by simp [addP, tblB]; omega
 | p :: r, last, hp, h => by
  rw [tblB, Bool.and_eq_true, decide_eq_true_eq] at h
  rw [addP]
  split
  ·rw [tblB, Bool.and_eq_true, decide_eq_true_eq]
   exact ⟨h.1, addP_tbl h64 h1 h2 (by omega) h.2⟩
  ·split
   ·rw [tblB, Bool.and_eq_true, decide_eq_true_eq]; exact h
   ·rw [tblB, Bool.and_eq_true, decide_eq_true_eq]
    refine ⟨by dsimp only; omega, ?_⟩
    rw [tblB, Bool.and_eq_true, decide_eq_true_eq]
    exact ⟨by dsimp only; omega, h.2⟩
theorem addP_len {page : Int} {lsn : Nat} : ∀ {l : List CkP}, (addP page lsn l).length ≤ l.length + 1
 | [] => by simp [addP]
 | p :: r => by
  rw [addP]
  have := addP_len (page := page) (lsn := lsn) (l := r)
  split
  ·simp only [List.length_cons]; omega
  ·split <;> simp
theorem AtR.add {l : List CkP} {page : Int} {lsn i : Nat} {there : Bool} (h : AtR l page i there) (ht : Xh l = true) : addP page lsn l = if there then l else l.take i ++ ⟨page, lsn⟩ :: l.drop i := by
 cases there with
 | true =>
  obtain ⟨h1, h2⟩ := h.hit rfl
  rw [if_pos rfl]
  exact addP_in h1 (h.lo ht) h2
 | false =>
  rw [if_neg (by simp)]
  exact addP_out h.le (h.lo ht) (h.hi ht rfl)
theorem AtR.rec' {l : List CkP} {page : Int} {i : Nat} {there : Bool} (h : AtR l page i there) (ht : Xh l = true) : recP page l = if there then l[i]? else none := by
 unfold recP
 cases there with
 | true =>
  obtain ⟨h1, h2⟩ := h.hit rfl
  rw [if_pos rfl, List.getElem?_eq_getElem h1, List.find?_eq_some_iff_getElem]
  refine ⟨by simpa using h2, i, h1, rfl, fun j hj => ?_⟩
  have := h.lo ht j (by omega) hj
  simp; omega
 | false =>
  rw [if_neg (by simp), List.find?_eq_none]
  intro p hp
  obtain ⟨j, hj, rfl⟩ := List.mem_iff_getElem.1 hp
  by_cases e : j < i
  ·have := h.lo ht j hj e; simp; omega
  ·have := h.hi ht rfl j hj (by omega); simp; omega
abbrev pC (pb : Nat) (v : Value) : List (Nat × Obj) := [(pb, .cells ⟨[v]⟩ 37 (0, 0))]
theorem with_spec (ρ : Hp) (s : SV) (l : List CkP) (h : AS ρ 2 YN s l) (F : Nat) [hF : ZJ Tryz.prog F] (cs : List Value) (X : SH) (e : Int) (l' : List CkP) (hl' : l'.length ≤ 1000000)
  (hdo : Xh l = true → ∀ pb v sp, OwnS v l.length (YU l) sp 2 → Spec Tryz.prog F (.pointer (some ⟨pb, 0, none⟩) :: cs) ρ ([pC pb v, ZG v (YU l) sp 108] ++ X)
   (fun z ρ' L' => z = .int .i64 e ∧ ρ' = ρ ∧ ∃ v' sp', OwnS v' l'.length (YU l') sp' 2 ∧ L' = [pC pb v', ZG v' (YU l') sp' 108] ++ X)) :
  Spec Tryz.prog 137 [.slice s.a s.n s.c, .func (.func F) ⟨[]⟩ ⟨cs⟩] ρ X
   (fun z ρ' L' => ρ.le ρ' ∧ ∃ s' : SV, z = .tuple ⟨[.slice s'.a s'.n s'.c, .int .i64 (if Xh l then e else 320)]⟩ ∧ AS ρ' 2 YN s' (if Xh l = true ∧ e = 0 then l' else []) ∧ L' = X) := by
 have hl := h.at'.len
 have hn := h.big
 have hck := ckcheck_spec ρ s l h
 have hcl := clonep_spec ρ s l h
 refine Za Tryz.func137 rfl rfl rfl fun u R => ?_
 simp only [Zg, kA]
 cases hok : Xh l
 ·rw [hok] at hck
  simp only [Bool.false_eq_true, if_false, false_and] at hck ⊢
  repeat' (first | (refine Zb (.func 58) ?_; refine qR rfl rfl (hck) ?_; try simp only [kA]) | refine zV ?_ | intro _)
  exact qE (L' := X) ⟨Hp.le_refl _, nilS, rfl, AS.nil, rfl⟩
 ·rw [hok] at hck
  simp only [if_true, true_and] at hck ⊢
  have hdo1 := hdo hok
  repeat' (first | (refine Zb (.func 58) ?_; refine qR rfl rfl (hck) ?_; try simp only [kA]) | (refine Zb (.func 208) ?_; refine qC rfl rfl (hcl) ?_; rintro v ρ' L' hle ⟨rfl, sp, hown, rfl⟩ <;> (try simp only [kA])) | refine zV ?_ | intro _)
  obtain ⟨va, vc, rfl, hvc⟩ := hown.slice
  rename_i pb
  by_cases he : e = 0
  ·subst he
   simp only [if_true]
   repeat' (first | (refine Zb (.tmp 16) ?_; refine qC rfl rfl (hdo1 pb _ sp hown) ?_; rintro v ρ' L' hle ⟨rfl, rfl, v', sp', hown', rfl⟩ <;> (try simp only [kA])) | refine zV ?_ | intro _)
   refine YG (ZG v' (YU l') sp' 108) (fun ρ3 hle3 hfz => ?_)
   obtain ⟨sa, sc, e1, hsc, hA2⟩ := hown'.aIn rfl (fun x _ => ckPV_len x) hfz
   subst e1
   exact qE (L' := X) ⟨hle3, ⟨sa, l'.length, sc⟩, rfl, ⟨hA2, hl', hsc⟩, rfl⟩
  ·simp only [he, if_false]
   repeat' (first | (refine Zb (.tmp 16) ?_; refine qC rfl rfl (hdo1 pb _ sp hown) ?_; rintro v ρ' L' hle ⟨rfl, rfl, v', sp', hown', rfl⟩ <;> (try simp only [kA])) | refine zV ?_ | intro _)
   exact qE (L' := X) ⟨Hp.le_refl _, nilS, rfl, AS.nil, rfl⟩
abbrev recC (rb : Nat) (v : RV) (r : Rc) : List (Nat × Obj) := [(rb, .cells ⟨Xw v r⟩ 39 (0, 0))]
theorem touchI_len {lsn : Nat} : ∀ {xs : List Im} {l : List CkP}, (touchI lsn xs l).length ≤ l.length + xs.length
 | [], l => by simp [touchI]
 | x :: r, l => by
  rw [touchI]
  have h1 := touchI_len (lsn := lsn) (xs := r) (l := addP x.page lsn l)
  have h2 := addP_len (page := x.page) (lsn := lsn) (l := l)
  simp only [List.length_cons]; omega
theorem touch1_spec (ρ : Hp) (l : List CkP) (hl : l.length ≤ 1000) (ht : Xh l = true) (v : RV) (r : Rc) (h : RcIn ρ v r) (hi : v.i.n ≤ 1000) (pb rb : Nat) (vv : Value) (sp : List Value) (hown : OwnS vv l.length (YU l) sp 2) :
  Spec Tryz.prog 138 [.pointer (some ⟨pb, 0, none⟩), .pointer (some ⟨rb, 0, none⟩)] ρ ([pC pb vv, ZG vv (YU l) sp 108] ++ [recC rb v r])
   (fun z ρ' L' => z = .int .i64 (if ZP r then 0 else 220) ∧ ρ' = ρ ∧ ∃ v' sp', OwnS v' (if ZP r then touchP r l else l).length (YU (if ZP r then touchP r l else l)) sp' 2 ∧ L' = [pC pb v', ZG v' (YU (if ZP r then touchP r l else l)) sp' 108] ++ [recC rb v r]) := by
 have hck := rcheck_spec ρ v r h
 have hin := h.i.at'.len
 have hA := h.i.at'
 refine Za Tryz.func138 rfl rfl rfl fun u R => ?_
 simp only [Zg, kA]
 cases hok : ZP r
 ·rw [hok] at hck
  simp only [Bool.false_eq_true, if_false] at hck ⊢
  repeat' (first | (refine Zb (.func 139) ?_; refine qC rfl rfl (hck) ?_; rintro v ρ' L' hle ⟨rfl, rfl, rfl⟩ <;> (try simp only [kA])) | refine zV ?_ | intro _)
  exact qE (L' := [pC pb vv, ZG vv (YU l) sp 108, recC rb v r]) ⟨rfl, rfl, vv, sp, hown, rfl⟩
 ·rw [hok] at hck
  simp only [if_true] at hck ⊢
  have hfacts : (1 ≤ r.lsn ∧ r.lsn ≤ 1099511627776) ∧ (r.ims ≠ [] → ∀ x ∈ r.ims, pageOk x.page = true) := by
   unfold ZP at hok
   simp only [Bool.and_eq_true, decide_eq_true_eq] at hok
   obtain ⟨_, hh, ha, hb⟩ := hok
   unfold headOk at hh
   rw [decide_eq_true_eq] at hh
   refine ⟨⟨hh.1, hh.2.1⟩, fun hne x hx => ?_⟩
   have him : ∃ b, imsOk b r.ims = true := by
    unfold bareOk at hb
    rw [decide_eq_true_eq] at hb
    rcases hb.2.1 with h0 | h2 | h5
    ·exact absurd h0 hne
    ·unfold askOk at ha; rw [if_pos h2, Bool.and_eq_true] at ha; exact ⟨true, ha.2⟩
    ·unfold askOk at ha
     rw [if_neg (by omega), if_neg (by omega), if_neg (by omega), if_pos h5, Bool.and_eq_true] at ha; exact ⟨false, ha.2⟩
   obtain ⟨b, him⟩ := him
   unfold imsOk upB at him
   rw [Bool.and_eq_true] at him
   obtain ⟨j, hj, rfl⟩ := List.mem_iff_getElem.1 hx
   have := ((Wo him.2 (Nat.le_refl _)).2 j hj hj).1
   unfold imOk at this
   rw [Bool.and_eq_true] at this
   exact this.1
  obtain ⟨⟨hl1, hl2⟩, hpg⟩ := hfacts
  unfold touchP
  generalize hQ : touchI r.lsn r.ims l = Q
  repeat' (first | (refine Zb (.func 139) ?_; refine qC rfl rfl (hck) ?_; rintro v ρ' L' hle ⟨rfl, rfl, rfl⟩ <;> (try simp only [kA])) | refine zV ?_ | intro _)
  refine Zl [(0, _), (1, _), (3, _), (15, _), (16, _)] (fun (ζ : (Nat) × (Value) × (List Value) × (List CkP)) => [(17, .int .i64 ζ.1)]) (fun (ζ : (Nat) × (Value) × (List Value) × (List CkP)) => ρ') (fun (ζ : (Nat) × (Value) × (List Value) × (List CkP)) => [pC pb ζ.2.1, ZG ζ.2.1 (YU ζ.2.2.2) ζ.2.2.1 108, recC rb v r]) (fun (ζ : (Nat) × (Value) × (List Value) × (List CkP)) => ζ.1 ≤ v.i.n ∧ OwnS ζ.2.1 ζ.2.2.2.length (YU ζ.2.2.2) ζ.2.2.1 2 ∧ Xh ζ.2.2.2 = true ∧ ζ.2.2.2.length ≤ 1000 + ζ.1 ∧ touchI r.lsn (r.ims.drop ζ.1) ζ.2.2.2 = Q) (fun (ζ : (Nat) × (Value) × (List Value) × (List CkP)) => v.i.n - ζ.1) ((0, vv, sp, l)) (⟨Nat.zero_le _, hown, ht, by omega, hQ⟩) Zc Zc rfl tk ?_
  rintro ⟨k, v1, sp1, l1⟩ hI
  try simp only [kA, List.append_assoc] at hI ⊢
  try dsimp only at hI ⊢
  obtain ⟨hk, hown1, ht1, hlen1, hq1⟩ := hI
  obtain ⟨va, vc, rfl, hvc⟩ := hown1.slice
  by_cases hlt : k < v.i.n
  ·obtain ⟨b, off, C, T, fr, e1, hb, hfit, hc⟩ := hA.get (show k < r.ims.length by omega)
   have hmem := List.getElem_mem (show k < r.ims.length by omega)
   rw [List.drop_eq_getElem_cons (show k < r.ims.length by omega), touchI] at hq1
   generalize r.ims[k]'(by omega) = x at *
   have hpx := hpg (List.ne_nil_of_mem hmem) x hmem
   unfold pageOk at hpx
   rw [decide_eq_true_eq] at hpx
   have hat := at_own ρ' (.slice va l1.length vc) sp1 l1 (by omega) hown1 x.page
   rw [e1]
   repeat' (first | refine zV ?_ | intro _)
   rename_i xb
   refine tpA [0,1,2,3,4] (.e 5 [] (.f [6,7,8,9,10] .o)) ([pC pb (.slice va l1.length vc), [(xb, .cells ⟨imV x⟩ 165 (0, 0))]]) ?_
   repeat' (refine iT ?_; first | refine rA ?_ | ((refine iE ?_; refine rE ?_) <;> ((try refine Zn ?_); (first | (refine Zb (.func 140) ?_; refine qC rfl rfl (hat) ?_; rintro v ρ' L' hle ⟨rfl, i, there, rfl, hAt, rfl⟩ <;> (try simp only [kA])) | (refine Yj ?_; try intro _)) <;> ((try simp only [kA]); refine Zi ?_; refine rN ?_))))
   have hadd := hAt.add (lsn := r.lsn) ht1
   have htb := addP_tbl (page := x.page) (lsn := r.lsn) hpx.2 hl1 hl2 (show (-1 : Int) < x.page by omega) ht1
   have hal := addP_len (page := x.page) (lsn := r.lsn) (l := l1)
   cases there
   ·rw [if_neg (by simp)] at hadd
    repeat' (first | refine zV ?_ | intro _)
    refine tc_phase 13 (Zp _ _ ([pC pb (.slice va l1.length vc), [(xb, .cells ⟨imV x⟩ 165 (0, 0))], recC rb v r])) (by decide +kernel) (Wp (hT := tk) (Hp.le_refl _)) ?_
    simp only [List.take_succ_cons, List.take_zero]
    all_goals (refine rMv 0 ?_; refine rMv 1 ?_; refine rNc 2 ?_; refine rLd 3 ?_; refine rMv 4 ?_; refine rFa 5 ?_; refine rLd 6 ?_; refine rFa 7 ?_; refine rLd 8 ?_)
    all_goals refine rBu 9 ?_ (y := fun _ _ => Vk rfl)
    all_goals (refine rStep (i := 10) ?_; ((try refine Zn ?_); (first | (refine Yx (css := [YN ⟨x.page, r.lsn⟩]) (sz := 2) rfl rfl rfl rfl (by simp) (by simp) rfl (fun bs => ?_); simp only [List.flatten_cons, List.flatten_nil, List.append_nil]) | (refine Yj ?_; try intro _)) <;> ((try simp only [kA]); refine Zi ?_; refine rNext ?_)))
    all_goals (refine rStep (i := 11) ?_; ((try refine Zn ?_); (first | (refine Zb (.func 141) ?_; refine qC rfl rfl (insert_spec _ _ sp1 l1 (by omega) hown1 i hAt.le _ ⟨x.page, r.lsn⟩) ?_; rintro v ρ' L' hle ⟨rfl, sp2, hown2, rfl⟩ <;> (try simp only [kA])) | (obtain ⟨va2, vc2, rfl, hvc2⟩ := hown2.slice; refine Yj ?_) | (refine Yj ?_; try intro _)) <;> ((try simp only [kA]); refine Zi ?_; refine rNext ?_)))
    all_goals (refine rNc 12 ?_; refine rDone ?_)
    all_goals refine te_phase (fuel := 1) (m := [true, true, true, true, true, true, true, true, true, true, true, true, true, false]) (Zp _ _ ([])) rfl rfl (Wp (hT := tk) (Hp.le_refl _)) ?_
    all_goals (refine rStep (i := 13) ?_; ((try refine Zn ?_); (first | (obtain ⟨va2, vc2, rfl, hvc2⟩ := hown2.slice; refine Yj ?_) | (refine Yj ?_; try intro _)) <;> ((try simp only [kA]); refine Zi ?_; refine rNext ?_)))
    all_goals refine rDone ?_
    all_goals (repeat' (first | refine zV ?_ | intro _))
    rw [← hadd] at hown2 ⊢
    have hln : l1.length + 1 = (addP x.page r.lsn l1).length := by rw [hadd]; have := hAt.le; simp; omega
    rw [hln] at hown2 ⊢
    rw [← e1]
    refine Zf (k + 1, _, sp2, addP x.page r.lsn l1) (⟨hlt, hown2, htb, by dsimp only; omega, hq1⟩) Zc Zc rfl tk inferInstance (by first | omega | (dsimp only; omega))
   ·rw [if_pos rfl] at hadd
    rw [hadd] at hq1
    repeat' (first | refine zV ?_ | intro _)
    rw [← e1]
    refine Zf (k + 1, _, sp1, l1) (⟨hlt, hown1, ht1, by dsimp only; omega, hq1⟩) Zc Zc rfl tk inferInstance (by first | omega | (dsimp only; omega))
  ·have hk2 : k = r.ims.length := by omega
   rw [hk2, List.drop_length, touchI] at hq1
   subst hq1
   repeat' (first | refine zV ?_ | intro _)
   exact qE (L' := [pC pb (.slice va l1.length vc), ZG (.slice va l1.length vc) (YU l1) sp1 108, recC rb v r]) ⟨rfl, rfl, _, sp1, hown1, rfl⟩
end Go.Proofs.E
namespace Go.Proofs.E
open Go
set_option linter.unusedVariables false
set_option linter.unusedSimpArgs false
set_option linter.unusedSectionVars false
set_option maxRecDepth 4000
set_option maxHeartbeats 1000000
attribute [local irreducible] Yl TL TC TE Spec ZK R1 Hp.le EnvLe TS TR YS Zp
def touchE (l : List CkP) (r : Rc) : Int := if Xh l then (if ZP r then 0 else 220) else 320
def touchR (l : List CkP) (r : Rc) : List CkP := if Xh l = true ∧ (if ZP r then (0 : Int) else 220) = 0 then (if ZP r then touchP r l else l) else []
theorem touch_spec (ρ : Hp) (s : SV) (l : List CkP) (h : AS ρ 2 YN s l) (hb : l.length ≤ 1000) (v : RV) (r : Rc) (hr : RcIn ρ v r) (hi : v.i.n ≤ 1000) :
  Spec Tryz.prog 61 [.slice s.a s.n s.c, .agg ⟨Xw v r⟩] ρ [] (fun z ρ' L' => ρ.le ρ' ∧ ∃ s' : SV, z = .tuple ⟨[.slice s'.a s'.n s'.c, .int .i64 (touchE l r)]⟩ ∧ AS ρ' 2 YN s' (touchR l r) ∧ L' = []) := by
 have hin := hr.i.at'.len
 have hlen : (if ZP r then touchP r l else l).length ≤ 1000000 := by
  have := touchI_len (lsn := r.lsn) (xs := r.ims) (l := l)
  split
  ·unfold touchP; omega
  ·omega
 have hw := fun rb => with_spec ρ s l h 138 [.pointer (some ⟨rb, 0, none⟩)] [recC rb v r] (if ZP r then 0 else 220) (if ZP r then touchP r l else l) hlen (fun ht pb vv sp hown => touch1_spec ρ l hb ht v r hr hi pb rb vv sp hown)
 refine Za Tryz.func61 rfl rfl rfl fun u R => ?_
 simp only [Zg, kA]
 repeat' (first | (refine Zb (.func 137) ?_; refine qC rfl rfl (hw _) ?_; rintro v ρ' L' hle ⟨hle1, s', rfl, hs', rfl⟩ <;> (try simp only [kA])) | refine zV ?_ | intro _)
 exact qE (L' := []) ⟨hle1, s', rfl, hs', rfl⟩
def Xz (r : Rc) (page : Int) : Option Im := if ZP r then r.ims.find? (fun x => decide (x.page = page)) else none
def contO (o : Option Im) : List Value := match o with | some x => Xo x.a.kind x.av | none => Xo 0 ⟨none, 0, 0, none, 0, 0⟩
theorem idx_find {l : List Im} {page : Int} : (idxI (fun x : Im => decide (x.page = page)) l = -1 ∧ l.find? (fun x => decide (x.page = page)) = none) ∨ ∃ i, ∃ h : i < l.length, idxI (fun x : Im => decide (x.page = page)) l = (i : Int) ∧ l.find? (fun x => decide (x.page = page)) = some l[i] := by
 unfold idxI
 cases hf : l.findIdx? (fun x : Im => decide (x.page = page)) with
 | none =>
  left
  rw [List.findIdx?_eq_none_iff] at hf
  exact ⟨rfl, List.find?_eq_none.2 (fun x hx => by rw [hf x hx]; simp)⟩
 | some i =>
  right
  obtain ⟨h1, h2, h3⟩ := List.findIdx?_eq_some_iff_getElem.1 hf
  exact ⟨i, h1, rfl, List.find?_eq_some_iff_getElem.2 ⟨h2, i, h1, rfl, fun j hj => by have := h3 j hj; simpa using this⟩⟩
theorem redoes_spec (ρ : Hp) (v : RV) (r : Rc) (h : RcIn ρ v r) (page : Int) : Spec Tryz.prog 64 [.agg ⟨Xw v r⟩, .int .i64 page] ρ []
  (fun z ρ' L' => z = .tuple ⟨[.agg ⟨contO (Xz r page)⟩, .bool (Xz r page).isSome]⟩ ∧ ρ' = ρ ∧ L' = []) := by
 have hck := rcheck_spec ρ v r h
 have hidx := fun nb => idxIm_spec ρ v.i.a v.i.n v.i.c r.ims h.i.at' h.i.big nb page
 have hin := h.i.at'.len
 have hn := h.i.big
 refine Za Tryz.func64 rfl rfl rfl fun u R => ?_
 simp only [Zg, kA]
 unfold Xz
 rcases idx_find (l := r.ims) (page := page) with ⟨e1, e2⟩ | ⟨i, hi, e1, e2⟩
 ·rw [e1] at hidx
  rw [e2]
  have : (if ZP r = true then none else none : Option Im) = none := by split <;> rfl
  rw [this]
  repeat' (first | (refine Zb (.func 145) ?_; refine qR rfl rfl (hidx _) ?_; try simp only [kA]) | refine zV ?_ | intro _)
  exact qE ⟨rfl, rfl, rfl⟩
 ·rw [e1] at hidx
  rw [e2]
  cases hok : ZP r
  ·rw [hok] at hck
   repeat' (first | (refine Zb (.func 145) ?_; refine qR rfl rfl (hidx _) ?_; try simp only [kA]) | (refine Zb (.func 139) ?_; refine qR rfl rfl (hck) ?_; try simp only [kA, if_false, Bool.false_eq_true]) | refine zV ?_ | intro _)
   exact qE ⟨rfl, rfl, rfl⟩
  ·rw [hok] at hck
   obtain ⟨b, off, C, T, fr, f1, hb, hfit, hc⟩ := h.i.at'.get hi
   have hsub : List.take 3 (List.drop (off + i * 7 + 4) C) = Xo r.ims[i].a.kind r.ims[i].av := by
    have := congrArg (fun l => (l.drop 4).take 3) hc
    simp only [List.drop_take, List.take_take, List.drop_drop] at this
    exact this
   rw [if_pos rfl]
   generalize r.ims[i] = x at *
   rw [show Xw v r = [.int .i64 r.kind, .int .u64 r.lsn, .int .i64 r.txn, .int .u64 r.prev, .int .u64 r.next, .slice (some ⟨b, off, none⟩) v.i.n v.i.c, .slice v.s.a v.s.n v.s.c, .int .i64 r.nextTxn, .slice v.t.a v.t.n v.t.c, .slice v.d.a v.d.n v.d.c] by rw [← f1]]
   rw [show Xw v r = [.int .i64 r.kind, .int .u64 r.lsn, .int .i64 r.txn, .int .u64 r.prev, .int .u64 r.next, .slice (some ⟨b, off, none⟩) v.i.n v.i.c, .slice v.s.a v.s.n v.s.c, .int .i64 r.nextTxn, .slice v.t.a v.t.n v.t.c, .slice v.d.a v.d.n v.d.c] by rw [← f1]] at hck
   rw [f1] at hidx
   repeat' (first | (refine Zb (.func 145) ?_; refine qR rfl rfl (hidx _) ?_; try simp only [kA]) | (refine Zb (.func 139) ?_; refine qR rfl rfl (hck) ?_; try simp only [kA, if_true]) | refine zV ?_ | intro _)
   exact qE ⟨rfl, rfl, rfl⟩
end Go.Proofs.E
namespace Go.Proofs.E
open Go
set_option linter.unusedVariables false
set_option linter.unusedSimpArgs false
set_option linter.unusedSectionVars false
set_option maxRecDepth 4000
set_option maxHeartbeats 1000000
attribute [local irreducible] Yl TL TC TE Spec ZK R1 Hp.le EnvLe TS TR YS Zp TP QP
def needsB (l : List CkP) (r : Rc) (page : Int) : Bool := (Xz r page).isSome && (Xh l && (match recP page l with | some p => decide (p.since ≤ r.lsn) | none => false))
theorem needs_spec (ρ : Hp) (s : SV) (l : List CkP) (h : AS ρ 2 YN s l) (v : RV) (r : Rc) (hr : RcIn ρ v r) (page : Int) :
  Spec Tryz.prog 278 [.slice s.a s.n s.c, .agg ⟨Xw v r⟩, .int .i64 page] ρ [] (fun z ρ' L' => z = .bool (needsB l r page) ∧ ρ' = ρ ∧ L' = []) := by
 have hl := h.at'.len
 have hn := h.big
 have hat := at_spec ρ s l h page
 have hck := ckcheck_spec ρ s l h
 have hre := redoes_spec ρ v r hr page
 unfold needsB
 have hone : (contO (Xz r page)).all (·.oneCell') = true := by unfold contO; split <;> rfl
 have hlen3 : (contO (Xz r page)).length = 3 := by unfold contO; split <;> rfl
 generalize contO (Xz r page) = co at *
 generalize hb1 : (Xz r page).isSome = b1 at *
 obtain ⟨c0, c1, c2, rfl⟩ : ∃ c0 c1 c2, co = [c0, c1, c2] := by
  match co, hlen3 with
  | [c0, c1, c2], _ => exact ⟨c0, c1, c2, rfl⟩
 refine Za Tryz.func278 rfl rfl rfl fun u R => ?_
 simp only [Zg, kA]
 repeat' (first | (refine Zb (.func 64) ?_; refine qC rfl rfl (hre) ?_; rintro v ρ' L' hle ⟨rfl, rfl, rfl⟩ <;> (try simp only [kA])) | (refine Zb (.func 140) ?_; refine qC rfl rfl (hat) ?_; rintro v ρ' L' hle ⟨rfl, i, there, rfl, hAt, rfl⟩ <;> (try simp only [kA])) | refine zV ?_ | intro _)
 cases b1
 ·rw [Bool.false_and]
  repeat' (first | refine zV ?_ | intro _)
  refine tpZ [0,1,2,3,4,5,6,7,8,9,10,11,12,13,14,15] (.e 16 [] (.f [17,18,19] .o)) ?_
  repeat' (refine iT ?_; first | refine rA ?_ | ((refine iE ?_; refine rE ?_) <;> ((try refine Zn ?_); (first | (refine Yj ?_; try intro _)) <;> ((try simp only [kA]); refine Zi ?_; refine rN ?_))))
  all_goals (repeat' (first | refine zV ?_ | intro _))
  all_goals exact qE ⟨rfl, rfl, rfl⟩
 ·rw [Bool.true_and]
  cases there
  ·have hz : (Xh l && (match recP page l with | some p => decide (p.since ≤ r.lsn) | none => false)) = false := by
    cases ht : Xh l with
    | false => rfl
    | true => rw [hAt.rec' ht, if_neg (by simp)]; rfl
   rw [hz]
   repeat' (first | refine zV ?_ | intro _)
   refine tpZ [0,1,2,3,4,5,6,7,8,9,10,11,12,13,14,15] (.e 16 [] (.f [17,18,19] .o)) ?_
   repeat' (refine iT ?_; first | refine rA ?_ | ((refine iE ?_; refine rE ?_) <;> ((try refine Zn ?_); (first | (refine Yj ?_; try intro _)) <;> ((try simp only [kA]); refine Zi ?_; refine rN ?_))))
   all_goals (repeat' (first | refine zV ?_ | intro _))
   all_goals exact qE ⟨rfl, rfl, rfl⟩
  ·obtain ⟨h1, h2⟩ := hAt.hit rfl
   obtain ⟨b, off, C, T, fr, e1, hb, hfit, hc⟩ := h.at'.get h1
   have hrec : Xh l = true → recP page l = some l[i] := fun ht => by rw [hAt.rec' ht, if_pos rfl, List.getElem?_eq_getElem h1]
   generalize l[i]'h1 = x at *
   have hce : C[off + i * 2 + 1]? = some (.int .u64 x.since) := by
    have := congrArg (fun l => l[1]?) hc
    simp only [List.getElem?_take, List.getElem?_drop] at this
    simpa using this
   have hpost : (Xh l && (match recP page l with | some p => decide (p.since ≤ r.lsn) | none => false)) = (decide (x.since ≤ r.lsn) && Xh l) := by
    cases ht : Xh l with
    | false => simp
    | true => rw [hrec ht]; simp
   rw [hpost]
   rw [e1] at hck ⊢
   by_cases hle : x.since ≤ r.lsn
   ·rw [decide_eq_true hle, Bool.true_and]
    cases ht : Xh l
    ·rw [ht] at hck
     repeat' (first | refine zV ?_ | intro _)
     refine tpZ [0,1,2,3,4,5,6,7,8,9,10,11,12,13,14,15] (.e 16 [] (.f [17,18,19] .o)) ?_
     repeat' (refine iT ?_; first | refine rA ?_ | ((refine iE ?_; refine rE ?_) <;> ((try refine Zn ?_); (first | (refine Zb (.func 58) ?_; refine qC rfl rfl (hck) ?_; rintro v ρ' L' hle ⟨rfl, rfl, rfl⟩ <;> (try simp only [kA, if_false, Bool.false_eq_true])) | (refine Yj ?_; try intro _)) <;> ((try simp only [kA]); refine Zi ?_; refine rN ?_))))
     all_goals (repeat' (first | refine zV ?_ | intro _))
     all_goals exact qE ⟨rfl, rfl, rfl⟩
    ·rw [ht] at hck
     repeat' (first | refine zV ?_ | intro _)
     refine tpZ [0,1,2,3,4,5,6,7,8,9,10,11,12,13,14,15] (.e 16 [] (.f [17,18,19] .o)) ?_
     repeat' (refine iT ?_; first | refine rA ?_ | ((refine iE ?_; refine rE ?_) <;> ((try refine Zn ?_); (first | (refine Zb (.func 58) ?_; refine qC rfl rfl (hck) ?_; rintro v ρ' L' hle ⟨rfl, rfl, rfl⟩ <;> (try simp only [kA, if_true])) | (refine Yj ?_; try intro _)) <;> ((try simp only [kA]); refine Zi ?_; refine rN ?_))))
     all_goals (repeat' (first | refine zV ?_ | intro _))
     all_goals exact qE ⟨rfl, rfl, rfl⟩
   ·rw [decide_eq_false hle, Bool.false_and]
    repeat' (first | refine zV ?_ | intro _)
    refine tpZ [0,1,2,3,4,5,6,7,8,9,10,11,12,13,14,15] (.e 16 [] (.f [17,18,19] .o)) ?_
    repeat' (refine iT ?_; first | refine rA ?_ | ((refine iE ?_; refine rE ?_) <;> ((try refine Zn ?_); (first | (refine Yj ?_; try intro _)) <;> ((try simp only [kA]); refine Zi ?_; refine rN ?_))))
    all_goals (repeat' (first | refine zV ?_ | intro _))
    all_goals exact qE ⟨rfl, rfl, rfl⟩
def zRc : Rc := ⟨0, 0, 0, 0, 0, [], [], 0, [], []⟩
def zRV : RV := ⟨nilS, nilS, nilS, nilS⟩
theorem RcIn.zero {ρ : Hp} : RcIn ρ zRV zRc := ⟨AS.nil, by simp [zRc], AS.nil, AS.nil, AS.nil, by simp [zRc]⟩
theorem XW (ρ : Hp) (n : Int) : Spec Tryz.prog 270 [.int .i64 n] ρ [] (fun v ρ' L' => v = .bool (decide (0 ≤ n ∧ n < 3)) ∧ ρ' = ρ ∧ L' = []) := by
 refine Za Tryz.func270 rfl rfl rfl fun u R => ?_
 simp only [Zg, kA]
 by_cases h0 : 0 ≤ n
 ·by_cases h1 : n < 3
  ·rw [decide_eq_true ⟨h0, h1⟩]
   repeat' (first | refine zW ?_ | intro _)
   exact qE ⟨rfl, rfl, rfl⟩
  ·rw [decide_eq_false (fun h => h1 h.2)]
   repeat' (first | refine zW ?_ | intro _)
   exact qE ⟨rfl, rfl, rfl⟩
 ·rw [decide_eq_false (fun h => h0 h.1)]
  repeat' (first | refine zW ?_ | intro _)
  exact qE ⟨rfl, rfl, rfl⟩
theorem Wn (ρ : Hp) (t : Int) (id : Nat) (h0 : 0 ≤ t) (h3 : t < 3) (hid : id < 65536) : Spec Tryz.prog 269 [.agg ⟨keyV t id⟩] ρ [] (fun v ρ' L' => v = .int .i64 (t * 65536 + id) ∧ ρ' = ρ ∧ L' = []) := by
 refine Za Tryz.func269 rfl rfl rfl fun u R => ?_
 simp only [Zg, kA]
 repeat' (first | refine zW ?_ | intro _)
 exact qE ⟨rfl, rfl, rfl⟩
theorem order_lt {t1 t2 : Int} {i1 i2 : Nat} (h1 : i1 < 65536) (h2 : i2 < 65536) : cmpK t1 i1 t2 i2 < 0 ↔ t1 * 65536 + i1 < t2 * 65536 + i2 := by
 rw [cmpK_lt]; omega
theorem WC (ρ : Hp) (r : Row) : Spec Tryz.prog 237 [.agg ⟨Yu r⟩] ρ [] (fun v ρ' L' => v = .bool (Xq r) ∧ ρ' = ρ ∧ L' = []) := by
 obtain ⟨t, id, val, note⟩ := r
 refine Za Tryz.func237 rfl rfl rfl fun u R => ?_
 simp only [Zg, kA, Xq]
 by_cases h1 : 0 ≤ t ∧ t < 3
 ·have hd : decide (0 ≤ t ∧ t < 3) = true := decide_eq_true h1
  by_cases h2 : note.length ≤ 8
  ·rw [decide_eq_true ⟨h1, h2⟩]
   repeat' (first | (refine Zb (.func 270) ?_; refine qR rfl rfl (XW _ _) ?_; try simp only [kA, hd]) | refine zW ?_ | intro _)
   exact qE ⟨rfl, rfl, rfl⟩
  ·rw [decide_eq_false (fun h => h2 h.2)]
   repeat' (first | (refine Zb (.func 270) ?_; refine qR rfl rfl (XW _ _) ?_; try simp only [kA, hd]) | refine zW ?_ | intro _)
   exact qE ⟨rfl, rfl, rfl⟩
 ·have hd : decide (0 ≤ t ∧ t < 3) = false := decide_eq_false h1
  rw [decide_eq_false (fun h => h1 h.1)]
  repeat' (first | (refine Zb (.func 270) ?_; refine qR rfl rfl (XW _ _) ?_; try simp only [kA, hd]) | refine zW ?_ | intro _)
  exact qE ⟨rfl, rfl, rfl⟩
theorem risesB_split {α : Type} {most : Nat} {right : Nat → α → Bool} {lt : α → α → Bool} {l : List α} : ∀ k, Zw most right lt l k = (decide (l.length ≤ most) && Zw l.length right lt l k)
 | 0 => by simp [Zw]
 | k + 1 => by rw [Zw, risesB_split k, Zw, Bool.and_assoc]
theorem rowsR_spec (ρ : Hp) (a : Option Addr) (n c : Nat) (l : List Row) (h : AIn ρ 4 Yu a n l) (hn : n ≤ 1000000) (hid : ∀ r ∈ l, r.id < 65536) :
  Spec Tryz.prog 193 [.slice a n c] ρ [] (fun v ρ' L' => v = .bool (rowsOk l) ∧ ρ' = ρ ∧ L' = []) := by
 have hl := h.len
 unfold rowsOk
 rw [risesB_split, hl]
 refine Za Tryz.func193 rfl rfl rfl fun u R => ?_
 simp only [Zg, kA]
 generalize hrt : (fun (_ : Nat) (r : Row) => Xq r) = rt
 repeat' (first | refine zW ?_ | intro _)
 refine Zl [(0, _), (2, _), (5, _), (6, _)] (fun (ζ : (Nat)) => [(7, .int .i64 ζ)]) (fun (ζ : (Nat)) => ρ) (fun (ζ : (Nat)) => []) (fun (ζ : (Nat)) => ζ ≤ n ∧ Zw n rt ltR l ζ = true) (fun (ζ : (Nat)) => n - ζ) (0) (⟨Nat.zero_le _, by rw [Zw, hl]; exact decide_eq_true (Nat.le_refl _)⟩) Zc Zc rfl tk ?_
 rintro k hI
 try simp only [kA, List.append_assoc] at hI ⊢
 try dsimp only at hI ⊢
 obtain ⟨hk, hok⟩ := hI
 by_cases hlt : k < n
 ·obtain ⟨b, off, C, T, fr, rfl, hb, hfit, hc⟩ := h.get (show k < l.length by omega)
  have hs := Xm (most := n) (right := rt) (lt := ltR) (show k < l.length by omega)
  rw [hok, Bool.true_and] at hs
  have hrk : rt k (l[k]'(by omega)) = Xq (l[k]'(by omega)) := by rw [← hrt]
  rw [hrk] at hs
  have hfin := fun (e : Zw n rt ltR l (k + 1) = false) => YR e (show k + 1 ≤ n by omega)
  have hmem : l[k]'(by omega) ∈ l := List.getElem_mem _
  have hidk := hid _ hmem
  cases hx : Xq (l[k]'(by omega))
  ·rw [hx, Bool.false_and] at hs
   rw [hfin hs, Bool.and_false]
   generalize l[k]'(by omega) = x at *
   repeat' (first | refine zW ?_ | intro _)
   refine tpZ [0] (.e 1 [2,3,4,5,6,7,8,9,10,11,12,14,15] (.e 13 [] (.e 16 [] (.f [17,18,19] .o)))) ?_
   repeat' (refine iT ?_; first | refine rA ?_ | ((refine iE ?_; refine rE ?_) <;> ((try refine Zn ?_); (first | (refine Zb (.func 237) ?_; refine qR rfl rfl (WC _ x) ?_; try simp only [kA, hx]) | (refine Yj ?_; try intro _)) <;> ((try simp only [kA]); refine Zi ?_; refine rN ?_))))
   repeat' (first | refine zW ?_ | intro _)
   exact qE ⟨rfl, rfl, rfl⟩
  ·rw [hx, Bool.true_and] at hs
   by_cases hk0 : k = 0
   ·have hs' : Zw n rt ltR l (k + 1) = true := by rw [hs]; simp [hk0]
    generalize l[k]'(by omega) = x at *
    repeat' (first | refine zW ?_ | intro _)
    refine tpZ [0] (.e 1 [2,3,4,5,6,7,8,9,10,11,12,14,15] (.e 13 [] (.e 16 [] (.f [17,18,19] .o)))) ?_
    repeat' (refine iT ?_; first | refine rA ?_ | ((refine iE ?_; refine rE ?_) <;> ((try refine Zn ?_); (first | (refine Zb (.func 237) ?_; refine qR rfl rfl (WC _ x) ?_; try simp only [kA, hx]) | (refine Yj ?_; try intro _)) <;> ((try simp only [kA]); refine Zi ?_; refine rN ?_))))
    repeat' (first | refine zW ?_ | intro _)
    refine Zf (k + 1) (⟨hlt, hs'⟩) Zc Zc rfl tk inferInstance (by first | omega | (dsimp only; omega))
   ·have hd : decide (k = 0) = false := decide_eq_false hk0
    rw [hd, Bool.false_or] at hs
    obtain ⟨b2, off2, C2, T2, fr2, f1, hb2, hfit2, hc2⟩ := h.get (show k - 1 < l.length by omega)
    cases f1
    rw [hb] at hb2
    cases hb2
    have ek : ((k : Int) - 1).toNat = k - 1 := by omega
    have hkey : List.take 2 (List.drop (off + ((k : Int) - 1).toNat * 4) C) = keyV (l[k - 1]'(by omega)).t (l[k - 1]'(by omega)).id := by
     rw [ek]
     have := congrArg (List.take 2) hc2
     rw [List.take_take] at this
     exact this
    have hfit3 : off + ((k : Int) - 1).toNat * 4 + 2 ≤ C.length := by rw [ek]; omega
    obtain ⟨g1, g2⟩ := Wo hok (by omega)
    have hrp := (g2 (k - 1) (by omega) (by omega)).1
    have hrk1 : rt (k - 1) (l[k - 1]'(by omega)) = Xq (l[k - 1]'(by omega)) := by rw [← hrt]
    rw [hrk1] at hrp
    have hidp := hid _ (List.getElem_mem (show k - 1 < l.length by omega))
    clear hc2 hfit2 hrk hrk1
    generalize l[k]'(by omega) = x at *
    generalize l[k - 1]'(by omega) = y at *
    obtain ⟨y0, y3, _⟩ := rowOk_iff hrp
    obtain ⟨x0, x3, _⟩ := rowOk_iff hx
    have hor := order_lt (t1 := y.t) (t2 := x.t) hidp hidk
    unfold ltR at hs
    by_cases hcm : cmpK y.t y.id x.t x.id < 0
    ·rw [decide_eq_true hcm] at hs
     have hcm2 := hor.1 hcm
     repeat' (first | refine zW ?_ | intro _)
     refine tpZ [0] (.e 1 [2,3,4,5,6,7,8,9,10,11,12,14,15] (.e 13 [] (.e 16 [] (.f [17,18,19] .o)))) ?_
     repeat' (refine iT ?_; first | refine rA ?_ | ((refine iE ?_; refine rE ?_) <;> ((try refine Zn ?_); (first | (refine Zb (.func 237) ?_; refine qR rfl rfl (WC _ x) ?_; try simp only [kA, hx]) | (refine Zb (.func 269) ?_; refine qR rfl rfl (Wn _ y.t y.id y0 y3 hidp) ?_; try simp only [kA]) | (refine Zb (.func 269) ?_; refine qR rfl rfl (Wn _ x.t x.id x0 x3 hidk) ?_; try simp only [kA]) | (refine Yj ?_; try intro _)) <;> ((try simp only [kA]); refine Zi ?_; refine rN ?_))))
     all_goals (repeat' (first | refine zW ?_ | intro _))
     all_goals refine Zf (k + 1) (⟨hlt, hs⟩) Zc Zc rfl tk inferInstance (by first | omega | (dsimp only; omega))
    ·rw [decide_eq_false hcm] at hs
     rw [hfin hs, Bool.and_false]
     have hcm2 : ¬ (y.t * 65536 + y.id < x.t * 65536 + x.id) := fun h => hcm (hor.2 h)
     repeat' (first | refine zW ?_ | intro _)
     refine tpZ [0] (.e 1 [2,3,4,5,6,7,8,9,10,11,12,14,15] (.e 13 [] (.e 16 [] (.f [17,18,19] .o)))) ?_
     repeat' (refine iT ?_; first | refine rA ?_ | ((refine iE ?_; refine rE ?_) <;> ((try refine Zn ?_); (first | (refine Zb (.func 237) ?_; refine qR rfl rfl (WC _ x) ?_; try simp only [kA, hx]) | (refine Zb (.func 269) ?_; refine qR rfl rfl (Wn _ y.t y.id y0 y3 hidp) ?_; try simp only [kA]) | (refine Zb (.func 269) ?_; refine qR rfl rfl (Wn _ x.t x.id x0 x3 hidk) ?_; try simp only [kA]) | (refine Yj ?_; try intro _)) <;> ((try simp only [kA]); refine Zi ?_; refine rN ?_))))
     all_goals (repeat' (first | refine zW ?_ | intro _))
     all_goals exact qE ⟨rfl, rfl, rfl⟩
 ·have hk2 : k = n := by omega
  subst hk2
  rw [hok, Bool.and_true]
  by_cases h4 : k ≤ 4
  ·rw [decide_eq_true h4]
   repeat' (first | refine zW ?_ | intro _)
   exact qE ⟨rfl, rfl, rfl⟩
  ·rw [decide_eq_false h4]
   repeat' (first | refine zW ?_ | intro _)
   exact qE ⟨rfl, rfl, rfl⟩
theorem psTo_mem {l : List Kid} {k : Nat} {p : Int} : p ∈ psTo l k ↔ ∃ x ∈ l.take k, x.page = p := by simp only [psTo, List.mem_reverse, List.mem_map]
theorem kidsR_spec (ρ : Hp) (a : Option Addr) (n c : Nat) (l : List Kid) (h : AIn ρ 3 Xj a n l) (hn : n ≤ 1000000) (hnc : n ≤ c) (hid : ∀ r ∈ l, r.id < 65536) :
  Spec Tryz.prog 194 [.slice a n c] ρ [] (fun v ρ' L' => v = .bool (decide (1 < n) && kidsOk l) ∧ ρ' = ρ ∧ L' = []) := by
 have hl := h.len
 unfold kidsOk
 rw [risesB_split, hl]
 refine Za Tryz.func194 rfl rfl rfl fun u R => ?_
 simp only [Zg, kA]
 generalize hrt : (fun (i : Nat) (k : Kid) => kidOk i (psTo l i) k) = rt
 repeat' (first | refine zW ?_ | intro _)
 refine Zl [(0, _), (2, _), (7, _), (8, _)] (fun (ζ : (Nat)) => [(9, .int .i64 ζ)]) (fun (ζ : (Nat)) => ρ) (fun (ζ : (Nat)) => []) (fun (ζ : (Nat)) => ζ ≤ n ∧ Zw n rt ltK l ζ = true) (fun (ζ : (Nat)) => n - ζ) (0) (⟨Nat.zero_le _, by rw [Zw, hl]; exact decide_eq_true (Nat.le_refl _)⟩) Zc Zc rfl tk ?_
 rintro k hI
 try simp only [kA, List.append_assoc] at hI ⊢
 try dsimp only at hI ⊢
 obtain ⟨hk, hok⟩ := hI
 by_cases hlt : k < n
 ·have hsub := h.take (hi' := k) (by omega)
  obtain ⟨b, off, C, T, fr, rfl, hb, hfit, hc⟩ := h.get (show k < l.length by omega)
  have hs := Xm (most := n) (right := rt) (lt := ltK) (show k < l.length by omega)
  rw [hok, Bool.true_and] at hs
  have hrk : rt k (l[k]'(by omega)) = kidOk k (psTo l k) (l[k]'(by omega)) := by rw [← hrt]
  rw [hrk] at hs
  have hfin := fun (e : Zw n rt ltK l (k + 1) = false) => YR e (show k + 1 ≤ n by omega)
  have hmem : l[k]'(by omega) ∈ l := List.getElem_mem _
  have hidk := hid _ hmem
  have hx : ∀ P : Prop, (kidOk k (psTo l k) (l[k]'(by omega)) = true → P) → ¬ P → (decide (1 < n) && (decide (n ≤ 4) && Zw n rt ltK l n)) = false := fun P h1 h2 => by
   have : kidOk k (psTo l k) (l[k]'(by omega)) = false := by
    cases e : kidOk k (psTo l k) (l[k]'(by omega))
    ·rfl
    ·exact absurd (h1 e) h2
   rw [this, Bool.false_and] at hs
   rw [hfin hs]; simp
  have hkx : kidOk k (psTo l k) (l[k]'(by omega)) = true → (l[k]'(by omega)).page ∉ psTo l k ∧ 0 < (l[k]'(by omega)).page ∧ (l[k]'(by omega)).page < 64 ∧ (0 ≤ (l[k]'(by omega)).t ∧ (l[k]'(by omega)).t < 3) ∧ (0 < k ∨ ((l[k]'(by omega)).t = 0 ∧ (l[k]'(by omega)).id = 0)) := fun e => of_decide_eq_true e
  generalize hX : l[k]'(by omega) = x at *
  by_cases p0 : 0 < x.page
  ·by_cases p6 : x.page < 64
   ·by_cases ht : 0 ≤ x.t ∧ x.t < 3
    ·have hd : decide (0 ≤ x.t ∧ x.t < 3) = true := decide_eq_true ht
     by_cases hk0 : k = 0
     ·by_cases hz : x.t = 0 ∧ x.id = 0
      ·have hkk : ((x.t == 0) && (((x.id : Int) == 0) && true)) = true := by simp [hz.1, hz.2]
       repeat' (first | refine zW ?_ | intro _)
       rename_i b4
       refine tpZ [0,1,2,3,4,5,6,7,8,9,10,11] (.e 12 [13,14,15,16,17,18,19,20,21,22,23,24,25,26,27,28,29,30,31,32,33,34,36,37] (.e 35 [] (.e 38 [] (.f [39,40,41] .o)))) ?_
       repeat' (refine iT ?_; first | refine rA ?_ | ((refine iE ?_; refine rE ?_) <;> ((try refine Zn ?_); (first | (refine Zb (.func 270) ?_; refine qC rfl rfl (XW _ _) ?_; rintro v ρ' L' hle ⟨rfl, rfl, rfl⟩ <;> (try simp only [kA, hd])) | (refine Yj ?_; try intro _)) <;> ((try simp only [kA]); refine Zi ?_; refine rN ?_))))
       repeat' (first | refine zW ?_ | intro _)
       simp only [Int.toNat_natCast]
       refine Zl [(0, _), (2, _), (4, _), (7, _), (8, _), (9, _), (58, _), (59, _)] (fun (ζ : (Nat)) => [(60, .int .i64 ζ)]) (fun (ζ : (Nat)) => ρ') (fun (ζ : (Nat)) => [[(b4, .cells ⟨Xj x⟩ 238 (0, 0))]]) (fun (ζ : (Nat)) => ζ ≤ k ∧ ∀ y ∈ l.take ζ, y.page ≠ x.page) (fun (ζ : (Nat)) => k - ζ) (0) (⟨Nat.zero_le _, by simp⟩) Zc Zc rfl tk ?_
       rintro j hI
       try simp only [kA, List.append_assoc] at hI ⊢
       try dsimp only at hI ⊢
       obtain ⟨hj, hjo⟩ := hI
       by_cases hjk : j < k
       ·exact absurd hjk (by omega)
       ·have hj2 : j = k := by omega
        subst hj2
        have hke : kidOk j (psTo l j) x = true := decide_eq_true ⟨fun e => by obtain ⟨y, hy, he⟩ := psTo_mem.1 e; exact hjo y hy he, p0, p6, ht, .inr hz⟩
        rw [hke, Bool.true_and] at hs
        have hs' : Zw n rt ltK l (j + 1) = true := by rw [hs]; simp [hk0]
        repeat' (first | refine zW ?_ | intro _)
        refine Zf (j + 1) (⟨hlt, hs'⟩) Zc Zc rfl tk inferInstance (by first | omega | (dsimp only; omega))
      ·have hkk : ((x.t == 0) && (((x.id : Int) == 0) && true)) = false := by
        simp; intro h; exact fun h' => hz ⟨h, by omega⟩
       rw [hx (0 < k ∨ (x.t = 0 ∧ x.id = 0)) (fun e => (hkx e).2.2.2.2) (fun e => e.elim (by omega) hz)]
       repeat' (first | refine zW ?_ | intro _)
       refine tpZ [0,1,2,3,4,5,6,7,8,9,10,11] (.e 12 [13,14,15,16,17,18,19,20,21,22,23,24,25,26,27,28,29,30,31,32,33,34,36,37] (.e 35 [] (.e 38 [] (.f [39,40,41] .o)))) ?_
       repeat' (refine iT ?_; first | refine rA ?_ | ((refine iE ?_; refine rE ?_) <;> ((try refine Zn ?_); (first | (refine Zb (.func 270) ?_; refine qC rfl rfl (XW _ _) ?_; rintro v ρ' L' hle ⟨rfl, rfl, rfl⟩ <;> (try simp only [kA, hd])) | (refine Yj ?_; try intro _)) <;> ((try simp only [kA]); refine Zi ?_; refine rN ?_))))
       repeat' (first | refine zW ?_ | intro _)
       exact qE ⟨rfl, rfl, rfl⟩
     ·have hdk : decide (k = 0) = false := decide_eq_false hk0
      rw [hdk, Bool.false_or] at hs
      obtain ⟨b2, off2, C2, T2, fr2, f1, hb2, hfit2, hc2⟩ := h.get (show k - 1 < l.length by omega)
      cases f1
      rw [hb] at hb2
      cases hb2
      have ek : ((k : Int) - 1).toNat = k - 1 := by omega
      have hkey : List.take 2 (List.drop (off + ((k : Int) - 1).toNat * 3) C) = keyV (l[k - 1]'(by omega)).t (l[k - 1]'(by omega)).id := by
       rw [ek]
       have := congrArg (List.take 2) hc2
       rw [List.take_take] at this
       exact this
      have hfit3 : off + ((k : Int) - 1).toNat * 3 + 2 ≤ C.length := by rw [ek]; omega
      obtain ⟨g1, g2⟩ := Wo hok (by omega)
      have hrp := (g2 (k - 1) (by omega) (by omega)).1
      have hrk1 : rt (k - 1) (l[k - 1]'(by omega)) = kidOk (k - 1) (psTo l (k - 1)) (l[k - 1]'(by omega)) := by rw [← hrt]
      rw [hrk1] at hrp
      have hrt2 := (of_decide_eq_true hrp).2.2.2.1
      have hidp := hid _ (List.getElem_mem (show k - 1 < l.length by omega))
      clear hc2 hfit2 hrk hrk1 hrp
      generalize l[k - 1]'(by omega) = y at *
      have hor := order_lt (t1 := y.t) (t2 := x.t) hidp hidk
      unfold ltK at hs
      by_cases hcm : cmpK y.t y.id x.t x.id < 0
      ·rw [decide_eq_true hcm] at hs
       have hcm2 := hor.1 hcm
       repeat' (first | refine zW ?_ | intro _)
       rename_i b4
       refine tpZ [0,1,2,3,4,5,6,7,8,9,10,11] (.e 12 [13,14,15,16,17,18,19,20,21,22,23,24,25,26,27,28,29,30,31,32,33,34,36,37] (.e 35 [] (.e 38 [] (.f [39,40,41] .o)))) ?_
       repeat' (refine iT ?_; first | refine rA ?_ | ((refine iE ?_; refine rE ?_) <;> ((try refine Zn ?_); (first | (refine Zb (.func 270) ?_; refine qC rfl rfl (XW _ _) ?_; rintro v ρ' L' hle ⟨rfl, rfl, rfl⟩ <;> (try simp only [kA, hd])) | (refine Zb (.func 269) ?_; refine qC rfl rfl (Wn _ y.t y.id hrt2.1 hrt2.2 hidp) ?_; rintro v ρ' L' hle ⟨rfl, rfl, rfl⟩ <;> (try simp only [kA])) | (refine Zb (.func 269) ?_; refine qC rfl rfl (Wn _ x.t x.id ht.1 ht.2 hidk) ?_; rintro v ρ' L' hle ⟨rfl, rfl, rfl⟩ <;> (try simp only [kA])) | (refine Yj ?_; try intro _)) <;> ((try simp only [kA]); refine Zi ?_; refine rN ?_))))
       repeat' (first | refine zW ?_ | intro _)
       simp only [Int.toNat_natCast]
       refine Zl [(0, _), (2, _), (4, _), (7, _), (8, _), (9, _), (58, _), (59, _)] (fun (ζ : (Nat)) => [(60, .int .i64 ζ)]) (fun (ζ : (Nat)) => ρ') (fun (ζ : (Nat)) => [[(b4, .cells ⟨Xj x⟩ 238 (0, 0))]]) (fun (ζ : (Nat)) => ζ ≤ k ∧ ∀ y ∈ l.take ζ, y.page ≠ x.page) (fun (ζ : (Nat)) => k - ζ) (0) (⟨Nat.zero_le _, by simp⟩) Zc Zc rfl tk ?_
       rintro j hI
       try simp only [kA, List.append_assoc] at hI ⊢
       try dsimp only at hI ⊢
       obtain ⟨hj, hjo⟩ := hI
       by_cases hjk : j < k
       ·obtain ⟨b3, off3, C3, T3, fr3, f3, hb3, hfit3, hc3⟩ := h.get (show j < l.length by omega)
        cases f3
        rw [hb] at hb3
        cases hb3
        have htj := List.take_succ_eq_append_getElem (show j < l.length by omega)
        have hjm : l[j]'(by omega) ∈ l.take k := by
         rw [List.mem_take_iff_getElem]
         exact ⟨j, by omega, rfl⟩
        generalize hZ : l[j]'(by omega) = z at *
        by_cases hp : z.page = x.page
        ·rw [hx (x.page ∉ psTo l k) (fun e => (hkx e).1) (fun e => e (psTo_mem.2 ⟨z, hjm, hp⟩))]
         repeat' (first | refine zW ?_ | intro _)
         exact qE ⟨rfl, rfl, rfl⟩
        ·have hjn : ∀ y ∈ l.take (j + 1), y.page ≠ x.page := by
           intro y hy
           rw [htj] at hy
           rcases List.mem_append.1 hy with hy | hy
           ·exact hjo y hy
           ·rw [List.mem_singleton.1 hy]; exact hp
         repeat' (first | refine zW ?_ | intro _)
         refine Zf (j + 1) (⟨hjk, hjn⟩) Zc Zc rfl tk inferInstance (by first | omega | (dsimp only; omega))
       ·have hj2 : j = k := by omega
        subst hj2
        have hke : kidOk j (psTo l j) x = true := decide_eq_true ⟨fun e => by obtain ⟨y, hy, he⟩ := psTo_mem.1 e; exact hjo y hy he, p0, p6, ht, .inl (by omega)⟩
        rw [hke, Bool.true_and] at hs
        have hs' : Zw n rt ltK l (j + 1) = true := hs
        repeat' (first | refine zW ?_ | intro _)
        refine Zf (j + 1) (⟨hlt, hs'⟩) Zc Zc rfl tk inferInstance (by first | omega | (dsimp only; omega))
      ·rw [decide_eq_false hcm, Bool.and_false] at hs
       have hcm2 : ¬ (y.t * 65536 + y.id < x.t * 65536 + x.id) := fun h => hcm (hor.2 h)
       rw [hfin hs]
       simp only [Bool.and_false]
       repeat' (first | refine zW ?_ | intro _)
       refine tpZ [0,1,2,3,4,5,6,7,8,9,10,11] (.e 12 [13,14,15,16,17,18,19,20,21,22,23,24,25,26,27,28,29,30,31,32,33,34,36,37] (.e 35 [] (.e 38 [] (.f [39,40,41] .o)))) ?_
       repeat' (refine iT ?_; first | refine rA ?_ | ((refine iE ?_; refine rE ?_) <;> ((try refine Zn ?_); (first | (refine Zb (.func 270) ?_; refine qC rfl rfl (XW _ _) ?_; rintro v ρ' L' hle ⟨rfl, rfl, rfl⟩ <;> (try simp only [kA, hd])) | (refine Zb (.func 269) ?_; refine qC rfl rfl (Wn _ y.t y.id hrt2.1 hrt2.2 hidp) ?_; rintro v ρ' L' hle ⟨rfl, rfl, rfl⟩ <;> (try simp only [kA])) | (refine Zb (.func 269) ?_; refine qC rfl rfl (Wn _ x.t x.id ht.1 ht.2 hidk) ?_; rintro v ρ' L' hle ⟨rfl, rfl, rfl⟩ <;> (try simp only [kA])) | (refine Yj ?_; try intro _)) <;> ((try simp only [kA]); refine Zi ?_; refine rN ?_))))
       repeat' (first | refine zW ?_ | intro _)
       exact qE ⟨rfl, rfl, rfl⟩
    ·have hd : decide (0 ≤ x.t ∧ x.t < 3) = false := decide_eq_false ht
     rw [hx (0 ≤ x.t ∧ x.t < 3) (fun e => (hkx e).2.2.2.1) ht]
     repeat' (first | refine zW ?_ | intro _)
     refine tpZ [0,1,2,3,4,5,6,7,8,9,10,11] (.e 12 [13,14,15,16,17,18,19,20,21,22,23,24,25,26,27,28,29,30,31,32,33,34,36,37] (.e 35 [] (.e 38 [] (.f [39,40,41] .o)))) ?_
     repeat' (refine iT ?_; first | refine rA ?_ | ((refine iE ?_; refine rE ?_) <;> ((try refine Zn ?_); (first | (refine Zb (.func 270) ?_; refine qC rfl rfl (XW _ _) ?_; rintro v ρ' L' hle ⟨rfl, rfl, rfl⟩ <;> (try simp only [kA, hd])) | (refine Yj ?_; try intro _)) <;> ((try simp only [kA]); refine Zi ?_; refine rN ?_))))
     repeat' (first | refine zW ?_ | intro _)
     exact qE ⟨rfl, rfl, rfl⟩
   ·rw [hx (x.page < 64) (fun e => (hkx e).2.2.1) p6]
    repeat' (first | refine zW ?_ | intro _)
    refine tpZ [0,1,2,3,4,5,6,7,8,9,10,11] (.e 12 [13,14,15,16,17,18,19,20,21,22,23,24,25,26,27,28,29,30,31,32,33,34,36,37] (.e 35 [] (.e 38 [] (.f [39,40,41] .o)))) ?_
    repeat' (refine iT ?_; first | refine rA ?_ | ((refine iE ?_; refine rE ?_) <;> ((try refine Zn ?_); (first | (refine Yj ?_; try intro _)) <;> ((try simp only [kA]); refine Zi ?_; refine rN ?_))))
    repeat' (first | refine zW ?_ | intro _)
    exact qE ⟨rfl, rfl, rfl⟩
  ·rw [hx (0 < x.page) (fun e => (hkx e).2.1) p0]
   repeat' (first | refine zW ?_ | intro _)
   refine tpZ [0,1,2,3,4,5,6,7,8,9,10,11] (.e 12 [13,14,15,16,17,18,19,20,21,22,23,24,25,26,27,28,29,30,31,32,33,34,36,37] (.e 35 [] (.e 38 [] (.f [39,40,41] .o)))) ?_
   repeat' (refine iT ?_; first | refine rA ?_ | ((refine iE ?_; refine rE ?_) <;> ((try refine Zn ?_); (first | (refine Yj ?_; try intro _)) <;> ((try simp only [kA]); refine Zi ?_; refine rN ?_))))
   repeat' (first | refine zW ?_ | intro _)
   exact qE ⟨rfl, rfl, rfl⟩
 ·have hk2 : k = n := by omega
  subst hk2
  rw [hok, Bool.and_true]
  by_cases h2 : 1 < k
  ·by_cases h4 : k ≤ 4
   ·rw [decide_eq_true h4, decide_eq_true h2]
    repeat' (first | refine zW ?_ | intro _)
    exact qE ⟨rfl, rfl, rfl⟩
   ·rw [decide_eq_false h4, Bool.and_false]
    repeat' (first | refine zW ?_ | intro _)
    exact qE ⟨rfl, rfl, rfl⟩
  ·rw [decide_eq_false h2, Bool.false_and]
   repeat' (first | refine zW ?_ | intro _)
   exact qE ⟨rfl, rfl, rfl⟩
theorem right_spec (ρ : Hp) (v : CV) (c : Yi) (h : CIn ρ v c.rows c.kids) (hir : ∀ r ∈ c.rows, r.id < 65536) (hik : ∀ k ∈ c.kids, k.id < 65536) : Spec Tryz.prog 118 [.agg ⟨Xo c.kind v⟩] ρ [] (fun r ρ' L' => r = .bool (ZB c) ∧ ρ' = ρ ∧ L' = []) := by
 obtain ⟨kind, rows, kids⟩ := c
 obtain ⟨ra, rn, rc, ka, kn, kc⟩ := v
 obtain ⟨hr, hk, hrb, hkb, hrc, hkc⟩ := h
 dsimp only at hr hk hrb hkb hrc hkc hir hik
 have hrl := hr.len
 have hkl := hk.len
 have hrs := rowsR_spec ρ ra rn rc rows hr hrb hir
 have hks := kidsR_spec ρ ka kn kc kids hk hkb hkc hik
 generalize hq : ZB ⟨kind, rows, kids⟩ = q
 unfold ZB at hq
 simp only [hrl, hkl] at hq
 refine Za Tryz.func118 rfl rfl rfl fun u R => ?_
 simp only [Zg, kA]
 by_cases k0 : kind = 0
 ·rw [if_pos k0] at hq
  by_cases hz : rn = 0
  ·by_cases hz2 : kn = 0
   ·rw [decide_eq_true (show rn + kn = 0 by omega)] at hq
    subst hq
    repeat' (first | refine zW ?_ | intro _)
    exact qE ⟨rfl, rfl, rfl⟩
   ·rw [decide_eq_false (show ¬ rn + kn = 0 by omega)] at hq
    subst hq
    repeat' (first | refine zW ?_ | intro _)
    exact qE ⟨rfl, rfl, rfl⟩
  ·rw [decide_eq_false (show ¬ rn + kn = 0 by omega)] at hq
   subst hq
   repeat' (first | refine zW ?_ | intro _)
   exact qE ⟨rfl, rfl, rfl⟩
 ·rw [if_neg k0] at hq
  by_cases k1 : kind = 1
  ·rw [if_pos k1] at hq
   by_cases hz : kn = 0
   ·rw [decide_eq_true hz, Bool.true_and] at hq
    rw [hq] at hrs
    repeat' (first | (refine Zb (.func 193) ?_; refine qR rfl rfl (hrs) ?_; try simp only [kA]) | refine zW ?_ | intro _)
    exact qE ⟨rfl, rfl, rfl⟩
   ·rw [decide_eq_false hz, Bool.false_and] at hq
    subst hq
    repeat' (first | refine zW ?_ | intro _)
    exact qE ⟨rfl, rfl, rfl⟩
  ·rw [if_neg k1] at hq
   by_cases k2 : kind = 2
   ·rw [if_pos k2] at hq
    by_cases hz : rn = 0
    ·rw [decide_eq_true hz, Bool.true_and] at hq
     rw [hq] at hks
     repeat' (first | (refine Zb (.func 194) ?_; refine qR rfl rfl (hks) ?_; try simp only [kA]) | refine zW ?_ | intro _)
     exact qE ⟨rfl, rfl, rfl⟩
    ·rw [decide_eq_false hz, Bool.false_and] at hq
     subst hq
     repeat' (first | refine zW ?_ | intro _)
     exact qE ⟨rfl, rfl, rfl⟩
   ·rw [if_neg k2] at hq
    subst hq
    repeat' (first | refine zW ?_ | intro _)
    exact qE ⟨rfl, rfl, rfl⟩
end Go.Proofs.E
namespace Go.Proofs.E
open Go
set_option linter.unusedVariables false
set_option linter.unusedSimpArgs false
set_option linter.unusedSectionVars false
set_option maxRecDepth 4000
set_option maxHeartbeats 1000000
attribute [local irreducible] Yl TL TC TE Spec ZK R1 Hp.le EnvLe TS TR YS Zp
abbrev ShD := Sh
abbrev shV (s : Sh) : List Value := sheV s
def WF (x : Im) : ShD := ⟨x.page, x.av, x.a⟩
def Wv (d : List CkP) (r : Rc) : List Im := r.ims.filter (fun x => needsB d r x.page)
def redoL (f : Int → Nat) (d : List CkP) (r : Rc) : List Im := (Wv d r).filter (fun x => decide (f x.page < r.lsn))
abbrev dC (b : Nat) (s : SV) : List (Nat × Obj) := [(b, .cells ⟨[.slice s.a s.n s.c]⟩ 37 (0, 0))]
theorem filt_pre {α : Type} (q : α → Bool) (l : List α) {k : Nat} (hk : k < l.length) (hq : q l[k] = true) : ((l.take k).filter q ++ [l[k]]) <+: l.filter q ∧ (l.take (k + 1)).filter q = (l.take k).filter q ++ [l[k]] := by
 have e : (l.take (k + 1)).filter q = (l.take k).filter q ++ [l[k]] := by
  rw [List.take_succ_eq_append_getElem hk, List.filter_append]
  congr 1
  simp [hq]
 refine ⟨?_, e⟩
 rw [← e]
 exact ⟨(l.drop (k + 1)).filter q, by rw [← List.filter_append, List.take_append_drop]⟩
theorem filt_no {α : Type} (q : α → Bool) (l : List α) {k : Nat} (hk : k < l.length) (hq : q l[k] = false) : (l.take (k + 1)).filter q = (l.take k).filter q := by
 rw [List.take_succ_eq_append_getElem hk, List.filter_append]
 simp [hq]
theorem needed24_iter (ρ0 : Hp) (xb db : Nat) (s : SV) (d : List CkP) (hd : AS ρ0 2 YN s d) (v : RV) (r : Rc) (h : RcIn ρ0 v r) : Iter Tryz.prog 277 [] [.pointer (some ⟨xb, 0, none⟩), .pointer (some ⟨db, 0, none⟩)] (fun x : Im => [.agg ⟨shV (WF x)⟩]) ρ0 [recC xb v r, dC db s] (Wv d r) := by
 intro l J Jx hY ρ Lj hl0 hJ
 have li := h.i.at'.len
 have bi := h.i.big
 refine Za Tryz.func277 rfl rfl rfl fun u R => ?_
 simp only [Zg, kA, List.append_assoc]
 repeat' (first | refine zV ?_ | intro _)
 refine Zl [(0, _), (1, _), (2, _), (7, _), (8, _)] (fun (ζ : (Nat) × (Hp) × (SH)) => [(9, .int .i64 ζ.1)]) (fun (ζ : (Nat) × (Hp) × (SH)) => ζ.2.1) (fun (ζ : (Nat) × (Hp) × (SH)) => recC xb v r :: dC db s :: ζ.2.2) (fun (ζ : (Nat) × (Hp) × (SH)) => ζ.1 ≤ v.i.n ∧ ρ.le ζ.2.1 ∧ J ((r.ims.take ζ.1).filter (fun x => needsB d r x.page)) ζ.2.1 ζ.2.2) (fun (ζ : (Nat) × (Hp) × (SH)) => v.i.n - ζ.1) ((0, ρ, Lj)) (⟨Nat.zero_le _, Hp.le_refl _, hJ⟩) Zc Zc rfl tk ?_
 rintro ⟨k, ρ1, L1⟩ hI
 try simp only [kA, List.append_assoc] at hI ⊢
 try dsimp only at hI ⊢
 obtain ⟨hk, hle1, hj⟩ := hI
 by_cases hlt : k < v.i.n
 ·have hl1 := Hp.le_trans hl0 hle1
  obtain ⟨b, off, C, T, fr, e1, hb, hfit, hc⟩ := (h.i.at'.mono hl1).get (show k < r.ims.length by omega)
  have hyes := filt_pre (fun x : Im => needsB d r x.page) r.ims (show k < r.ims.length by omega)
  have hno := filt_no (fun x : Im => needsB d r x.page) r.ims (show k < r.ims.length by omega)
  generalize r.ims[k]'(by omega) = x at *
  have hne := needs_spec ρ1 s d (hd.mono hl1) v r (h.mono hl1) x.page
  rw [e1]
  cases hq : needsB d r x.page
  ·rw [hq] at hne
   have hts := hno hq
   clear hyes hno
   repeat' (first | (refine Zb (.func 278) ?_; refine qC rfl rfl (hne) ?_; rintro v ρ' L' hle ⟨rfl, rfl, rfl⟩ <;> (try simp only [kA])) | refine zV ?_ | intro _)
   rw [← e1]
   refine Zf (k + 1, ρ', L1) (⟨hlt, hle1, by dsimp only; rw [hts]; exact hj⟩) Zc Zc rfl tk inferInstance (by first | omega | (dsimp only; omega))
  ·rw [hq] at hne
   obtain ⟨hpre, hts⟩ := hyes hq
   clear hyes hno
   have hy := hY _ _ ρ1 L1 hpre hl1 hj
   repeat' (first | (refine Zb (.func 278) ?_; refine qC rfl rfl (hne) ?_; rintro v ρ' L' hle ⟨rfl, rfl, rfl⟩ <;> (try simp only [kA])) | (refine Zb (.tmp 19) ?_; refine qY rfl rfl (hy) ?_; rintro v ρ' L' hle ⟨Lj', rfl, ⟨rfl, hj'⟩ | ⟨rfl, hj'⟩⟩ <;> (try simp only [kA])) | refine zV ?_ | intro _)
   ·repeat' (first | refine zV ?_ | intro _)
    rw [← e1]
    refine Zf (k + 1, ρ', Lj') (⟨hlt, Hp.le_trans hle1 hle, by dsimp only; rw [hts]; exact hj'⟩) Zc Zc rfl tk inferInstance (by first | omega | (dsimp only; omega))
   ·repeat' (first | refine zV ?_ | intro _)
    exact qE (L' := recC xb v r :: dC db s :: Lj') ⟨Lj', rfl, .inr hj'⟩
 ·have hk2 : k = r.ims.length := by omega
  rw [hk2, List.take_length] at hj
  repeat' (first | refine zV ?_ | intro _)
  exact qE (L' := recC xb v r :: dC db s :: L1) ⟨L1, rfl, .inl hj⟩
theorem needed24_spec (ρ : Hp) (s : SV) (v : RV) (r : Rc) : Spec Tryz.prog 200 [.slice s.a s.n s.c, .agg ⟨Xw v r⟩] ρ [] (fun z ρ' L' => ρ' = ρ ∧ ∃ xb db, z = .func (.func 277) ⟨[]⟩ ⟨[.pointer (some ⟨xb, 0, none⟩), .pointer (some ⟨db, 0, none⟩)]⟩ ∧ L' = [recC xb v r, dC db s]) := by
 refine Za Tryz.func200 rfl rfl rfl fun u R => ?_
 simp only [Zg, kA]
 repeat' (first | refine zV ?_ | intro _)
 rename_i db xb
 exact qE (L' := [recC xb v r, dC db s]) ⟨rfl, xb, db, rfl, rfl⟩
theorem shV_len (s : ShD) : (shV s).length = 4 := rfl
theorem sheetsJ_spec (ρ : Hp) (s : SV) (d : List CkP) (hd : AS ρ 2 YN s d) (v : RV) (r : Rc) (h : RcIn ρ v r) (F : Nat) [hFun : ZJ Tryz.prog F] (cs : List Value) (X : SH) (f : Int → Nat) (J : Hp → SH → Prop) (hJ0 : J ρ X) (hJm : ∀ {ρ1 ρ2 : Hp} {L : SH}, ρ1.le ρ2 → J ρ1 L → J ρ2 L)
  (hf : ∀ ρ2 X2, ρ.le ρ2 → J ρ2 X2 → ∀ x ∈ r.ims, Spec Tryz.prog F (.int .i64 x.page :: cs) ρ2 X2 (fun z ρ' L' => z = .tuple ⟨[.int .u64 (f x.page : Nat), .int .i64 0]⟩ ∧ ρ2.le ρ' ∧ J ρ' L')) :
  Spec Tryz.prog 121 [.slice s.a s.n s.c, .agg ⟨Xw v r⟩, .func (.func F) ⟨[]⟩ ⟨cs⟩] ρ X
   (fun z ρ' L' => ρ.le ρ' ∧ ∃ s2 : SV, z = .tuple ⟨[.slice s2.a s2.n s2.c, .int .i64 0]⟩ ∧ AS ρ' 4 shV s2 ((redoL f d r).map WF) ∧ J ρ' L') := by
 have li := h.i.at'.len
 have bi := h.i.big
 refine Za Tryz.func121 rfl rfl rfl fun u R => ?_
 simp only [Zg, kA]
 repeat' (first | (refine Zb (.func 200) ?_; refine qC rfl rfl (needed24_spec _ s v r) ?_; rintro v ρ' L' hle ⟨rfl, xb, db, rfl, rfl⟩ <;> (try simp only [kA])) | refine zV ?_ | intro _)
 rename_i rb fb ob eb
 have hI := needed24_iter ρ' xb db s d hd v r h
 generalize hq : (fun x : Im => decide (f x.page < r.lsn)) = q
 refine Vh (S := [recC xb v r, dC db s]) (L0 := [[(eb, .cells ⟨[.int .i64 0]⟩ 27 (0, 0))], [(ob, .cells ⟨[.slice none 0 0]⟩ 139 (0, 0))], [(fb, .cells ⟨[.func (.func F) ⟨[]⟩ ⟨cs⟩]⟩ 225 (0, 0))], recC rb v r, ZG (.slice none 0 0) [] [] 215] ++ X) (R := R) (R0 := [(eb, .cells ⟨[.int .i64 0]⟩ 27 (0, 0))] :: [(ob, .cells ⟨[.slice none 0 0]⟩ 139 (0, 0))] :: [(fb, .cells ⟨[.func (.func F) ⟨[]⟩ ⟨cs⟩]⟩ 225 (0, 0))] :: recC rb v r :: (X ++ R)) rfl rfl hI (Hp.le_refl _) (fun _ => rfl) rfl
  (fun pre ρ2 Lu => ρ'.le ρ2 ∧ ∃ v' sp X2, J ρ2 X2 ∧ OwnS v' (pre.filter q).length ((((pre.filter q).map WF).map shV).flatten) sp 4 ∧ Lu = [[(eb, .cells ⟨[.int .i64 0]⟩ 27 (0, 0))], [(ob, .cells ⟨[v']⟩ 139 (0, 0))], [(fb, .cells ⟨[.func (.func F) ⟨[]⟩ ⟨cs⟩]⟩ 225 (0, 0))], recC rb v r, ZG v' ((((pre.filter q).map WF).map shV).flatten) sp 215] ++ X2) (fun _ _ _ => False) ?k1 ?k2 ⟨Hp.le_refl _, _, [], X, hJ0, OwnS.nil 4, rfl⟩ ?round ?done ?stop
 case k1 => exact tk
 case k2 => exact tk
 case stop => rintro D0 c ρ' Lu _ hf; exact hf.elim
 case round =>
  rintro l tm r' pre y ρ2 Lu u R' hpre hle' ⟨hle2, v', sp, X2, hJ2, hown, rfl⟩ hr hrec
  simp only [envP, kA]
  have hlen := hpre.length_le
  have hlen2 : (Wv d r).length ≤ r.ims.length := List.length_filter_le _ _
  have hlen3 : (pre.filter q).length ≤ pre.length := List.length_filter_le _ _
  simp only [List.length_append, List.length_singleton] at hlen
  have hym : y ∈ r.ims := (List.mem_filter.1 (hpre.subset (by simp : y ∈ pre ++ [y]))).1
  have hfy := hf ρ2 X2 hle2 hJ2 y hym
  obtain ⟨va, vc, rfl, _⟩ := hown.slice
  repeat' (first | refine zV ?_ | intro _)
  refine ZH [(l, .loop r')] ?_
  refine te_begin rfl hr (fun r2 hbz hrec' => ?_)
  by_cases hlt : f y.page < r.lsn
  ·have hfl : (pre ++ [y]).filter q = pre.filter q ++ [y] := by rw [List.filter_append]; congr 1; simp [← hq, hlt]
   repeat' (first | (refine Zb (.tmp 18) ?_; refine qC rfl rfl hfy ?_; rintro z5 ρ5 X5 hle5 ⟨rfl, hl5, hJ5⟩; try simp only [kA]) | (refine Yx (css := [shV (WF y)]) (sz := 4) rfl rfl rfl rfl (by simp) (by simp) rfl (fun bs => ?_); simp only [List.flatten_cons, List.flatten_nil, List.append_nil]) | (refine Yv (ys := shV (WF y)) (m := 1) rfl rfl hown (hR := by repeat (first | exact Zz | apply ZE | apply rem_app')) SrcV.lit rfl rfl (by decide) rfl (by omega) (by omega) rfl (fun v3 sp3 hown3 => ?_); obtain ⟨va3, vc3, rfl, _⟩ := hown3.slice) | refine zV ?_ | intro _)
   have hm : ((((pre.filter q).map WF).map shV).flatten) ++ shV (WF y) = (((((pre ++ [y]).filter q).map WF).map shV).flatten) := by rw [hfl]; simp
   have hln : (pre.filter q).length + 1 = ((pre ++ [y]).filter q).length := by rw [hfl]; simp
   rw [hm, hln] at hown3 ⊢
   refine ZH [(l, .loop r2)] ?_
   refine WH (Lu := [[(eb, .cells ⟨[.int .i64 0]⟩ 27 (0, 0))], [(ob, .cells ⟨[.slice va3 ((pre ++ [y]).filter q).length vc3]⟩ 139 (0, 0))], [(fb, .cells ⟨[.func (.func F) ⟨[]⟩ ⟨cs⟩]⟩ 225 (0, 0))], recC rb v r, ZG (.slice va3 ((pre ++ [y]).filter q).length vc3) (((((pre ++ [y]).filter q).map WF).map shV).flatten) sp3 215] ++ X5) rfl hl5 ⟨hrec'.tmps.trans hrec.tmps, hrec'.params.trans hrec.params, hrec'.assign.trans hrec.assign, hrec'.body.trans hrec.body⟩ tk tk inferInstance ?_
   exact ⟨Hp.le_trans hle2 hl5, _, sp3, X5, hJ5, hown3, rfl⟩
  ·have hfl : (pre ++ [y]).filter q = pre.filter q := by rw [List.filter_append]; simp [← hq, hlt]
   repeat' (first | (refine Zb (.tmp 18) ?_; refine qC rfl rfl hfy ?_; rintro z5 ρ5 X5 hle5 ⟨rfl, hl5, hJ5⟩; try simp only [kA]) | refine zV ?_ | intro _)
   refine ZH [(l, .loop r2)] ?_
   refine WH (Lu := [[(eb, .cells ⟨[.int .i64 0]⟩ 27 (0, 0))], [(ob, .cells ⟨[.slice va (pre.filter q).length vc]⟩ 139 (0, 0))], [(fb, .cells ⟨[.func (.func F) ⟨[]⟩ ⟨cs⟩]⟩ 225 (0, 0))], recC rb v r, ZG (.slice va (pre.filter q).length vc) ((((pre.filter q).map WF).map shV).flatten) sp 215] ++ X5) rfl hl5 ⟨hrec'.tmps.trans hrec.tmps, hrec'.params.trans hrec.params, hrec'.assign.trans hrec.assign, hrec'.body.trans hrec.body⟩ tk tk inferInstance ?_
   exact ⟨Hp.le_trans hle2 hl5, _, sp, X5, hJ5, by rw [hfl]; exact hown, by rw [hfl]; rfl⟩
 case done =>
  rintro D0 ρ2 Lu hle' ⟨hle2, v', sp, X2, hJ2, hown, rfl⟩
  simp only [kA]
  have hlen2 : (Wv d r).length ≤ r.ims.length := List.length_filter_le _ _
  have hlen3 : ((Wv d r).filter q).length ≤ (Wv d r).length := List.length_filter_le _ _
  have hL : (redoL f d r).map WF = ((Wv d r).filter q).map WF := by rw [← hq]; rfl
  rw [hL]
  obtain ⟨a', cap', rfl, hvl⟩ := hown.slice
  refine YG (ZG (.slice a' ((Wv d r).filter q).length cap') (((((Wv d r).filter q).map WF).map shV).flatten) sp 215) (fun ρ3 hle3 hfz => ?_)
  obtain ⟨sa, sc, f1, hsc, hS⟩ := hown.aIn (by simp) (fun x _ => shV_len x) hfz
  cases f1
  repeat' (first | refine zV ?_ | intro _)
  exact XD rfl rfl rfl inferInstance (res2 rfl (ZW rfl) (ZW rfl)) (Hp.le_trans hle2 hle3) tk (by infer_instance) (L' := X2) ⟨Hp.le_trans hle2 hle3, ⟨a', _, cap'⟩, rfl, ⟨hS, by dsimp only; omega, hsc⟩, hJm hle3 hJ2⟩
theorem sheets_spec (ρ : Hp) (s : SV) (d : List CkP) (hd : AS ρ 2 YN s d) (v : RV) (r : Rc) (h : RcIn ρ v r) (F : Nat) [hFun : ZJ Tryz.prog F] (cs : List Value) (X : SH) (f : Int → Nat)
  (hf : ∀ ρ2, ρ.le ρ2 → ∀ x ∈ r.ims, Spec Tryz.prog F (.int .i64 x.page :: cs) ρ2 X (fun z ρ' L' => z = .tuple ⟨[.int .u64 (f x.page : Nat), .int .i64 0]⟩ ∧ ρ' = ρ2 ∧ L' = X)) :
  Spec Tryz.prog 121 [.slice s.a s.n s.c, .agg ⟨Xw v r⟩, .func (.func F) ⟨[]⟩ ⟨cs⟩] ρ X
   (fun z ρ' L' => ρ.le ρ' ∧ ∃ s2 : SV, z = .tuple ⟨[.slice s2.a s2.n s2.c, .int .i64 0]⟩ ∧ AS ρ' 4 shV s2 ((redoL f d r).map WF) ∧ L' = X) :=
 sheetsJ_spec ρ s d hd v r h F cs X f (fun _ L => L = X) rfl (fun _ h => h) (fun ρ2 X2 hl hX x hx => by
  subst hX
  exact (hf ρ2 hl x hx).mono (fun z ρ' L' _ ⟨q1, q2, q3⟩ => ⟨q1, by rw [q2]; exact Hp.le_refl _, q3⟩))
theorem cell_at4 {C : List Value} {i sz : Nat} {l : List Value} (h : (C.drop i).take sz = l) {d : Nat} {v : Value} (hd : l[d]? = some v) : C[i + d]? = some v := by
 have h1 : d < sz := by
  have := (List.getElem?_eq_some_iff.1 hd).1
  rw [← h, List.length_take] at this
  omega
 rw [← h, List.getElem?_take_of_lt h1, List.getElem?_drop] at hd
 exact hd
structure PgD where
 w : CV
 c : Yi
 lsn : Nat
abbrev pdV (p : PgD) : List Value := [.int .i64 p.c.kind, .slice p.w.ra p.w.rn p.w.rc, .slice p.w.ka p.w.kn p.w.kc, .int .u64 p.lsn]
abbrev lC (b : Nat) (a : Option Addr) (n c : Nat) : List (Nat × Obj) := [(b, .cells ⟨[.slice a n c]⟩ 83 (0, 0))]
def whyE (d : List CkP) (r : Rc) : Int := if Xh d then (if ZP r then 0 else 220) else 320
theorem why_spec (ρ : Hp) (s : SV) (d : List CkP) (hd : AS ρ 2 YN s d) (v : RV) (r : Rc) (h : RcIn ρ v r) : Spec Tryz.prog 120 [.slice s.a s.n s.c, .agg ⟨Xw v r⟩] ρ [] (fun z ρ' L' => z = .int .i64 (whyE d r) ∧ ρ' = ρ ∧ L' = []) := by
 have hck := ckcheck_spec ρ s d hd
 have hrc := rcheck_spec ρ v r h
 unfold whyE
 refine Za Tryz.func120 rfl rfl rfl fun u R => ?_
 simp only [Zg, kA]
 cases ht : Xh d
 ·rw [ht] at hck
  simp only [Bool.false_eq_true, if_false] at hck ⊢
  repeat' (first | (refine Zb (.func 58) ?_; refine qR rfl rfl (hck) ?_; try simp only [kA]) | refine zV ?_ | intro _)
  exact qE (L' := []) ⟨rfl, rfl, rfl⟩
 ·rw [ht] at hck
  simp only [if_true] at hck ⊢
  repeat' (first | (refine Zb (.func 58) ?_; refine qR rfl rfl (hck) ?_; try simp only [kA]) | (refine Zb (.func 139) ?_; refine qR rfl rfl (hrc) ?_; try simp only [kA]) | refine zV ?_ | intro _)
  exact qE (L' := []) ⟨rfl, rfl, rfl⟩
theorem lsn1_own (ρ : Hp) (lb b n c : Nat) (cs : List Value) (page : Int) (m : Nat) (h0 : 0 ≤ page) (hp : page < n) (hm : cs[0 + page.toNat * 4 + 3]? = some (.int .u64 m)) :
  Spec Tryz.prog 192 [.int .i64 page, .pointer (some ⟨lb, 0, none⟩)] ρ [lC lb (some ⟨b, 0, none⟩) n c, [(b, .cells ⟨cs⟩ 114 (0, 0))]] (fun z ρ' L' => z = .tuple ⟨[.int .u64 m, .int .i64 0]⟩ ∧ ρ' = ρ ∧ L' = [lC lb (some ⟨b, 0, none⟩) n c, [(b, .cells ⟨cs⟩ 114 (0, 0))]]) := by
 refine Za Tryz.func192 rfl rfl rfl fun u R => ?_
 simp only [Zg, kA]
 repeat' (first | refine zV ?_ | intro _)
 exact qE (L' := [lC lb (some ⟨b, 0, none⟩) n c, [(b, .cells ⟨cs⟩ 114 (0, 0))]]) ⟨rfl, rfl, rfl⟩
def shE (d : List CkP) (r : Rc) (n : Nat) : Int := if whyE d r ≠ 0 then whyE d r else if n ≠ 64 then 2 else 0
theorem AS.nilS {α : Type} {ρ : Hp} {sz : Nat} {g : α → List Value} : AS ρ sz g nilS ([] : List α) := ⟨AIn.nil, Nat.zero_le _, Nat.le_refl _⟩
theorem rsheets_spec (ρ : Hp) (a : Option Addr) (n c : Nat) (s : SV) (d : List CkP) (hd : AS ρ 2 YN s d) (v : RV) (r : Rc) (h : RcIn ρ v r) (X : SH) (f : Int → Nat)
  (hf : whyE d r = 0 → n = 64 → ∀ lb ρ2, ρ.le ρ2 → ∀ x ∈ r.ims, Spec Tryz.prog 192 [.int .i64 x.page, .pointer (some ⟨lb, 0, none⟩)] ρ2 (lC lb a n c :: X) (fun z ρ' L' => z = .tuple ⟨[.int .u64 (f x.page : Nat), .int .i64 0]⟩ ∧ ρ' = ρ2 ∧ L' = lC lb a n c :: X)) :
  Spec Tryz.prog 116 [.slice a n c, .slice s.a s.n s.c, .agg ⟨Xw v r⟩] ρ X
   (fun z ρ' L' => ρ.le ρ' ∧ ∃ s2 : SV, z = .tuple ⟨[.slice s2.a s2.n s2.c, .int .i64 (shE d r n)]⟩ ∧ AS ρ' 4 shV s2 (if shE d r n = 0 then (redoL f d r).map WF else []) ∧ L' = X) := by
 have hwy := why_spec ρ s d hd v r h
 unfold shE
 by_cases hw : whyE d r = 0
 ·rw [hw] at hwy
  simp only [hw, ne_eq, not_true_eq_false, if_false]
  by_cases hn : n = 64
  ·subst hn
   simp only [not_true_eq_false, if_false, if_true]
   have hsh := fun lb => sheets_spec ρ s d hd v r h 192 [.pointer (some ⟨lb, 0, none⟩)] (lC lb a 64 c :: X) f (hf hw rfl lb)
   refine Za Tryz.func116 rfl rfl rfl fun u R => ?_
   simp only [Zg, kA]
   repeat' (first | (refine Zb (.func 120) ?_; refine qR rfl rfl (hwy) ?_; try simp only [kA]) | (refine Zb (.func 121) ?_; refine qC rfl rfl (hsh _) ?_; rintro v ρ' L' hle ⟨hz1, s2, rfl, hs2, rfl⟩ <;> (try simp only [kA])) | refine zV ?_ | intro _)
   exact qE (L' := X) ⟨hz1, s2, rfl, hs2, rfl⟩
  ·simp only [hn, not_false_eq_true, if_true]
   refine Za Tryz.func116 rfl rfl rfl fun u R => ?_
   simp only [Zg, kA]
   repeat' (first | (refine Zb (.func 120) ?_; refine qR rfl rfl (hwy) ?_; try simp only [kA]) | refine zV ?_ | intro _)
   exact qE (L' := X) ⟨Hp.le_refl _, nilS, rfl, by rw [if_neg (by decide)]; exact AS.nilS, rfl⟩
 ·simp only [hw, ne_eq, not_false_eq_true, if_true, if_false]
  generalize whyE d r = e at *
  refine Za Tryz.func116 rfl rfl rfl fun u R => ?_
  simp only [Zg, kA]
  repeat' (first | (refine Zb (.func 120) ?_; refine qR rfl rfl (hwy) ?_; try simp only [kA]) | refine zV ?_ | intro _)
  exact qE (L' := X) ⟨Hp.le_refl _, nilS, rfl, AS.nilS, rfl⟩
theorem rpage12_spec (ρ : Hp) (n : Int) : Spec Tryz.prog 166 [.int .i64 n] ρ [] (fun v ρ' L' => v = .bool (pageOk n) ∧ ρ' = ρ ∧ L' = []) := by
 refine Za Tryz.func166 rfl rfl rfl fun u R => ?_
 simp only [Zg, kA]
 repeat' (first | refine zV ?_ | (refine Wu ?_; refine ZT rfl rfl (fun hb => ?_) (fun hb => ?_) <;> (try simp only [decide_eq_true_eq, decide_eq_false_iff_not, Bool.not_eq_true, Bool.not_eq_false, beq_iff_eq, bne_iff_ne, ne_eq, decide_eq_decide, Bool.not_eq_eq_eq_not, Bool.not_true, Bool.not_false, beq_eq_false_iff_ne, bne_eq_false_iff_eq, Bool.and_eq_true, Bool.or_eq_true, Bool.and_eq_false_imp, Bool.or_eq_false_iff, bq2, bqt, bqf] at hb)) | (refine YB ?_; refine Yd rfl (fun hb => ?_) (fun hb => ?_) <;> (try simp only [decide_eq_true_eq, decide_eq_false_iff_not, Bool.not_eq_true, Bool.not_eq_false, beq_iff_eq, bne_iff_ne, ne_eq, decide_eq_decide, Bool.not_eq_eq_eq_not, Bool.not_true, Bool.not_false, beq_eq_false_iff_ne, bne_eq_false_iff_eq, Bool.and_eq_true, Bool.or_eq_true, Bool.and_eq_false_imp, Bool.or_eq_false_iff, bq2, bqt, bqf] at hb)) | intro _)
 all_goals (refine qF (L' := []) ?_; exact ⟨Xc (by simp [pageOk]; (try omega)), rfl, rfl⟩)
theorem step12_spec (ρ : Hp) (s : Stp) (hf : WU s.row) : Spec Tryz.prog 167 [.agg ⟨stpV s⟩] ρ [] (fun v ρ' L' => v = .bool (YV s) ∧ ρ' = ρ ∧ L' = []) := by
 obtain ⟨kind, row, bb⟩ := s
 have hck := WC ρ row
 have ho := rowV_only row
 unfold YV onlyOk
 dsimp only
 generalize hP : decide (row.val = 0 ∧ row.note = []) = P at *
 generalize hQ : Xq row = Q at *
 refine Za Tryz.func167 rfl rfl rfl fun u R => ?_
 simp only [Zg, kA]
 cases P <;> cases Q
 all_goals (repeat' (first | (refine iBu ?_; refine tl_y (v := .agg ⟨Yu ⟨row.t, row.id, 0, []⟩⟩) (Vj rfl rfl) rfl rfl ?_) | (refine iCm ?_; refine tl_y (y_eqc_l rfl rfl ho) rfl rfl ?_) | (refine Zb (.func 237) ?_; refine qR rfl rfl (hck) ?_; try simp only [kA]) | refine zV ?_ | (refine Wu ?_; refine ZT rfl rfl (fun hb => ?_) (fun hb => ?_) <;> (try simp only [decide_eq_true_eq, decide_eq_false_iff_not, Bool.not_eq_true, Bool.not_eq_false, beq_iff_eq, bne_iff_ne, ne_eq, decide_eq_decide, Bool.not_eq_eq_eq_not, Bool.not_true, Bool.not_false, beq_eq_false_iff_ne, bne_eq_false_iff_eq, Bool.and_eq_true, Bool.or_eq_true, Bool.and_eq_false_imp, Bool.or_eq_false_iff, bq2, bqt, bqf] at hb)) | (refine YB ?_; refine Yd rfl (fun hb => ?_) (fun hb => ?_) <;> (try simp only [decide_eq_true_eq, decide_eq_false_iff_not, Bool.not_eq_true, Bool.not_eq_false, beq_iff_eq, bne_iff_ne, ne_eq, decide_eq_decide, Bool.not_eq_eq_eq_not, Bool.not_true, Bool.not_false, beq_eq_false_iff_ne, bne_eq_false_iff_eq, Bool.and_eq_true, Bool.or_eq_true, Bool.and_eq_false_imp, Bool.or_eq_false_iff, bq2, bqt, bqf] at hb)) | intro _))
 all_goals (refine qF (L' := []) ?_; exact ⟨Xc (by clear ho hck; (repeat' split) <;> simp_all <;> omega), rfl, rfl⟩)
theorem steps12_spec (ρ : Hp) (s : SV) (l : List Stp) (h : AS ρ 6 stpV s l) (hf : ∀ x ∈ l, WU x.row) : Spec Tryz.prog 79 [.slice s.a s.n s.c] ρ [] (fun v ρ' L' => v = .bool (decide (0 < l.length ∧ l.length ≤ 2) && l.all YV) ∧ ρ' = ρ ∧ L' = []) := by
 have hl := h.at'.len
 have hn := h.big
 have hA := h.at'
 rw [hl]
 generalize hq : l.all YV = q
 refine Za Tryz.func79 rfl rfl rfl fun u R => ?_
 simp only [Zg, kA]
 repeat' (first | refine zV ?_ | intro _)
 refine Zl [(0, _), (5, _), (6, _)] (fun (ζ : (Nat)) => [(7, .int .i64 ζ), (2, .bool false)]) (fun (ζ : (Nat)) => ρ) (fun (ζ : (Nat)) => []) (fun (ζ : (Nat)) => ζ ≤ s.n ∧ (l.drop ζ).all YV = q) (fun (ζ : (Nat)) => s.n - ζ) (0) (⟨Nat.zero_le _, hq⟩) Zc Zc rfl tk ?_
 rintro k hI
 try simp only [kA, List.append_assoc] at hI ⊢
 try dsimp only at hI ⊢
 obtain ⟨hk, hok⟩ := hI
 by_cases hlt : k < s.n
 ·obtain ⟨b, off, C, T, fr, e1, hb, hfit, hc⟩ := hA.get (show k < l.length by omega)
  have hmem := List.getElem_mem (show k < l.length by omega)
  rw [List.drop_eq_getElem_cons (show k < l.length by omega), List.all_cons] at hok
  generalize l[k]'(by omega) = x at *
  have hst := step12_spec ρ x (hf x hmem)
  rw [e1]
  cases hx : YV x
  ·rw [hx, Bool.false_and] at hok
   rw [hx] at hst
   subst hok
   rw [Bool.and_false]
   repeat' (first | (refine Zb (.func 167) ?_; refine qR rfl rfl (hst) ?_; try simp only [kA]) | refine zV ?_ | intro _)
   exact qE (L' := []) ⟨rfl, rfl, rfl⟩
  ·rw [hx, Bool.true_and] at hok
   rw [hx] at hst
   repeat' (first | (refine Zb (.func 167) ?_; refine qR rfl rfl (hst) ?_; try simp only [kA]) | refine zV ?_ | intro _)
   rw [← e1]
   refine Zf (k + 1) (⟨hlt, hok⟩) Zc Zc rfl tk inferInstance (by first | omega | (dsimp only; omega))
 ·have hk2 : k = l.length := by omega
  rw [hk2, List.drop_length, List.all_nil] at hok
  subst hok
  rw [Bool.and_true]
  repeat' (first | refine zV ?_ | (refine Wu ?_; refine ZT rfl rfl (fun hb => ?_) (fun hb => ?_) <;> (try simp only [decide_eq_true_eq, decide_eq_false_iff_not, Bool.not_eq_true, Bool.not_eq_false, beq_iff_eq, bne_iff_ne, ne_eq, decide_eq_decide, Bool.not_eq_eq_eq_not, Bool.not_true, Bool.not_false, beq_eq_false_iff_ne, bne_eq_false_iff_eq, Bool.and_eq_true, Bool.or_eq_true, Bool.and_eq_false_imp, Bool.or_eq_false_iff, bq2, bqt, bqf] at hb)) | (refine YB ?_; refine Yd rfl (fun hb => ?_) (fun hb => ?_) <;> (try simp only [decide_eq_true_eq, decide_eq_false_iff_not, Bool.not_eq_true, Bool.not_eq_false, beq_iff_eq, bne_iff_ne, ne_eq, decide_eq_decide, Bool.not_eq_eq_eq_not, Bool.not_true, Bool.not_false, beq_eq_false_iff_ne, bne_eq_false_iff_eq, Bool.and_eq_true, Bool.or_eq_true, Bool.and_eq_false_imp, Bool.or_eq_false_iff, bq2, bqt, bqf] at hb)) | intro _)
  all_goals (refine qF (L' := []) ?_; exact ⟨Xc (by (try simp [*]); first | done | omega | (intros; omega) | (constructor <;> intros <;> (try simp_all) <;> omega)), rfl, rfl⟩)
end Go.Proofs.E
