/- Laws of analysis. Part 15 of 41. -/
import Derived.Test.YtkbiahafeoillaaGreatA14
namespace Go.Proofs.E
open Go
set_option linter.unusedVariables false
set_option linter.unusedSimpArgs false
set_option linter.unusedSectionVars false
set_option maxRecDepth 4000
set_option maxHeartbeats 1000000
attribute [local irreducible] Yl TL TC TE Spec Xb R1 Hp.le EnvLe TS TR YS Zk
theorem redoes12_spec (ρ : Hp) (v : RV) (r : Rc) (h : RcIn ρ v r) (page : Int) : Spec Tryz.prog 157 [.agg ⟨Yx v r⟩, .int .i64 page] ρ []
  (fun z ρ' L' => z = .tuple ⟨[.agg ⟨contO (r.ims.find? (fun x => decide (x.page = page)))⟩, .bool (r.ims.find? (fun x => decide (x.page = page))).isSome]⟩ ∧ ρ' = ρ ∧ L' = []) := by
 have hl := h.i.at'.len
 have hn := h.i.big
 have hA := h.i.at'
 generalize hq : r.ims.find? (fun x => decide (x.page = page)) = q
 refine Zd Tryz.func157 rfl rfl rfl fun u R => ?_
 simp only [Zo, List.cons_append, List.nil_append]
 repeat' (first | refine zV ?_ | intro _)
 rename_i b2 b4
 refine Zq [(1, _), (4, _), (9, _), (10, _)] (fun (ζ : (Nat)) => [(11, .int .i64 ζ), (5, .bool false)]) (fun (ζ : (Nat)) => ρ) (fun (ζ : (Nat)) => [[(b4, .cells ⟨[.int .i64 0, .slice none 0 0, .slice none 0 0]⟩ 98 (0, 0))]]) (fun (ζ : (Nat)) => ζ ≤ v.i.n ∧ (r.ims.drop ζ).find? (fun x => decide (x.page = page)) = q) (fun (ζ : (Nat)) => v.i.n - ζ) (0) (⟨Nat.zero_le _, hq⟩) Ze Ze rfl tk ?_
 rintro k hI
 try simp only [List.cons_append, List.nil_append, List.append_assoc, List.append_eq] at hI ⊢
 try dsimp only at hI ⊢
 obtain ⟨hk, hok⟩ := hI
 by_cases hlt : k < v.i.n
 ·obtain ⟨b, off, C, T, fr, e1, hb, hfit, hc⟩ := hA.get (show k < r.ims.length by omega)
  rw [List.drop_eq_getElem_cons (show k < r.ims.length by omega), List.find?_cons] at hok
  generalize r.ims[k]'(by omega) = x at *
  rw [e1]
  by_cases hx : x.page = page
  ·rw [decide_eq_true hx] at hok
   subst hok
   repeat' (first | refine zV ?_ | intro _)
   exact qE (L' := []) ⟨rfl, rfl, rfl⟩
  ·rw [decide_eq_false hx] at hok
   repeat' (first | refine zV ?_ | intro _)
   rw [← e1]
   refine Zg (k + 1) (⟨hlt, hok⟩) Ze Ze rfl tk inferInstance (by first | omega | (dsimp only; omega))
 ·have hk2 : k = r.ims.length := by omega
  rw [hk2, List.drop_length, List.find?_nil] at hok
  subst hok
  repeat' (first | refine zV ?_ | intro _)
  exact qE (L' := []) ⟨rfl, rfl, rfl⟩
def recN (page : Int) (l : List Yq) : Nat := match recP page l with | some p => p.since | none => 0
theorem rec22_spec (ρ : Hp) (s : SV) (l : List Yq) (h : AS ρ 2 YG s l) (page : Int) : Spec Tryz.prog 158 [.slice s.a s.n s.c, .int .i64 page] ρ [] (fun z ρ' L' => z = .int .u64 (recN page l) ∧ ρ' = ρ ∧ L' = []) := by
 have hl := h.at'.len
 have hn := h.big
 have hA := h.at'
 unfold recN recP
 generalize hq : l.find? (fun p => decide (p.page = page)) = q
 refine Zd Tryz.func158 rfl rfl rfl fun u R => ?_
 simp only [Zo, List.cons_append, List.nil_append]
 repeat' (first | refine zV ?_ | intro _)
 refine Zq [(1, _), (7, _), (8, _)] (fun (ζ : (Nat)) => [(9, .int .i64 ζ), (4, .int .u64 0)]) (fun (ζ : (Nat)) => ρ) (fun (ζ : (Nat)) => []) (fun (ζ : (Nat)) => ζ ≤ s.n ∧ (l.drop ζ).find? (fun p => decide (p.page = page)) = q) (fun (ζ : (Nat)) => s.n - ζ) (0) (⟨Nat.zero_le _, hq⟩) Ze Ze rfl tk ?_
 rintro k hI
 try simp only [List.cons_append, List.nil_append, List.append_assoc, List.append_eq] at hI ⊢
 try dsimp only at hI ⊢
 obtain ⟨hk, hok⟩ := hI
 by_cases hlt : k < s.n
 ·obtain ⟨b, off, C, T, fr, e1, hb, hfit, hc⟩ := hA.get (show k < l.length by omega)
  rw [List.drop_eq_getElem_cons (show k < l.length by omega), List.find?_cons] at hok
  generalize l[k]'(by omega) = x at *
  rw [e1]
  by_cases hx : x.page = page
  ·rw [decide_eq_true hx] at hok
   subst hok
   repeat' (first | refine zV ?_ | intro _)
   exact qE (L' := []) ⟨rfl, rfl, rfl⟩
  ·rw [decide_eq_false hx] at hok
   repeat' (first | refine zV ?_ | intro _)
   rw [← e1]
   refine Zg (k + 1) (⟨hlt, hok⟩) Ze Ze rfl tk inferInstance (by first | omega | (dsimp only; omega))
 ·have hk2 : k = l.length := by omega
  rw [hk2, List.drop_length, List.find?_nil] at hok
  subst hok
  repeat' (first | refine zV ?_ | intro _)
  exact qE (L' := []) ⟨rfl, rfl, rfl⟩
def pRight (p : Yq) : Bool := decide (0 ≤ p.page ∧ p.page < 64 ∧ 1 ≤ p.since ∧ p.since ≤ 1099511627776)
theorem tblOk_up {l : List Yq} : Xs l = upB pRight Yq.page l l.length := by
 have key : ∀ (l : List Yq) (last : Int), tblB last l = true ↔ (∀ i (h : i < l.length), last < l[i].page ∧ l[i].page < 64 ∧ 1 ≤ l[i].since ∧ l[i].since ≤ 1099511627776) ∧ ∀ i (h : i < l.length), 0 < i → (l[i - 1]'(by omega)).page < l[i].page := by
  intro l
  induction l with
  | nil => intro last; simp [tblB]
  | cons p r ih =>
   intro last
   rw [tblB, Bool.and_eq_true, decide_eq_true_eq, ih p.page]
   constructor
   ·rintro ⟨h0, h1, h2⟩
    refine ⟨fun i hi => ?_, fun i hi h0i => ?_⟩
    ·cases i with
     | zero => exact h0
     | succ i => have := h1 i (by simpa using hi); simp only [List.getElem_cons_succ]; omega
    ·cases i with
     | zero => omega
     | succ i =>
      cases i with
      | zero => have := h1 0 (by simpa using hi); simpa using this.1
      | succ i => have := h2 (i + 1) (by simpa using hi) (by omega); simpa using this
   ·rintro ⟨h1, h2⟩
    have h0 := h1 0 (by simp)
    have hup : ∀ i (hi : i < r.length), p.page < r[i].page := by
     intro i hi
     induction i with
     | zero => have := h2 1 (by simp only [List.length_cons]; omega) (by omega); simpa using this
     | succ i ihi =>
      have e1 := ihi (by omega)
      have := h2 (i + 2) (by simp only [List.length_cons]; omega) (by omega)
      simp only [List.getElem_cons_succ, show i + 2 - 1 = i + 1 by omega] at this
      omega
    refine ⟨by simpa using h0, fun i hi => ?_, fun i hi h0i => ?_⟩
    ·have := h1 (i + 1) (by simp only [List.length_cons]; omega)
     simp only [List.getElem_cons_succ] at this
     exact ⟨hup i hi, this.2⟩
    ·have := h2 (i + 1) (by simp only [List.length_cons]; omega) (by omega)
     obtain ⟨j, rfl⟩ : ∃ j, i = j + 1 := ⟨i - 1, by omega⟩
     simpa using this
 have key2 : ∀ (k : Nat), k ≤ l.length → (ZC l.length (fun _ x => pRight x) (fun y x => decide (y.page < x.page)) l k = true ↔ (∀ i (h : i < l.length), i < k → pRight l[i] = true) ∧ ∀ i (h : i < l.length), i < k → 0 < i → (l[i - 1]'(by omega)).page < l[i].page) := by
  intro k
  induction k with
  | zero => intro _; rw [ZC]; simp
  | succ k ih =>
   intro hk
   rw [YK (show k < l.length by omega), Bool.and_eq_true, ih (by omega), Bool.and_eq_true]
   constructor
   ·rintro ⟨⟨h1, h2⟩, h3, h4⟩
    refine ⟨fun i hi hik => ?_, fun i hi hik h0 => ?_⟩
    ·by_cases e : i = k
     ·subst e; exact h3
     ·exact h1 i hi (by omega)
    ·by_cases e : i = k
     ·subst e
      rw [decide_eq_false (by omega), Bool.false_or, decide_eq_true_eq] at h4
      exact h4
     ·exact h2 i hi (by omega) h0
   ·rintro ⟨h1, h2⟩
    refine ⟨⟨fun i hi hik => h1 i hi (by omega), fun i hi hik h0 => h2 i hi (by omega) h0⟩, h1 k (by omega) (by omega), ?_⟩
    by_cases e : k = 0
    ·rw [decide_eq_true e, Bool.true_or]
    ·rw [decide_eq_false e, Bool.false_or, decide_eq_true_eq]
     exact h2 k (by omega) (by omega) (by omega)
 rw [Bool.eq_iff_iff]
 unfold Xs upB
 rw [key, key2 _ (Nat.le_refl _)]
 unfold pRight
 constructor
 ·rintro ⟨h1, h2⟩
  exact ⟨fun i hi _ => by have := h1 i hi; rw [decide_eq_true_eq]; omega, fun i hi _ h0 => h2 i hi h0⟩
 ·rintro ⟨h1, h2⟩
  refine ⟨fun i hi => ?_, fun i hi h0 => h2 i hi hi h0⟩
  have := h1 i hi hi
  rw [decide_eq_true_eq] at this
  omega
theorem right22_spec (ρ : Hp) (s : SV) (l : List Yq) (h : AS ρ 2 YG s l)   :
  Spec Tryz.prog 60 [.slice s.a s.n s.c] ρ [] (fun z ρ' L' => z = .bool (upB pRight Yq.page l l.length) ∧ ρ' = ρ ∧ L' = []) := by
 have hl := h.at'.len
 have hn := h.big
 have hA := h.at'
 generalize hR : pRight = rt
 unfold upB
 generalize hm : l.length = mo
 have hrt : ∀ x, rt x = pRight x := fun x => by rw [hR]
 refine Zd Tryz.func60 rfl rfl rfl fun u R => ?_
 simp only [Zo, List.cons_append, List.nil_append]
 repeat' (first | refine zV ?_ | intro _)
 refine Zq [(0, _), (5, _), (6, _)] (fun (ζ : (Nat)) => [(7, .int .i64 ζ), (2, .bool false)]) (fun (ζ : (Nat)) => ρ) (fun (ζ : (Nat)) => []) (fun (ζ : (Nat)) => ζ ≤ s.n ∧ ZC mo (fun _ x => rt x) (fun y x => decide (Yq.page y < Yq.page x)) l ζ = true) (fun (ζ : (Nat)) => s.n - ζ) (0) (⟨Nat.zero_le _, by rw [ZC]; simp [hm]⟩) Ze Ze rfl tk ?_
 rintro k hI
 try simp only [List.cons_append, List.nil_append, List.append_assoc, List.append_eq] at hI ⊢
 try dsimp only at hI ⊢
 obtain ⟨hk, hok⟩ := hI
 by_cases hlt : k < s.n
 ·obtain ⟨b, off, C, T, fr, e1, hb0, hfit, hc⟩ := hA.get (show k < l.length by omega)
  have hs := YK (most := mo) (right := fun _ x => rt x) (lt := fun y x => decide (Yq.page y < Yq.page x)) (show k < l.length by omega)
  have hfin0 := fun (e : ZC mo (fun _ x => rt x) (fun y x => decide (Yq.page y < Yq.page x)) l (k + 1) = false) => YF e (show k + 1 ≤ mo by omega)
  rw [hok, Bool.true_and] at hs
  have hw := hrt l[k]
  skip
  rw [e1]
  by_cases hk0 : k = 0
  ·have hfin : (rt l[k] && (decide (k = 0) || decide (Yq.page (l[k - 1]'(by omega)) < Yq.page l[k]))) = false → ZC mo (fun _ x => rt x) (fun y x => decide (Yq.page y < Yq.page x)) l mo = false := fun e => hfin0 (by rw [hs]; exact e)
   rw [decide_eq_true hk0, Bool.true_or, Bool.and_true] at hs hfin
   generalize l[k] = x at *
   unfold pRight at hw
   generalize hQQ : ZC mo (fun _ x => rt x) (fun y x => decide (Yq.page y < Yq.page x)) l mo = q at *
   clear hfin0 hrt hR
   repeat' (first | refine zV ?_ | intro _)
   refine Zu (Zk _ _ _) Zp ?_
   all_goals (refine ZN 0 ?_; refine Zz ?_; refine ZQ 1 ?_; refine rCm 2 ?_; refine Zx 3 ?_)
   all_goals (first | refine Zb 4 ?_ | refine Za 4 ?_ | refine ZE 4 ?_ | (refine Zn (t := 15) rfl (fun hb => ?_) (fun hb => ?_) <;> (try simp only [kk] at hb) <;> first | refine Zb 4 ?_ | refine Za 4 ?_ | refine ZE 4 ?_))
   all_goals ((first | refine Zb 5 ?_ | refine Za 5 ?_ | refine ZL 5 ?_); (first | refine Zb 6 ?_ | refine Za 6 ?_ | refine Yg 6 ?_); refine Yj 7 ?_; refine Zx 8 ?_)
   all_goals (first | refine Zb 9 ?_ | refine Za 9 ?_ | refine ZE 9 ?_ | (refine Zn (t := 20) rfl (fun hb => ?_) (fun hb => ?_) <;> (try simp only [kk] at hb) <;> first | refine Zb 9 ?_ | refine Za 9 ?_ | refine ZE 9 ?_))
   all_goals ((first | refine Zb 10 ?_ | refine Za 10 ?_ | refine ZL 10 ?_); (first | refine Zb 11 ?_ | refine Za 11 ?_ | refine Yg 11 ?_); refine Yj 12 ?_; refine Zx 13 ?_)
   all_goals (first | refine Zb 14 ?_ | refine Za 14 ?_ | refine ZE 14 ?_ | (refine Zn (t := 25) rfl (fun hb => ?_) (fun hb => ?_) <;> (try simp only [kk] at hb) <;> first | refine Zb 14 ?_ | refine Za 14 ?_ | refine ZE 14 ?_))
   all_goals ((first | refine Zb 15 ?_ | refine Za 15 ?_ | refine ZL 15 ?_); (first | refine Zb 16 ?_ | refine Za 16 ?_ | refine Yg 16 ?_); refine Yj 17 ?_; refine Zx 18 ?_)
   all_goals (first | refine Zb 19 ?_ | refine Za 19 ?_ | refine ZI 19 ?_ | (refine Zn (t := 30) rfl (fun hb => ?_) (fun hb => ?_) <;> (try simp only [kk] at hb) <;> first | refine Zb 19 ?_ | refine Za 19 ?_ | refine ZI 19 ?_))
   all_goals ((first | refine Zb 20 ?_ | refine Za 20 ?_ | refine Yg 20 ?_); (first | refine Zb 21 ?_ | refine Za 21 ?_ | refine ZI 21 ?_))
   all_goals (first | refine Zb 22 ?_ | refine Za 22 ?_ | refine ZI 22 ?_ | (refine Zn (t := 33) rfl (fun hb => ?_) (fun hb => ?_) <;> (try simp only [kk] at hb) <;> first | refine Zb 22 ?_ | refine Za 22 ?_ | refine ZI 22 ?_))
   all_goals ((first | refine Zb 23 ?_ | refine Za 23 ?_ | refine ZI 23 ?_); (first | refine Zb 24 ?_ | refine Za 24 ?_ | refine wSb 24 ?_); (first | refine Zb 25 ?_ | refine Za 25 ?_ | refine wIa 25 ?_); (first | refine Zb 26 ?_ | refine Za 26 ?_ | refine ZE 26 ?_); (first | refine Zb 27 ?_ | refine Za 27 ?_ | refine ZL 27 ?_); (first | refine Zb 28 ?_ | refine Za 28 ?_ | refine ZE 28 ?_); (first | refine Zb 29 ?_ | refine Za 29 ?_ | refine ZL 29 ?_); (first | refine Zb 30 ?_ | refine Za 30 ?_ | refine Yg 30 ?_); (first | refine Zb 31 ?_ | refine Za 31 ?_ | refine wPk 31 ?_); refine Yj 32 ?_; refine Zv ?_)
   all_goals (repeat' (first | refine zV ?_ | (refine YL ?_; refine ZB rfl rfl (fun hb => ?_) (fun hb => ?_) <;> (try simp only [decide_eq_true_eq, decide_eq_false_iff_not, Bool.not_eq_true, Bool.not_eq_false, beq_iff_eq, bne_iff_ne, ne_eq, decide_eq_decide, Bool.not_eq_eq_eq_not, Bool.not_true, Bool.not_false, beq_eq_false_iff_ne, bne_eq_false_iff_eq, Bool.and_eq_true, Bool.or_eq_true, Bool.and_eq_false_imp, Bool.or_eq_false_iff, bq2, bqt, bqf] at hb)) | (refine ZS ?_; refine ZM rfl (fun hb => ?_) (fun hb => ?_) <;> (try simp only [decide_eq_true_eq, decide_eq_false_iff_not, Bool.not_eq_true, Bool.not_eq_false, beq_iff_eq, bne_iff_ne, ne_eq, decide_eq_decide, Bool.not_eq_eq_eq_not, Bool.not_true, Bool.not_false, beq_eq_false_iff_ne, bne_eq_false_iff_eq, Bool.and_eq_true, Bool.or_eq_true, Bool.and_eq_false_imp, Bool.or_eq_false_iff, bq2, bqt, bqf] at hb)) | intro _))
   all_goals (try (rw [hfin (by rw [hw]; (first | (simp [*]; done) | (simp [*]; omega) | (simp_all; done) | (simp_all; omega)))]; refine qF (L' := []) ?_; exact ⟨by first | rfl | rw [Bool.and_false], rfl, rfl⟩))
   all_goals rw [← e1]
   all_goals refine Zg (k + 1) (⟨hlt, by rw [hs, hw]; (first | (simp [*]; done) | (simp [*]; omega) | (simp_all; done) | (simp_all; omega))⟩) Ze Ze rfl tk inferInstance (by first | omega | (dsimp only; omega))
  ·have hd : decide (k = 0) = false := decide_eq_false hk0
   obtain ⟨b2, off2, C2, T2, fr2, f1, hb2, hfit2, hc2⟩ := hA.get (show k - 1 < l.length by omega)
   rw [e1] at f1
   cases f1
   rw [hb0] at hb2
   cases hb2
   have ek : ((k : Int) - 1).toNat = k - 1 := by omega
   have hfin : (rt l[k] && (decide (k = 0) || decide (Yq.page (l[k - 1]'(by omega)) < Yq.page l[k]))) = false → ZC mo (fun _ x => rt x) (fun y x => decide (Yq.page y < Yq.page x)) l mo = false := fun e => hfin0 (by rw [hs]; exact e)
   rw [hd, Bool.false_or] at hs hfin
   have hcy : C[off + ((k : Int) - 1).toNat * 2]? = some (.int .i64 (Yq.page (l[k - 1]'(by omega)))) := by
    have := congrArg (fun l => l[0]?) hc2
    rw [ek]
    simp only [List.getElem?_take, List.getElem?_drop] at this
    simpa using this
   clear hc2 hfit2
   generalize l[k] = x at *
   generalize l[k - 1]'(by omega) = y at *
   unfold pRight at hw
   generalize hQQ : ZC mo (fun _ x => rt x) (fun y x => decide (Yq.page y < Yq.page x)) l mo = q at *
   clear hfin0 hrt hR
   repeat' (first | refine zV ?_ | intro _)
   refine Zu (Zk _ _ _) Zp ?_
   all_goals (refine ZN 0 ?_; refine Zz ?_; refine ZQ 1 ?_; refine rCm 2 ?_; refine Zx 3 ?_)
   all_goals (first | refine Zb 4 ?_ | refine Za 4 ?_ | refine ZE 4 ?_ | (refine Zn (t := 15) rfl (fun hb => ?_) (fun hb => ?_) <;> (try simp only [kk] at hb) <;> first | refine Zb 4 ?_ | refine Za 4 ?_ | refine ZE 4 ?_))
   all_goals ((first | refine Zb 5 ?_ | refine Za 5 ?_ | refine ZL 5 ?_); (first | refine Zb 6 ?_ | refine Za 6 ?_ | refine Yg 6 ?_); refine Yj 7 ?_; refine Zx 8 ?_)
   all_goals (first | refine Zb 9 ?_ | refine Za 9 ?_ | refine ZE 9 ?_ | (refine Zn (t := 20) rfl (fun hb => ?_) (fun hb => ?_) <;> (try simp only [kk] at hb) <;> first | refine Zb 9 ?_ | refine Za 9 ?_ | refine ZE 9 ?_))
   all_goals ((first | refine Zb 10 ?_ | refine Za 10 ?_ | refine ZL 10 ?_); (first | refine Zb 11 ?_ | refine Za 11 ?_ | refine Yg 11 ?_); refine Yj 12 ?_; refine Zx 13 ?_)
   all_goals (first | refine Zb 14 ?_ | refine Za 14 ?_ | refine ZE 14 ?_ | (refine Zn (t := 25) rfl (fun hb => ?_) (fun hb => ?_) <;> (try simp only [kk] at hb) <;> first | refine Zb 14 ?_ | refine Za 14 ?_ | refine ZE 14 ?_))
   all_goals ((first | refine Zb 15 ?_ | refine Za 15 ?_ | refine ZL 15 ?_); (first | refine Zb 16 ?_ | refine Za 16 ?_ | refine Yg 16 ?_); refine Yj 17 ?_; refine Zx 18 ?_)
   all_goals (first | refine Zb 19 ?_ | refine Za 19 ?_ | refine ZI 19 ?_ | (refine Zn (t := 30) rfl (fun hb => ?_) (fun hb => ?_) <;> (try simp only [kk] at hb) <;> first | refine Zb 19 ?_ | refine Za 19 ?_ | refine ZI 19 ?_))
   all_goals ((first | refine Zb 20 ?_ | refine Za 20 ?_ | refine Yg 20 ?_); (first | refine Zb 21 ?_ | refine Za 21 ?_ | refine ZI 21 ?_))
   all_goals (first | refine Zb 22 ?_ | refine Za 22 ?_ | refine ZI 22 ?_ | (refine Zn (t := 33) rfl (fun hb => ?_) (fun hb => ?_) <;> (try simp only [kk] at hb) <;> first | refine Zb 22 ?_ | refine Za 22 ?_ | refine ZI 22 ?_))
   all_goals ((first | refine Zb 23 ?_ | refine Za 23 ?_ | refine ZI 23 ?_); (first | refine Zb 24 ?_ | refine Za 24 ?_ | refine wSb 24 ?_); (first | refine Zb 25 ?_ | refine Za 25 ?_ | refine wIa 25 ?_); (first | refine Zb 26 ?_ | refine Za 26 ?_ | refine ZE 26 ?_); (first | refine Zb 27 ?_ | refine Za 27 ?_ | refine ZL 27 ?_); (first | refine Zb 28 ?_ | refine Za 28 ?_ | refine ZE 28 ?_); (first | refine Zb 29 ?_ | refine Za 29 ?_ | refine ZL 29 ?_); (first | refine Zb 30 ?_ | refine Za 30 ?_ | refine Yg 30 ?_); (first | refine Zb 31 ?_ | refine Za 31 ?_ | refine wPk 31 ?_); refine Yj 32 ?_; refine Zv ?_)
   all_goals (repeat' (first | refine zV ?_ | (refine YL ?_; refine ZB rfl rfl (fun hb => ?_) (fun hb => ?_) <;> (try simp only [decide_eq_true_eq, decide_eq_false_iff_not, Bool.not_eq_true, Bool.not_eq_false, beq_iff_eq, bne_iff_ne, ne_eq, decide_eq_decide, Bool.not_eq_eq_eq_not, Bool.not_true, Bool.not_false, beq_eq_false_iff_ne, bne_eq_false_iff_eq, Bool.and_eq_true, Bool.or_eq_true, Bool.and_eq_false_imp, Bool.or_eq_false_iff, bq2, bqt, bqf] at hb)) | (refine ZS ?_; refine ZM rfl (fun hb => ?_) (fun hb => ?_) <;> (try simp only [decide_eq_true_eq, decide_eq_false_iff_not, Bool.not_eq_true, Bool.not_eq_false, beq_iff_eq, bne_iff_ne, ne_eq, decide_eq_decide, Bool.not_eq_eq_eq_not, Bool.not_true, Bool.not_false, beq_eq_false_iff_ne, bne_eq_false_iff_eq, Bool.and_eq_true, Bool.or_eq_true, Bool.and_eq_false_imp, Bool.or_eq_false_iff, bq2, bqt, bqf] at hb)) | intro _))
   all_goals (try (rw [hfin (by rw [hw]; (first | (simp [*]; done) | (simp [*]; omega) | (simp_all; done) | (simp_all; omega)))]; refine qF (L' := []) ?_; exact ⟨by first | rfl | rw [Bool.and_false], rfl, rfl⟩))
   all_goals rw [← e1]
   all_goals refine Zg (k + 1) (⟨hlt, by rw [hs, hw]; (first | (simp [*]; done) | (simp [*]; omega) | (simp_all; done) | (simp_all; omega))⟩) Ze Ze rfl tk inferInstance (by first | omega | (dsimp only; omega))
 ·have hk2 : k = mo := by omega
  rw [hk2] at hok
  rw [hok]
  repeat' (first | refine zV ?_ | (refine YL ?_; refine ZB rfl rfl (fun hb => ?_) (fun hb => ?_) <;> (try simp only [decide_eq_true_eq, decide_eq_false_iff_not, Bool.not_eq_true, Bool.not_eq_false, beq_iff_eq, bne_iff_ne, ne_eq, decide_eq_decide, Bool.not_eq_eq_eq_not, Bool.not_true, Bool.not_false, beq_eq_false_iff_ne, bne_eq_false_iff_eq, Bool.and_eq_true, Bool.or_eq_true, Bool.and_eq_false_imp, Bool.or_eq_false_iff, bq2, bqt, bqf] at hb)) | (refine ZS ?_; refine ZM rfl (fun hb => ?_) (fun hb => ?_) <;> (try simp only [decide_eq_true_eq, decide_eq_false_iff_not, Bool.not_eq_true, Bool.not_eq_false, beq_iff_eq, bne_iff_ne, ne_eq, decide_eq_decide, Bool.not_eq_eq_eq_not, Bool.not_true, Bool.not_false, beq_eq_false_iff_ne, bne_eq_false_iff_eq, Bool.and_eq_true, Bool.or_eq_true, Bool.and_eq_false_imp, Bool.or_eq_false_iff, bq2, bqt, bqf] at hb)) | intro _)
  all_goals (refine qF (L' := []) ?_; exact ⟨rfl, rfl, rfl⟩)
def leastN (n : Nat) (l : List Nat) : Nat := l.foldl min n
structure CW (ρ : Hp) (v : CV) (c : Cont) : Prop where
 r : AIn ρ 4 rowV v.ra v.rn c.rows
 k : AIn ρ 3 kidV v.ka v.kn c.kids
 rb : v.rn ≤ 140737488355328
 kb : v.kn ≤ 140737488355328
 rc : v.rn ≤ v.rc
 kc : v.kn ≤ v.kc
 row : ∀ r ∈ c.rows, RowFit r
 kid : ∀ k ∈ c.kids, k.id < 65536
structure AW (ρ : Hp) (sz : Nat) {α : Type} (g : α → List Value) (s : SV) (l : List α) : Prop where
 at' : AIn ρ sz g s.a s.n l
 big : s.n ≤ 140737488355328
 cap : s.n ≤ s.c
structure RcW (ρ : Hp) (v : RV) (r : Rc) : Prop where
 i : AW ρ 7 imV v.i r.ims
 im : ∀ x ∈ r.ims, CW ρ x.bv x.b ∧ CW ρ x.av x.a
 s : AW ρ 6 stpV v.s r.steps
 t : AW ρ 5 XU v.t r.txns
 d : AW ρ 2 YG v.d r.dirty
 sf : ∀ s ∈ r.steps, RowFit s.row
theorem CW.mono {ρ ρ' v c} (h : CW ρ v c) (hle : ρ.le ρ') : CW ρ' v c := ⟨h.r.mono hle, h.k.mono hle, h.rb, h.kb, h.rc, h.kc, h.row, h.kid⟩
theorem AW.mono {ρ ρ' : Hp} {sz : Nat} {α : Type} {g : α → List Value} {s : SV} {l : List α} (h : AW ρ sz g s l) (hle : ρ.le ρ') : AW ρ' sz g s l := ⟨h.at'.mono hle, h.big, h.cap⟩
theorem RcW.mono {ρ ρ' v r} (h : RcW ρ v r) (hle : ρ.le ρ') : RcW ρ' v r := ⟨h.i.mono hle, fun x hx => ⟨(h.im x hx).1.mono hle, (h.im x hx).2.mono hle⟩, h.s.mono hle, h.t.mono hle, h.d.mono hle, h.sf⟩
def imN (x : Im) : Nat := x.b.rows.length + x.b.kids.length + x.a.rows.length + x.a.kids.length
def overB (r : Rc) : Bool := decide (17 < r.ims.length ∨ 3 < r.steps.length ∨ 9 < r.txns.length ∨ 65 < r.dirty.length) || r.ims.any (fun x => decide (30 < imN x))
theorem RcW.in' {ρ v r} (h : RcW ρ v r) (ho : overB r = false) : RcIn ρ v r ∧ v.i.n ≤ 17 ∧ v.d.n ≤ 65 := by
 unfold overB at ho
 rw [Bool.or_eq_false_iff, decide_eq_false_iff_not, List.any_eq_false] at ho
 obtain ⟨h1, h2⟩ := ho
 have li := h.i.at'.len
 have ls := h.s.at'.len
 have lt := h.t.at'.len
 have ld := h.d.at'.len
 refine ⟨⟨⟨h.i.at', by omega, h.i.cap⟩, fun x hx => ?_, ⟨h.s.at', by omega, h.s.cap⟩, ⟨h.t.at', by omega, h.t.cap⟩, ⟨h.d.at', by omega, h.d.cap⟩, h.sf⟩, by omega, by omega⟩
 have h3 := h2 x hx
 simp only [decide_eq_true_eq] at h3
 unfold imN at h3
 obtain ⟨hb, ha⟩ := h.im x hx
 have e1 := hb.r.len
 have e2 := hb.k.len
 have e3 := ha.r.len
 have e4 := ha.k.len
 exact ⟨⟨⟨hb.r, hb.k, by omega, by omega, hb.rc, hb.kc⟩, hb.row, hb.kid⟩, ⟨⟨ha.r, ha.k, by omega, by omega, ha.rc, ha.kc⟩, ha.row, ha.kid⟩⟩
end Go.Proofs.E
