/- Laws of RedoAll,RedoOthers,RedoSteps. Part 17 of 23. -/
import Derived.Test.YtpcfmhifkkpjpaaGreatA16
namespace Go.Proofs.E
open Go
set_option linter.unusedVariables false
set_option linter.unusedSimpArgs false
set_option linter.unusedSectionVars false
set_option maxRecDepth 4000
set_option maxHeartbeats 1000000
attribute [local irreducible] Yl TL TC TE Spec ZF R1 Hp.le EnvLe TS TR YS Zo
theorem redoes12_spec (ρ : Hp) (v : RV) (r : Rc) (h : RcIn ρ v r) (page : Int) : Spec Tryz.prog 203 [.agg ⟨YI v r⟩, .int .i64 page] ρ []
  (fun z ρ' L' => z = .tuple ⟨[.agg ⟨contO (r.ims.find? (fun x => decide (x.page = page)))⟩, .bool (r.ims.find? (fun x => decide (x.page = page))).isSome]⟩ ∧ ρ' = ρ ∧ L' = []) := by
 have hl := h.i.at'.len
 have hn := h.i.big
 have hA := h.i.at'
 generalize hq : r.ims.find? (fun x => decide (x.page = page)) = q
 refine Za Tryz.func203 rfl rfl rfl fun u R => ?_
 simp only [Zg, kA]
 repeat' (first | refine zV ?_ | intro _)
 rename_i b2 b4
 refine Zk [(1, _), (4, _), (9, _), (10, _)] (fun (ζ : (Nat)) => [(11, .int .i64 ζ), (5, .bool false)]) (fun (ζ : (Nat)) => ρ) (fun (ζ : (Nat)) => [[(b4, .cells ⟨[.int .i64 0, .slice none 0 0, .slice none 0 0]⟩ 112 (0, 0))]]) (fun (ζ : (Nat)) => ζ ≤ v.i.n ∧ (r.ims.drop ζ).find? (fun x => decide (x.page = page)) = q) (fun (ζ : (Nat)) => v.i.n - ζ) (0) (⟨Nat.zero_le _, hq⟩) Zc Zc rfl tk ?_
 rintro k hI
 try simp only [kA, List.append_assoc] at hI ⊢
 try dsimp only at hI ⊢
 obtain ⟨hk, hok⟩ := hI
 by_cases hlt : k < v.i.n
 ·obtain ⟨b, off, C, T, fr, e1, hb, hfit, hc⟩ := hA.get (show k < r.ims.length by omega)
  rw [List.drop_eq_getElem_cons (show k < r.ims.length by omega), List.find?_cons] at hok
  generalize r.ims[k]'(by omega) = x at *
  rw [e1]
  by_cases hx : x.page = page
  ·rw [decide_eq_true hx] at hok
   subst hok
   repeat' (first | refine zV ?_ | intro _)
   exact qE (L' := []) ⟨rfl, rfl, rfl⟩
  ·rw [decide_eq_false hx] at hok
   repeat' (first | refine zV ?_ | intro _)
   rw [← e1]
   refine Zd (k + 1) (⟨hlt, hok⟩) Zc Zc rfl tk inferInstance (by first | omega | (dsimp only; omega))
 ·have hk2 : k = r.ims.length := by omega
  rw [hk2, List.drop_length, List.find?_nil] at hok
  subst hok
  repeat' (first | refine zV ?_ | intro _)
  exact qE (L' := []) ⟨rfl, rfl, rfl⟩
def recN (page : Int) (l : List Ym) : Nat := match recP page l with | some p => p.since | none => 0
theorem rec22_spec (ρ : Hp) (s : SV) (l : List Ym) (h : AS ρ 2 YQ s l) (page : Int) : Spec Tryz.prog 279 [.slice s.a s.n s.c, .int .i64 page] ρ [] (fun z ρ' L' => z = .int .u64 (recN page l) ∧ ρ' = ρ ∧ L' = []) := by
 have hl := h.at'.len
 have hn := h.big
 have hA := h.at'
 unfold recN recP
 generalize hq : l.find? (fun p => decide (p.page = page)) = q
 refine Za Tryz.func279 rfl rfl rfl fun u R => ?_
 simp only [Zg, kA]
 repeat' (first | refine zV ?_ | intro _)
 refine Zk [(1, _), (7, _), (8, _)] (fun (ζ : (Nat)) => [(9, .int .i64 ζ), (4, .int .u64 0)]) (fun (ζ : (Nat)) => ρ) (fun (ζ : (Nat)) => []) (fun (ζ : (Nat)) => ζ ≤ s.n ∧ (l.drop ζ).find? (fun p => decide (p.page = page)) = q) (fun (ζ : (Nat)) => s.n - ζ) (0) (⟨Nat.zero_le _, hq⟩) Zc Zc rfl tk ?_
 rintro k hI
 try simp only [kA, List.append_assoc] at hI ⊢
 try dsimp only at hI ⊢
 obtain ⟨hk, hok⟩ := hI
 by_cases hlt : k < s.n
 ·obtain ⟨b, off, C, T, fr, e1, hb, hfit, hc⟩ := hA.get (show k < l.length by omega)
  rw [List.drop_eq_getElem_cons (show k < l.length by omega), List.find?_cons] at hok
  generalize l[k]'(by omega) = x at *
  rw [e1]
  by_cases hx : x.page = page
  ·rw [decide_eq_true hx] at hok
   subst hok
   repeat' (first | refine zV ?_ | intro _)
   exact qE (L' := []) ⟨rfl, rfl, rfl⟩
  ·rw [decide_eq_false hx] at hok
   repeat' (first | refine zV ?_ | intro _)
   rw [← e1]
   refine Zd (k + 1) (⟨hlt, hok⟩) Zc Zc rfl tk inferInstance (by first | omega | (dsimp only; omega))
 ·have hk2 : k = l.length := by omega
  rw [hk2, List.drop_length, List.find?_nil] at hok
  subst hok
  repeat' (first | refine zV ?_ | intro _)
  exact qE (L' := []) ⟨rfl, rfl, rfl⟩
def pRight (p : Ym) : Bool := decide (0 ≤ p.page ∧ p.page < 64 ∧ 1 ≤ p.since ∧ p.since ≤ 1099511627776)
theorem tblOk_up {l : List Ym} : Xn l = upB pRight Ym.page l l.length := by
 have key : ∀ (l : List Ym) (last : Int), tblB last l = true ↔ (∀ i (h : i < l.length), last < l[i].page ∧ l[i].page < 64 ∧ 1 ≤ l[i].since ∧ l[i].since ≤ 1099511627776) ∧ ∀ i (h : i < l.length), 0 < i → (l[i - 1]'(by omega)).page < l[i].page := by
  intro l
  induction l with
  | nil => intro last; simp [tblB]
  | cons p r ih =>
   intro last
   rw [tblB, Bool.and_eq_true, decide_eq_true_eq, ih p.page]
   constructor
   ·rintro ⟨h0, h1, h2⟩
    refine ⟨fun i hi => ?_, fun i hi h0i => ?_⟩
    ·cases i with
     | zero => exact h0
     | succ i => have := h1 i (by simpa using hi); simp only [List.getElem_cons_succ]; omega
    ·cases i with
     | zero => omega
     | succ i =>
      cases i with
      | zero => have := h1 0 (by simpa using hi); simpa using this.1
      | succ i => have := h2 (i + 1) (by simpa using hi) (by omega); simpa using this
   ·rintro ⟨h1, h2⟩
    have h0 := h1 0 (by simp)
    have hup : ∀ i (hi : i < r.length), p.page < r[i].page := by
     intro i hi
     induction i with
     | zero => have := h2 1 (by simp only [List.length_cons]; omega) (by omega); simpa using this
     | succ i ihi =>
      have e1 := ihi (by omega)
      have := h2 (i + 2) (by simp only [List.length_cons]; omega) (by omega)
      simp only [List.getElem_cons_succ, show i + 2 - 1 = i + 1 by omega] at this
      omega
    refine ⟨by simpa using h0, fun i hi => ?_, fun i hi h0i => ?_⟩
    ·have := h1 (i + 1) (by simp only [List.length_cons]; omega)
     simp only [List.getElem_cons_succ] at this
     exact ⟨hup i hi, this.2⟩
    ·have := h2 (i + 1) (by simp only [List.length_cons]; omega) (by omega)
     obtain ⟨j, rfl⟩ : ∃ j, i = j + 1 := ⟨i - 1, by omega⟩
     simpa using this
 have key2 : ∀ (k : Nat), k ≤ l.length → (Zu l.length (fun _ x => pRight x) (fun y x => decide (y.page < x.page)) l k = true ↔ (∀ i (h : i < l.length), i < k → pRight l[i] = true) ∧ ∀ i (h : i < l.length), i < k → 0 < i → (l[i - 1]'(by omega)).page < l[i].page) := by
  intro k
  induction k with
  | zero => intro _; rw [Zu]; simp
  | succ k ih =>
   intro hk
   rw [YO (show k < l.length by omega), Bool.and_eq_true, ih (by omega), Bool.and_eq_true]
   constructor
   ·rintro ⟨⟨h1, h2⟩, h3, h4⟩
    refine ⟨fun i hi hik => ?_, fun i hi hik h0 => ?_⟩
    ·by_cases e : i = k
     ·subst e; exact h3
     ·exact h1 i hi (by omega)
    ·by_cases e : i = k
     ·subst e
      rw [decide_eq_false (by omega), Bool.false_or, decide_eq_true_eq] at h4
      exact h4
     ·exact h2 i hi (by omega) h0
   ·rintro ⟨h1, h2⟩
    refine ⟨⟨fun i hi hik => h1 i hi (by omega), fun i hi hik h0 => h2 i hi (by omega) h0⟩, h1 k (by omega) (by omega), ?_⟩
    by_cases e : k = 0
    ·rw [decide_eq_true e, Bool.true_or]
    ·rw [decide_eq_false e, Bool.false_or, decide_eq_true_eq]
     exact h2 k (by omega) (by omega) (by omega)
 rw [Bool.eq_iff_iff]
 unfold Xn upB
 rw [key, key2 _ (Nat.le_refl _)]
 unfold pRight
 constructor
 ·rintro ⟨h1, h2⟩
  exact ⟨fun i hi _ => by have := h1 i hi; rw [decide_eq_true_eq]; omega, fun i hi _ h0 => h2 i hi h0⟩
 ·rintro ⟨h1, h2⟩
  refine ⟨fun i hi => ?_, fun i hi h0 => h2 i hi hi h0⟩
  have := h1 i hi hi
  rw [decide_eq_true_eq] at this
  omega
end Go.Proofs.E
namespace Go.Proofs.E
open Go
set_option linter.unusedVariables false
set_option linter.unusedSimpArgs false
set_option linter.unusedSectionVars false
set_option maxRecDepth 4000
set_option maxHeartbeats 1000000
attribute [local irreducible] Yl TL TC TE Spec ZF R1 Hp.le EnvLe TS TR YS Zo TP QP
theorem Vc (ρ : Hp) (s : SV) (l : List Ym) (h : AS ρ 2 YQ s l)   :
  Spec Tryz.prog 42 [.slice s.a s.n s.c] ρ [] (fun z ρ' L' => z = .bool (upB pRight Ym.page l l.length) ∧ ρ' = ρ ∧ L' = []) := by
 have hl := h.at'.len
 have hn := h.big
 have hA := h.at'
 generalize hR : pRight = rt
 unfold upB
 generalize hm : l.length = mo
 have hrt : ∀ x, rt x = pRight x := fun x => by rw [hR]
 refine Za Tryz.func42 rfl rfl rfl fun u R => ?_
 simp only [Zg, kA]
 repeat' (first | refine zV ?_ | intro _)
 refine Zk [(0, _), (5, _), (6, _)] (fun (ζ : (Nat)) => [(7, .int .i64 ζ), (2, .bool false)]) (fun (ζ : (Nat)) => ρ) (fun (ζ : (Nat)) => []) (fun (ζ : (Nat)) => ζ ≤ s.n ∧ Zu mo (fun _ x => rt x) (fun y x => decide (Ym.page y < Ym.page x)) l ζ = true) (fun (ζ : (Nat)) => s.n - ζ) (0) (⟨Nat.zero_le _, by rw [Zu]; simp [hm]⟩) Zc Zc rfl tk ?_
 rintro k hI
 try simp only [kA, List.append_assoc] at hI ⊢
 try dsimp only at hI ⊢
 obtain ⟨hk, hok⟩ := hI
 by_cases hlt : k < s.n
 ·obtain ⟨b, off, C, T, fr, e1, hb0, hfit, hc⟩ := hA.get (show k < l.length by omega)
  have hs := YO (most := mo) (right := fun _ x => rt x) (lt := fun y x => decide (Ym.page y < Ym.page x)) (show k < l.length by omega)
  have hfin0 := fun (e : Zu mo (fun _ x => rt x) (fun y x => decide (Ym.page y < Ym.page x)) l (k + 1) = false) => YG e (show k + 1 ≤ mo by omega)
  rw [hok, Bool.true_and] at hs
  have hw := hrt l[k]
  skip
  rw [e1]
  by_cases hk0 : k = 0
  ·have hfin : (rt l[k] && (decide (k = 0) || decide (Ym.page (l[k - 1]'(by omega)) < Ym.page l[k]))) = false → Zu mo (fun _ x => rt x) (fun y x => decide (Ym.page y < Ym.page x)) l mo = false := fun e => hfin0 (by rw [hs]; exact e)
   rw [decide_eq_true hk0, Bool.true_or, Bool.and_true] at hs hfin
   generalize l[k] = x at *
   unfold pRight at hw
   generalize hQQ : Zu mo (fun _ x => rt x) (fun y x => decide (Ym.page y < Ym.page x)) l mo = q at *
   clear hfin0 hrt hR
   repeat' (first | refine zV ?_ | intro _)
   refine tpZ [0] (.f [1,2,3,4,5,6,7,8,9,10,11,12,13,14,15,16,17,18,19,20,21,22,23,24,25,26,27,28,29,30,31,32] .o) ?_
   repeat' (refine iT ?_; first | refine rA ?_ | (refine iQ ?_; refine rG (fun hb => ?_) (fun hb => ?_) <;> (try simp only [kk] at hb) <;> refine rA ?_))
   all_goals (repeat' (first | refine zV ?_ | (refine XZ ?_; refine ZI rfl rfl (fun hb => ?_) (fun hb => ?_) <;> (try simp only [decide_eq_true_eq, decide_eq_false_iff_not, Bool.not_eq_true, Bool.not_eq_false, beq_iff_eq, bne_iff_ne, ne_eq, decide_eq_decide, Bool.not_eq_eq_eq_not, Bool.not_true, Bool.not_false, beq_eq_false_iff_ne, bne_eq_false_iff_eq, Bool.and_eq_true, Bool.or_eq_true, Bool.and_eq_false_imp, Bool.or_eq_false_iff, bq2, bqt, bqf] at hb)) | (refine Yo ?_; refine ZR rfl (fun hb => ?_) (fun hb => ?_) <;> (try simp only [decide_eq_true_eq, decide_eq_false_iff_not, Bool.not_eq_true, Bool.not_eq_false, beq_iff_eq, bne_iff_ne, ne_eq, decide_eq_decide, Bool.not_eq_eq_eq_not, Bool.not_true, Bool.not_false, beq_eq_false_iff_ne, bne_eq_false_iff_eq, Bool.and_eq_true, Bool.or_eq_true, Bool.and_eq_false_imp, Bool.or_eq_false_iff, bq2, bqt, bqf] at hb)) | intro _))
   all_goals (try (rw [hfin (by rw [hw]; (first | (simp [*]; done) | (simp [*]; omega) | (simp_all; done) | (simp_all; omega)))]; refine qF (L' := []) ?_; exact ⟨by first | rfl | rw [Bool.and_false], rfl, rfl⟩))
   all_goals rw [← e1]
   all_goals refine Zd (k + 1) (⟨hlt, by rw [hs, hw]; (first | (simp [*]; done) | (simp [*]; omega) | (simp_all; done) | (simp_all; omega))⟩) Zc Zc rfl tk inferInstance (by first | omega | (dsimp only; omega))
  ·have hd : decide (k = 0) = false := decide_eq_false hk0
   obtain ⟨b2, off2, C2, T2, fr2, f1, hb2, hfit2, hc2⟩ := hA.get (show k - 1 < l.length by omega)
   rw [e1] at f1
   cases f1
   rw [hb0] at hb2
   cases hb2
   have ek : ((k : Int) - 1).toNat = k - 1 := by omega
   have hfin : (rt l[k] && (decide (k = 0) || decide (Ym.page (l[k - 1]'(by omega)) < Ym.page l[k]))) = false → Zu mo (fun _ x => rt x) (fun y x => decide (Ym.page y < Ym.page x)) l mo = false := fun e => hfin0 (by rw [hs]; exact e)
   rw [hd, Bool.false_or] at hs hfin
   have hcy : C[off + ((k : Int) - 1).toNat * 2]? = some (.int .i64 (Ym.page (l[k - 1]'(by omega)))) := by
    have := congrArg (fun l => l[0]?) hc2
    rw [ek]
    simp only [List.getElem?_take, List.getElem?_drop] at this
    simpa using this
   clear hc2 hfit2
   generalize l[k] = x at *
   generalize l[k - 1]'(by omega) = y at *
   unfold pRight at hw
   generalize hQQ : Zu mo (fun _ x => rt x) (fun y x => decide (Ym.page y < Ym.page x)) l mo = q at *
   clear hfin0 hrt hR
   repeat' (first | refine zV ?_ | intro _)
   refine tpZ [0] (.f [1,2,3,4,5,6,7,8,9,10,11,12,13,14,15,16,17,18,19,20,21,22,23,24,25,26,27,28,29,30,31,32] .o) ?_
   repeat' (refine iT ?_; first | refine rA ?_ | (refine iQ ?_; refine rG (fun hb => ?_) (fun hb => ?_) <;> (try simp only [kk] at hb) <;> refine rA ?_))
   all_goals (repeat' (first | refine zV ?_ | (refine XZ ?_; refine ZI rfl rfl (fun hb => ?_) (fun hb => ?_) <;> (try simp only [decide_eq_true_eq, decide_eq_false_iff_not, Bool.not_eq_true, Bool.not_eq_false, beq_iff_eq, bne_iff_ne, ne_eq, decide_eq_decide, Bool.not_eq_eq_eq_not, Bool.not_true, Bool.not_false, beq_eq_false_iff_ne, bne_eq_false_iff_eq, Bool.and_eq_true, Bool.or_eq_true, Bool.and_eq_false_imp, Bool.or_eq_false_iff, bq2, bqt, bqf] at hb)) | (refine Yo ?_; refine ZR rfl (fun hb => ?_) (fun hb => ?_) <;> (try simp only [decide_eq_true_eq, decide_eq_false_iff_not, Bool.not_eq_true, Bool.not_eq_false, beq_iff_eq, bne_iff_ne, ne_eq, decide_eq_decide, Bool.not_eq_eq_eq_not, Bool.not_true, Bool.not_false, beq_eq_false_iff_ne, bne_eq_false_iff_eq, Bool.and_eq_true, Bool.or_eq_true, Bool.and_eq_false_imp, Bool.or_eq_false_iff, bq2, bqt, bqf] at hb)) | intro _))
   all_goals (try (rw [hfin (by rw [hw]; (first | (simp [*]; done) | (simp [*]; omega) | (simp_all; done) | (simp_all; omega)))]; refine qF (L' := []) ?_; exact ⟨by first | rfl | rw [Bool.and_false], rfl, rfl⟩))
   all_goals rw [← e1]
   all_goals refine Zd (k + 1) (⟨hlt, by rw [hs, hw]; (first | (simp [*]; done) | (simp [*]; omega) | (simp_all; done) | (simp_all; omega))⟩) Zc Zc rfl tk inferInstance (by first | omega | (dsimp only; omega))
 ·have hk2 : k = mo := by omega
  rw [hk2] at hok
  rw [hok]
  repeat' (first | refine zV ?_ | (refine XZ ?_; refine ZI rfl rfl (fun hb => ?_) (fun hb => ?_) <;> (try simp only [decide_eq_true_eq, decide_eq_false_iff_not, Bool.not_eq_true, Bool.not_eq_false, beq_iff_eq, bne_iff_ne, ne_eq, decide_eq_decide, Bool.not_eq_eq_eq_not, Bool.not_true, Bool.not_false, beq_eq_false_iff_ne, bne_eq_false_iff_eq, Bool.and_eq_true, Bool.or_eq_true, Bool.and_eq_false_imp, Bool.or_eq_false_iff, bq2, bqt, bqf] at hb)) | (refine Yo ?_; refine ZR rfl (fun hb => ?_) (fun hb => ?_) <;> (try simp only [decide_eq_true_eq, decide_eq_false_iff_not, Bool.not_eq_true, Bool.not_eq_false, beq_iff_eq, bne_iff_ne, ne_eq, decide_eq_decide, Bool.not_eq_eq_eq_not, Bool.not_true, Bool.not_false, beq_eq_false_iff_ne, bne_eq_false_iff_eq, Bool.and_eq_true, Bool.or_eq_true, Bool.and_eq_false_imp, Bool.or_eq_false_iff, bq2, bqt, bqf] at hb)) | intro _)
  all_goals (refine qF (L' := []) ?_; exact ⟨rfl, rfl, rfl⟩)
end Go.Proofs.E
namespace Go.Proofs.E
open Go
set_option linter.unusedVariables false
set_option linter.unusedSimpArgs false
set_option linter.unusedSectionVars false
set_option maxRecDepth 4000
set_option maxHeartbeats 1000000
attribute [local irreducible] Yl TL TC TE Spec ZF R1 Hp.le EnvLe TS TR YS Zo
structure CW (ρ : Hp) (v : CV) (c : Yh) : Prop where
 r : AIn ρ 4 Yv v.ra v.rn c.rows
 k : AIn ρ 3 Xi v.ka v.kn c.kids
 rb : v.rn ≤ 140737488355328
 kb : v.kn ≤ 140737488355328
 rc : v.rn ≤ v.rc
 kc : v.kn ≤ v.kc
 row : ∀ r ∈ c.rows, WS r
 kid : ∀ k ∈ c.kids, k.id < 65536
structure AW (ρ : Hp) (sz : Nat) {α : Type} (g : α → List Value) (s : SV) (l : List α) : Prop where
 at' : AIn ρ sz g s.a s.n l
 big : s.n ≤ 140737488355328
 cap : s.n ≤ s.c
structure RcW (ρ : Hp) (v : RV) (r : Rc) : Prop where
 i : AW ρ 7 imV v.i r.ims
 im : ∀ x ∈ r.ims, CW ρ x.bv x.b ∧ CW ρ x.av x.a
 s : AW ρ 6 stpV v.s r.steps
 t : AW ρ 5 ckTV v.t r.txns
 d : AW ρ 2 YQ v.d r.dirty
 sf : ∀ s ∈ r.steps, WS s.row
theorem CW.mono {ρ ρ' v c} (h : CW ρ v c) (hle : ρ.le ρ') : CW ρ' v c := ⟨h.r.mono hle, h.k.mono hle, h.rb, h.kb, h.rc, h.kc, h.row, h.kid⟩
theorem AW.mono {ρ ρ' : Hp} {sz : Nat} {α : Type} {g : α → List Value} {s : SV} {l : List α} (h : AW ρ sz g s l) (hle : ρ.le ρ') : AW ρ' sz g s l := ⟨h.at'.mono hle, h.big, h.cap⟩
theorem RcW.mono {ρ ρ' v r} (h : RcW ρ v r) (hle : ρ.le ρ') : RcW ρ' v r := ⟨h.i.mono hle, fun x hx => ⟨(h.im x hx).1.mono hle, (h.im x hx).2.mono hle⟩, h.s.mono hle, h.t.mono hle, h.d.mono hle, h.sf⟩
theorem recP_since {l : List Ym} (ht : Xn l = true) {page : Int} {p : Ym} (h : recP page l = some p) : 1 ≤ p.since := by
 obtain ⟨i, hi, rfl⟩ := List.mem_iff_getElem.1 (List.mem_of_find?_eq_some h)
 exact ((tblB_lt ht).1 i hi).2.2.1
theorem needs22_spec (ρ : Hp) (s : SV) (l : List Ym) (h : AS ρ 2 YQ s l) (v : RV) (r : Rc) (hr : RcIn ρ v r) (page : Int) :
  Spec Tryz.prog 202 [.slice s.a s.n s.c, .agg ⟨YI v r⟩, .int .i64 page] ρ [] (fun z ρ' L' => z = .bool (XE l r page) ∧ ρ' = ρ ∧ L' = []) := by
 have hd := Vc ρ s l h
 rw [← tblOk_up] at hd
 have hrr := right12_spec ρ v r hr
 have hre := redoes12_spec ρ v r hr page
 have hrc := rec22_spec ρ s l h page
 refine Za Tryz.func202 rfl rfl rfl fun u R => ?_
 simp only [Zg, kA]
 cases ht : Xn l
 ·rw [ht] at hd
  have hz : XE l r page = false := by unfold XE; rw [ht]; simp
  rw [hz]
  repeat' (first | (refine Zb (.func 42) ?_; refine qR rfl rfl (hd) ?_; try simp only [kA]) | refine zV ?_ | intro _)
  exact qE ⟨rfl, rfl, rfl⟩
 ·rw [ht] at hd
  cases hk : ZT r
  ·rw [hk] at hrr
   have hz : XE l r page = false := by unfold XE redoI; rw [hk]; simp
   rw [hz]
   repeat' (first | (refine Zb (.func 42) ?_; refine qR rfl rfl (hd) ?_; try simp only [kA]) | (refine Zb (.func 15) ?_; refine qR rfl rfl (hrr) ?_; try simp only [kA]) | refine zV ?_ | intro _)
   exact qE ⟨rfl, rfl, rfl⟩
  ·rw [hk] at hrr
   have hpost : XE l r page = ((r.ims.find? (fun x => decide (x.page = page))).isSome && decide (0 < recN page l ∧ recN page l ≤ r.lsn)) := by
    unfold XE redoI recN
    rw [hk, ht, if_pos rfl, Bool.true_and]
    congr 1
    cases hp : recP page l with
    | none => simp
    | some p =>
     have := recP_since ht hp
     simp only
     exact decide_eq_decide.2 (by omega)
   rw [hpost]
   have hone : (contO (r.ims.find? (fun x => decide (x.page = page)))).all (·.oneCell') = true := by unfold contO; split <;> rfl
   have hlen3 : (contO (r.ims.find? (fun x => decide (x.page = page)))).length = 3 := by unfold contO; split <;> rfl
   generalize contO (r.ims.find? (fun x => decide (x.page = page))) = co at *
   generalize (r.ims.find? (fun x => decide (x.page = page))).isSome = b1 at *
   obtain ⟨c0, c1, c2, rfl⟩ : ∃ c0 c1 c2, co = [c0, c1, c2] := by
    match co, hlen3 with
    | [c0, c1, c2], _ => exact ⟨c0, c1, c2, rfl⟩
   generalize recN page l = n at *
   cases b1
   ·rw [Bool.false_and]
    repeat' (first | (refine Zb (.func 42) ?_; refine qR rfl rfl (hd) ?_; try simp only [kA]) | (refine Zb (.func 15) ?_; refine qR rfl rfl (hrr) ?_; try simp only [kA]) | (refine Zb (.func 203) ?_; refine qR rfl rfl (hre) ?_; try simp only [kA]) | (refine Zb (.func 279) ?_; refine qR rfl rfl (hrc) ?_; try simp only [kA]) | refine zV ?_ | intro _)
    exact qE ⟨rfl, rfl, rfl⟩
   ·rw [Bool.true_and]
    repeat' (first | (refine Zb (.func 42) ?_; refine qR rfl rfl (hd) ?_; try simp only [kA]) | (refine Zb (.func 15) ?_; refine qR rfl rfl (hrr) ?_; try simp only [kA]) | (refine Zb (.func 203) ?_; refine qR rfl rfl (hre) ?_; try simp only [kA]) | (refine Zb (.func 279) ?_; refine qR rfl rfl (hrc) ?_; try simp only [kA]) | refine zV ?_ | (refine XZ ?_; refine ZI rfl rfl (fun hb => ?_) (fun hb => ?_) <;> (try simp only [decide_eq_true_eq, decide_eq_false_iff_not, Bool.not_eq_true, Bool.not_eq_false, beq_iff_eq, bne_iff_ne, ne_eq, decide_eq_decide, Bool.not_eq_eq_eq_not, Bool.not_true, Bool.not_false, beq_eq_false_iff_ne, bne_eq_false_iff_eq, Bool.and_eq_true, Bool.or_eq_true, Bool.and_eq_false_imp, Bool.or_eq_false_iff, bq2, bqt, bqf] at hb)) | (refine Yo ?_; refine ZR rfl (fun hb => ?_) (fun hb => ?_) <;> (try simp only [decide_eq_true_eq, decide_eq_false_iff_not, Bool.not_eq_true, Bool.not_eq_false, beq_iff_eq, bne_iff_ne, ne_eq, decide_eq_decide, Bool.not_eq_eq_eq_not, Bool.not_true, Bool.not_false, beq_eq_false_iff_ne, bne_eq_false_iff_eq, Bool.and_eq_true, Bool.or_eq_true, Bool.and_eq_false_imp, Bool.or_eq_false_iff, bq2, bqt, bqf] at hb)) | intro _)
    all_goals (refine qF (L' := []) ?_; exact ⟨YU (by (try simp [*]); first | done | omega | (intros; omega) | (constructor <;> intros <;> (try simp_all) <;> omega)), rfl, rfl⟩)
end Go.Proofs.E
namespace Go.Proofs.E
open Go
set_option linter.unusedVariables false
set_option linter.unusedSimpArgs false
set_option linter.unusedSectionVars false
set_option maxRecDepth 4000
set_option maxHeartbeats 1000000
attribute [local irreducible] Yl TL TC TE Spec ZF R1 Hp.le EnvLe TS TR YS Zo TP QP
def gI (f : Int → Nat) (d : List Ym) (r : Rc) (k : Nat) : List Im := if XE d r k && decide (f k < r.lsn) then (r.ims.find? (fun x => decide (x.page = (k : Int)))).toList else []
def refL (f : Int → Nat) (d : List Ym) (r : Rc) (k : Nat) : List Im := (List.range k).flatMap (gI f d r)
theorem refL_succ (f : Int → Nat) (d : List Ym) (r : Rc) (k : Nat) : refL f d r (k + 1) = refL f d r k ++ gI f d r k := by
 unfold refL; rw [List.range_succ, List.flatMap_append]; simp
theorem needs_some {d : List Ym} {r : Rc} {page : Int} (h : XE d r page = true) : ∃ x, r.ims.find? (fun x => decide (x.page = page)) = some x ∧ x ∈ r.ims ∧ x.page = page := by
 unfold XE redoI at h
 rw [Bool.and_eq_true] at h
 cases hr : ZT r
 ·rw [hr] at h; cases h.1
 ·rw [hr, if_pos rfl] at h
  obtain ⟨x, hx⟩ := Option.isSome_iff_exists.1 h.1
  exact ⟨x, hx, List.mem_of_find?_eq_some hx, by simpa using List.find?_some hx⟩
theorem ref24_spec (ρ : Hp) (a : Option Addr) (n c : Nat) (l : List PgD) (hl : AIn ρ 4 pdV a n l) (s : SV) (d : List Ym) (hd : AS ρ 2 YQ s d) (v : RV) (r : Rc) (h : RcIn ρ v r) (f : Int → Nat) (hf : ∀ k (hk : k < l.length), (l[k]).lsn = f (k : Int)) :
  Spec Tryz.prog 124 [.slice a n c, .slice s.a s.n s.c, .agg ⟨YI v r⟩] ρ []
   (fun z ρ' L' => ρ.le ρ' ∧ ∃ s2 : SV, z = .tuple ⟨[.slice s2.a s2.n s2.c, .int .i64 (shE d r n)]⟩ ∧ AS ρ' 4 shV s2 (if shE d r n = 0 then (refL f d r 64).map Wy else []) ∧ L' = []) := by
 have hrd := Vc ρ s d hd
 rw [← tblOk_up] at hrd
 have hrr := right12_spec ρ v r h
 have hln := hl.len
 unfold shE WJ
 cases ht : Xn d
 ·rw [ht] at hrd
  have e : (if (if (false = true) then (if ZT r = true then (0 : Int) else 220) else 320) ≠ 0 then (if (false = true) then (if ZT r = true then (0 : Int) else 220) else 320) else if n ≠ 64 then 2 else 0) = 320 := rfl
  rw [e]
  refine Za Tryz.func124 rfl rfl rfl fun u R => ?_
  simp only [Zg, kA]
  repeat' (first | (refine Zb (.func 42) ?_; refine qC rfl rfl (hrd) ?_; rintro v ρ' L' hle ⟨rfl, rfl, rfl⟩ <;> (try simp only [kA])) | refine zV ?_ | intro _)
  exact qE (L' := []) ⟨Hp.le_refl _, nilS, rfl, by rw [if_neg (by decide)]; exact AS.nilS, rfl⟩
 rw [ht] at hrd
 simp only [if_true]
 cases hr : ZT r
 ·rw [hr] at hrr
  have e : (if (if (false = true) then (0 : Int) else 220) ≠ 0 then (if (false = true) then (0 : Int) else 220) else if n ≠ 64 then 2 else 0) = 220 := rfl
  rw [e]
  refine Za Tryz.func124 rfl rfl rfl fun u R => ?_
  simp only [Zg, kA]
  repeat' (first | (refine Zb (.func 42) ?_; refine qC rfl rfl (hrd) ?_; rintro v ρ' L' hle ⟨rfl, rfl, rfl⟩ <;> (try simp only [kA])) | (refine Zb (.func 15) ?_; refine qC rfl rfl (hrr) ?_; rintro v ρ' L' hle ⟨rfl, rfl, rfl⟩ <;> (try simp only [kA])) | refine zV ?_ | intro _)
  exact qE (L' := []) ⟨Hp.le_refl _, nilS, rfl, by rw [if_neg (by decide)]; exact AS.nilS, rfl⟩
 rw [hr] at hrr
 simp only [if_true, ne_eq, not_true_eq_false, if_false]
 by_cases hn : n = 64
 case' neg =>
  simp only [hn, not_false_eq_true, if_true]
  refine Za Tryz.func124 rfl rfl rfl fun u R => ?_
  simp only [Zg, kA]
  repeat' (first | (refine Zb (.func 42) ?_; refine qC rfl rfl (hrd) ?_; rintro v ρ' L' hle ⟨rfl, rfl, rfl⟩ <;> (try simp only [kA])) | (refine Zb (.func 15) ?_; refine qC rfl rfl (hrr) ?_; rintro v ρ' L' hle ⟨rfl, rfl, rfl⟩ <;> (try simp only [kA])) | refine zV ?_ | intro _)
  exact qE (L' := []) ⟨Hp.le_refl _, nilS, rfl, by rw [if_neg (by decide)]; exact AS.nilS, rfl⟩
 subst hn
 simp only [not_true_eq_false, if_false, if_true]
 have hne := fun (k : Nat) => needs22_spec ρ s d hd v r h k
 have hre := fun (k : Nat) => redoes12_spec ρ v r h k
 refine Za Tryz.func124 rfl rfl rfl fun u R => ?_
 simp only [Zg, kA]
 repeat' (first | (refine Zb (.func 42) ?_; refine qC rfl rfl (hrd) ?_; rintro v ρ' L' hle ⟨rfl, rfl, rfl⟩ <;> (try simp only [kA])) | (refine Zb (.func 15) ?_; refine qC rfl rfl (hrr) ?_; rintro v ρ' L' hle ⟨rfl, rfl, rfl⟩ <;> (try simp only [kA])) | refine zV ?_ | intro _)
 rename_i rb _
 refine Zk [(0, _), (1, _), (5, _), (6, _), (7, _)] (fun (ζ : (Nat) × (Value) × (List Value) × (List Im)) => [(24, .int .i64 ζ.1), (8, ζ.2.1)]) (fun (ζ : (Nat) × (Value) × (List Value) × (List Im)) => ρ') (fun (ζ : (Nat) × (Value) × (List Value) × (List Im)) => [[(rb, .cells ⟨YI v r⟩ 39 (0, 0))], ZM ζ.2.1 (((ζ.2.2.2.map Wy).map shV).flatten) ζ.2.2.1 215]) (fun (ζ : (Nat) × (Value) × (List Value) × (List Im)) => ζ.1 ≤ 64 ∧ ζ.2.2.2.length ≤ ζ.1 ∧ OwnS ζ.2.1 ζ.2.2.2.length (((ζ.2.2.2.map Wy).map shV).flatten) ζ.2.2.1 4 ∧ ζ.2.2.2 = refL f d r ζ.1) (fun (ζ : (Nat) × (Value) × (List Value) × (List Im)) => 64 - ζ.1) ((0, .slice none 0 0, [], [])) (⟨Nat.zero_le _, Nat.zero_le _, OwnS.nil 4, rfl⟩) Zc Zc rfl tk ?_
 rintro ⟨k, vv, sp, acc⟩ hI
 try simp only [kA, List.append_assoc] at hI ⊢
 try dsimp only at hI ⊢
 obtain ⟨hk, hal, hown, hacc⟩ := hI
 obtain ⟨va, vc, rfl, _⟩ := hown.slice
 by_cases hlt : k < 64
 ·obtain ⟨b, off, C, T, fr, e1, hb, hfit, hc⟩ := hl.get (show k < l.length by omega)
  have hfk := hf k (by omega)
  have hsucc := refL_succ f d r k
  have hnk := hne k
  generalize l[k]'(by omega) = x at *
  rw [e1]
  have hce : C[off + k * 4 + 3]? = some (.int .u64 x.lsn) := cell_at4 hc rfl
  cases hq : XE d r k
  ·rw [hq] at hnk
   have hg : gI f d r k = [] := by unfold gI; rw [hq]; rfl
   rw [hg, List.append_nil, ← hacc] at hsucc
   repeat' (first | refine zV ?_ | intro _)
   refine tpA [0,1,2] (.e 3 [] (.f [4,5,6,7,8,9,10,11,12,13] .o)) ([[(rb, .cells ⟨YI v r⟩ 39 (0, 0))]]) ?_
   repeat' (refine iT ?_; first | refine rA ?_ | ((refine iE ?_; refine rE ?_) <;> ((try refine Zn ?_); (first | (refine Zb (.func 202) ?_; refine qC rfl rfl (hnk) ?_; rintro v ρ' L' hle ⟨rfl, rfl, rfl⟩ <;> (try simp only [kA])) | (refine Yp ?_; try intro _)) <;> ((try simp only [kA]); refine Zi ?_; refine rN ?_))))
   all_goals (repeat' (first | refine zV ?_ | intro _))
   all_goals rw [← e1]
   all_goals refine Zd (k + 1, .slice va acc.length vc, sp, acc) (⟨hlt, Nat.le_succ_of_le hal, hown, hsucc.symm⟩) Zc Zc rfl tk inferInstance (by first | omega | (dsimp only; omega))
  ·rw [hq] at hnk
   obtain ⟨y, hy, hym, hyp⟩ := needs_some hq
   by_cases hlt2 : f k < r.lsn
   ·have hg : gI f d r k = [y] := by unfold gI; rw [hq, decide_eq_true hlt2, hy]; rfl
    rw [hg, ← hacc] at hsucc
    have hrek := hre k
    rw [hy] at hrek
    have hsh : shV (Wy y) = [.int .i64 (k : Int), .int .i64 y.a.kind, .slice y.av.ra y.av.rn y.av.rc, .slice y.av.ka y.av.kn y.av.kc] := by rw [← hyp]; rfl
    have hrek2 : Spec Tryz.prog 203 [.agg ⟨YI v r⟩, .int .i64 k] ρ' [] (fun z ρq L' => z = .tuple ⟨[.agg ⟨[.int .i64 y.a.kind, .slice y.av.ra y.av.rn y.av.rc, .slice y.av.ka y.av.kn y.av.kc]⟩, .bool true]⟩ ∧ ρq = ρ' ∧ L' = []) := hrek
    repeat' (first | refine zV ?_ | intro _)
    refine tpA [0,1,2] (.e 3 [] (.f [4,5,6,7,8,9,10,11,12,13] .o)) ([[(rb, .cells ⟨YI v r⟩ 39 (0, 0))]]) ?_
    repeat' (refine iT ?_; first | refine rA ?_ | ((refine iE ?_; refine rE ?_) <;> ((try refine Zn ?_); (first | (refine Zb (.func 202) ?_; refine qC rfl rfl (hnk) ?_; rintro v ρ' L' hle ⟨rfl, rfl, rfl⟩ <;> (try simp only [kA])) | (refine Yp ?_; try intro _)) <;> ((try simp only [kA]); refine Zi ?_; refine rN ?_))))
    all_goals (repeat' (first | (refine Zb (.func 203) ?_; refine qC rfl rfl (hrek2) ?_; rintro v ρ' L' hle ⟨rfl, rfl, rfl⟩ <;> (try simp only [kA])) | (refine YH (css := [[.int .i64 (k : Int), .int .i64 y.a.kind, .slice y.av.ra y.av.rn y.av.rc, .slice y.av.ka y.av.kn y.av.kc]]) (sz := 4) rfl rfl rfl rfl (by simp) (by simp) rfl (fun bs => ?_); simp only [List.flatten_cons, List.flatten_nil, List.append_nil]) | (refine Ye (ys := [.int .i64 (k : Int), .int .i64 y.a.kind, .slice y.av.ra y.av.rn y.av.rc, .slice y.av.ka y.av.kn y.av.kc]) (m := 1) rfl rfl hown (hR := by repeat (first | exact Zx | apply ZA)) SrcV.lit rfl rfl (by decide) rfl (by omega) (by omega) rfl (fun v3 sp3 hown3 => ?_)) | refine zV ?_ | intro _))
    all_goals
     have hm : ((acc.map Wy).map shV).flatten ++ shV (Wy y) = (((acc ++ [y]).map Wy).map shV).flatten := by simp
     rw [← hsh, hm] at hown3 ⊢
     rw [← e1]
     refine Zd (k + 1, v3, sp3, acc ++ [y]) (⟨hlt, by rw [List.length_append]; exact Nat.succ_le_succ hal, by rw [List.length_append]; exact hown3, hsucc.symm⟩) Zc Zc rfl tk inferInstance (by first | omega | (dsimp only; omega))
   ·have hg : gI f d r k = [] := by unfold gI; rw [hq, decide_eq_false hlt2]; rfl
    rw [hg, List.append_nil, ← hacc] at hsucc
    repeat' (first | refine zV ?_ | intro _)
    refine tpA [0,1,2] (.e 3 [] (.f [4,5,6,7,8,9,10,11,12,13] .o)) ([[(rb, .cells ⟨YI v r⟩ 39 (0, 0))]]) ?_
    repeat' (refine iT ?_; first | refine rA ?_ | ((refine iE ?_; refine rE ?_) <;> ((try refine Zn ?_); (first | (refine Zb (.func 202) ?_; refine qC rfl rfl (hnk) ?_; rintro v ρ' L' hle ⟨rfl, rfl, rfl⟩ <;> (try simp only [kA])) | (refine Yp ?_; try intro _)) <;> ((try simp only [kA]); refine Zi ?_; refine rN ?_))))
    all_goals (repeat' (first | refine zV ?_ | intro _))
    all_goals rw [← e1]
    all_goals refine Zd (k + 1, .slice va acc.length vc, sp, acc) (⟨hlt, Nat.le_succ_of_le hal, hown, hsucc.symm⟩) Zc Zc rfl tk inferInstance (by first | omega | (dsimp only; omega))
 ·have hkn : k = 64 := by omega
  subst hkn
  repeat' (first | refine zV ?_ | intro _)
  refine Yw (ZM (.slice va acc.length vc) (((acc.map Wy).map shV).flatten) sp 215) (fun ρ3 hle3 hfz => ?_)
  obtain ⟨sa, sc, f1, hsc, hA2⟩ := hown.aIn (by simp) (fun x _ => shV_len x) hfz
  cases f1
  exact qE (L' := []) (hle := hle3) ⟨hle3, ⟨va, acc.length, vc⟩, rfl, by rw [← hacc]; exact ⟨hA2, by dsimp only; omega, hsc⟩, rfl⟩
end Go.Proofs.E
namespace Go.Proofs.E
open Go
set_option linter.unusedVariables false
set_option linter.unusedSimpArgs false
set_option linter.unusedSectionVars false
set_option maxRecDepth 4000
set_option maxHeartbeats 1000000
attribute [local irreducible] Yl TL TC TE Spec ZF R1 Hp.le EnvLe TS TR YS Zo
instance (priority := 1200) eqCkP {x y : Ym} : EqC Tryz.prog 8 108 (.agg ⟨YQ x⟩) (.agg ⟨YQ y⟩) (decide (x = y)) := by
 have h : EqC Tryz.prog 8 108 (.agg ⟨[.int .i64 x.page, .int .u64 x.since]⟩) (.agg ⟨[.int .i64 y.page, .int .u64 y.since]⟩) _ := inferInstance
 refine ⟨fun d w hd => ?_⟩
 rw [h.out d w hd]
 congr 1
 obtain ⟨t, i⟩ := x
 obtain ⟨t', i'⟩ := y
 simp only [Ym.mk.injEq, Bool.and_true, Bool.decide_and]
 have e : ((i : Int) == (i' : Int)) = decide (i = i') := by
  by_cases h : i = i'
  ·subst h; simp
  ·rw [decide_eq_false h]; simp only [beq_eq_false_iff_ne, ne_eq]; omega
 rw [e]
 by_cases h1 : t = t' <;> by_cases h2 : i = i' <;> simp [h1, h2]
end Go.Proofs.E
namespace Go.Proofs.E
open Go
set_option linter.unusedVariables false
set_option linter.unusedSimpArgs false
set_option linter.unusedSectionVars false
set_option maxRecDepth 4000
set_option maxHeartbeats 1000000
attribute [local irreducible] Yl TL TC TE Spec ZF R1 Hp.le EnvLe TS TR YS Zo TP QP
instance (priority := 1200) eqCkT {x y : CkT} : EqC Tryz.prog 8 187 (.agg ⟨ckTV x⟩) (.agg ⟨ckTV y⟩) (decide (x = y)) := by
 have h : EqC Tryz.prog 8 187 (.agg ⟨[.int .i64 x.txn, .int .u64 x.first, .int .u64 x.last, .int .u64 x.undo, .int .i64 x.state]⟩) (.agg ⟨[.int .i64 y.txn, .int .u64 y.first, .int .u64 y.last, .int .u64 y.undo, .int .i64 y.state]⟩) _ := inferInstance
 refine ⟨fun d w hd => ?_⟩
 rw [h.out d w hd]
 congr 1
 obtain ⟨t, a, b, c, s⟩ := x
 obtain ⟨t', a', b', c', s'⟩ := y
 simp only [CkT.mk.injEq, Bool.and_true, Bool.decide_and]
 have e : ∀ i i' : Nat, ((i : Int) == (i' : Int)) = decide (i = i') := fun i i' => by
  by_cases h : i = i'
  ·subst h; simp
  ·rw [decide_eq_false h]; simp only [beq_eq_false_iff_ne, ne_eq]; omega
 rw [e, e, e]
 have e2 : ∀ i i' : Int, (i == i') = decide (i = i') := fun i i' => by
  by_cases h : i = i' <;> simp [h]
 rw [e2, e2]
instance (priority := 1200) eqStp {x y : Stp} : EqC Tryz.prog 8 173 (.agg ⟨stpV x⟩) (.agg ⟨stpV y⟩) (decide (x = y)) := by
 have h : EqC Tryz.prog 8 173 (.agg ⟨[.int .i64 x.kind, .int .i64 x.row.t, .int .u16 x.row.id, .int .i64 x.row.val, strV x.row.note, .int .i64 x.by']⟩) (.agg ⟨[.int .i64 y.kind, .int .i64 y.row.t, .int .u16 y.row.id, .int .i64 y.row.val, strV y.row.note, .int .i64 y.by']⟩) _ := inferInstance
 refine ⟨fun d w hd => ?_⟩
 rw [h.out d w hd]
 congr 1
 obtain ⟨k, ⟨t, i, v, n⟩, b⟩ := x
 obtain ⟨k', ⟨t', i', v', n'⟩, b'⟩ := y
 simp only [Stp.mk.injEq, Row.mk.injEq, Bool.and_true, Bool.decide_and]
 have e : ∀ i i' : Nat, ((i : Int) == (i' : Int)) = decide (i = i') := fun i i' => by
  by_cases h : i = i'
  ·subst h; simp
  ·rw [decide_eq_false h]; simp only [beq_eq_false_iff_ne, ne_eq]; omega
 rw [e]
 have e2 : ∀ i i' : Int, (i == i') = decide (i = i') := fun i i' => by
  by_cases h : i = i' <;> simp [h]
 rw [e2, e2, e2, e2]
 simp only [Bool.and_assoc]
end Go.Proofs.E
namespace Go.Proofs.E
open Go
set_option linter.unusedVariables false
set_option linter.unusedSimpArgs false
set_option linter.unusedSectionVars false
set_option maxRecDepth 4000
set_option maxHeartbeats 1000000
attribute [local irreducible] Yl TL TC TE Spec ZF R1 Hp.le EnvLe TS TR YS Zo
def shortR (r : Row) : Row := ⟨r.t, r.id, r.val, r.note.take 9⟩
def fewC (c : Yh) : Yh := ⟨c.kind, (c.rows.take 5).map shortR, c.kids.take 5⟩
theorem take_min9 (l : List UInt8) : l.take (min (l.length : Int) 9).toNat = l.take 9 := by
 by_cases h : l.length ≤ 9
 ·rw [show (min (l.length : Int) 9).toNat = l.length by omega, List.take_of_length_le (Nat.le_refl _), List.take_of_length_le h]
 ·rw [show (min (l.length : Int) 9).toNat = 9 by omega]
structure CInW (ρ : Hp) (v : CV) (rows : List Row) (kids : List Kid) : Prop where
 r : AIn ρ 4 Yv v.ra v.rn rows
 k : AIn ρ 3 Xi v.ka v.kn kids
 rb : v.rn ≤ 9223372036854775807
 kb : v.kn ≤ 9223372036854775807
 rc : v.rn ≤ v.rc
 kc : v.kn ≤ v.kc
theorem CInW.mono {ρ ρ' v rows kids} (h : CInW ρ v rows kids) (hle : ρ.le ρ') : CInW ρ' v rows kids := ⟨h.r.mono hle, h.k.mono hle, h.rb, h.kb, h.rc, h.kc⟩
theorem flatK_one (l : List Kid) : ((l.map Xi).flatten).all (·.oneCell') = true := by
 induction l with
 | nil => rfl
 | cons k r ih => simp only [List.map_cons, List.flatten_cons, List.all_append, ih, Bool.and_true]; rfl
theorem flatR_one (l : List Row) : ((l.map Yv).flatten).all (·.oneCell') = true := by
 induction l with
 | nil => rfl
 | cons k r ih => simp only [List.map_cons, List.flatten_cons, List.all_append, ih, Bool.and_true]; rfl
theorem take_five {α : Type} (l : List α) (n m : Nat) (h : l.length = n) (hm : m = min n 5) : l.take m = l.take 5 := by
 by_cases h5 : n ≤ 5
 ·rw [show m = n by omega, List.take_of_length_le (by omega), List.take_of_length_le (by omega)]
 ·rw [show m = 5 by omega]
theorem row_get {sp : List Value} : ∀ (acc : List Row) (k : Nat) (r : Row), acc[k]? = some r → ((acc.map Yv).flatten ++ sp)[0 + k * 4 + 3]? = some (strV r.note)
 | [], k, r, h => by cases h
 | a :: t, 0, r, h => by cases h; rfl
 | a :: t, k + 1, r, h => by
  have ih := row_get (sp := sp) t k r (by simpa using h)
  rw [show 0 + (k + 1) * 4 + 3 = (0 + k * 4 + 3) + 4 by omega]
  simpa only [List.map_cons, List.flatten_cons, Yv, kA, List.getElem?_cons_succ] using ih
theorem row_set {sp : List Value} (s : List UInt8) : ∀ (acc : List Row) (k : Nat) (r : Row), acc[k]? = some r → ((acc.map Yv).flatten ++ sp).set (0 + k * 4 + 3) (strV s) = ((acc.set k ⟨r.t, r.id, r.val, s⟩).map Yv).flatten ++ sp
 | [], k, r, h => by cases h
 | a :: t, 0, r, h => by cases h; rfl
 | a :: t, k + 1, r, h => by
  have ih := row_set (sp := sp) s t k r (by simpa using h)
  rw [show 0 + (k + 1) * 4 + 3 = (0 + k * 4 + 3) + 4 by omega]
  simp only [List.map_cons, List.flatten_cons, Yv, kA, List.set_cons_succ]
  rw [ih]
theorem row_setL {sp : List Value} (s : List UInt8) {acc : List Row} {k : Nat} {r : Row} (h : acc[k]? = some r) : SetL ((acc.map Yv).flatten ++ sp) (0 + k * 4 + 3) (strV s) (((acc.set k ⟨r.t, r.id, r.val, s⟩).map Yv).flatten ++ sp) := by
 have h1 := row_get (sp := sp) acc k r h
 have hlt : 0 + k * 4 + 3 < ((acc.map Yv).flatten ++ sp).length := by
  rcases Nat.lt_or_ge (0 + k * 4 + 3) ((acc.map Yv).flatten ++ sp).length with hh | hh
  ·exact hh
  ·rw [List.getElem?_eq_none hh] at h1; cases h1
 refine ⟨hlt, ?_⟩
 rw [← row_set s acc k r h, List.set_eq_take_append_cons_drop, if_pos hlt]
 simp [stc]
theorem set_step (RS : List Row) (k : Nat) (h : k < RS.length) : ((RS.take k).map shortR ++ RS.drop k).set k (shortR RS[k]) = (RS.take (k + 1)).map shortR ++ RS.drop (k + 1) := by
 rw [List.set_append_right _ _ (by simp; omega), List.drop_eq_getElem_cons h, List.take_succ_eq_append_getElem h]
 rw [show k - ((RS.take k).map shortR).length = 0 by simp; omega]
 simp only [List.set_cons_zero, List.map_append, List.map_cons, List.map_nil, List.append_assoc, kA]
theorem get_step (RS : List Row) (k : Nat) (h : k < RS.length) : ((RS.take k).map shortR ++ RS.drop k)[k]? = some RS[k] := by
 rw [List.getElem?_append_right (by simp; omega), List.drop_eq_getElem_cons h]
 simp [show k - min k RS.length = 0 by omega]
def fewIm (x : Im) : Im := ⟨x.page, nilCV, fewC x.b, nilCV, fewC x.a⟩
theorem CW.few {ρ v c} (h : CW ρ v c) : CInW ρ v c.rows c.kids := ⟨h.r, h.k, by have := h.rb; omega, by have := h.kb; omega, h.rc, h.kc⟩
theorem fewC_fit {ρ v c} (h : CW ρ v c) {ρ' v'} (h' : CIn ρ' v' (fewC c).rows (fewC c).kids) : CI ρ' v' (fewC c) := ⟨h', fun r hr => by
  obtain ⟨y, hy, rfl⟩ := List.mem_map.1 hr
  have := h.row y (List.mem_of_mem_take hy)
  exact ⟨this.id, this.val⟩, fun k hk => h.kid k (List.mem_of_mem_take hk)⟩
theorem flat_one {α : Type} (g : α → List Value) (hg : ∀ x, (g x).all (·.oneCell') = true) (l : List α) : ((l.map g).flatten).all (·.oneCell') = true := by
 induction l with
 | nil => rfl
 | cons k r ih => simp only [List.map_cons, List.flatten_cons, List.all_append, ih, Bool.and_true]; exact hg k
theorem take_some {α : Type} (c : Nat) (l : List α) (n m : Nat) (h : l.length = n) (hm : m = min n c) : l.take m = l.take c := by
 by_cases h5 : n ≤ c
 ·rw [show m = n by omega, List.take_of_length_le (by omega), List.take_of_length_le (by omega)]
 ·rw [show m = c by omega]
theorem up_lt {α : Type} {right : α → Bool} {by' : α → Int} {l : List α} (h : upB right by' l l.length = true) : ∀ k (hk : k < l.length) j (hj : j < k), by' (l[j]'(by omega)) < by' l[k] := by
 intro k
 induction k with
 | zero => intro _ j hj; omega
 | succ k ih =>
  intro hk j hj
  have h2 := (up_all h (k + 1) hk).2
  simp only [Nat.add_sub_cancel] at h2
  have h3 : by' (l[k]'(by omega)) < by' l[k + 1] := by
   rcases h2 with h2 | h2
   ·omega
   ·exact h2
  by_cases e : j = k
  ·subst e; exact h3
  ·have := ih (by omega) j (by omega); omega
theorem recOk_up2 {r : Rc} (h : ZT r = true) (k : r.kind = 2) : upB (imOk true) Im.page r.ims r.ims.length = true := by
 unfold ZT askOk at h
 rw [if_pos k, Bool.and_eq_true, Bool.and_eq_true, Bool.and_eq_true, Bool.and_eq_true] at h
 have := h.2.2.1.2
 unfold imsOk at this
 rw [Bool.and_eq_true] at this
 exact this.2
end Go.Proofs.E
namespace Go.Proofs.E
open Go Go.RowKit
set_option linter.unusedVariables false
set_option linter.unusedSimpArgs false
set_option linter.unusedSectionVars false
theorem filt_step (P : Int → Bool) : ∀ (l : List Im), l.Pairwise (fun a b => a.page < b.page) → ∀ (k : Int),
  l.filter (fun x => decide (x.page < k + 1) && P x.page) = l.filter (fun x => decide (x.page < k) && P x.page) ++ (if P k then (l.find? (fun x => decide (x.page = k))).toList else [])
 | [], _, k => by cases P k <;> rfl
 | x :: t, h, k => by
  rw [List.pairwise_cons] at h
  have ih := filt_step P t h.2 k
  have hgt : k ≤ x.page → t.filter (fun x => decide (x.page < k + 1) && P x.page) = [] ∧ t.filter (fun x => decide (x.page < k) && P x.page) = [] ∧ t.find? (fun x => decide (x.page = k)) = none := fun hx => by
   refine ⟨List.filter_eq_nil_iff.2 (fun y hy => ?_), List.filter_eq_nil_iff.2 (fun y hy => ?_), List.find?_eq_none.2 (fun y hy => ?_)⟩
   all_goals
    have := h.1 y hy
    simp
    omega
  rw [List.filter_cons, List.filter_cons, List.find?_cons]
  rcases Int.lt_trichotomy x.page k with hl | hl | hl
  ·rw [decide_eq_true (show x.page < k + 1 by omega), decide_eq_true hl, decide_eq_false (show ¬ x.page = k by omega), ih]
   cases P x.page <;> simp
  ·obtain ⟨g1, g2, g3⟩ := hgt (by omega)
   rw [g1, g2, decide_eq_true (show x.page < k + 1 by omega), decide_eq_false (show ¬ x.page < k by omega), decide_eq_true hl, hl]
   cases P k <;> simp
  ·obtain ⟨g1, g2, g3⟩ := hgt (by omega)
   rw [g1, g2, decide_eq_false (show ¬ x.page < k + 1 by omega), decide_eq_false (show ¬ x.page < k by omega), decide_eq_false (show ¬ x.page = k by omega), g3]
   cases P k <;> simp
theorem filt_all (P : Int → Bool) (l : List Im) (h : l.Pairwise (fun a b => a.page < b.page)) (h0 : ∀ x ∈ l, 0 ≤ x.page) : ∀ (k : Nat),
  (List.range k).flatMap (fun n : Nat => if P n then (l.find? (fun x => decide (x.page = (n : Int)))).toList else []) = l.filter (fun x => decide (x.page < (k : Int)) && P x.page)
 | 0 => by
  symm
  refine List.filter_eq_nil_iff.2 (fun y hy => ?_)
  have := h0 y hy
  simp
  intro h1
  omega
 | k + 1 => by
  rw [List.range_succ, List.flatMap_append, filt_all P l h h0 k]
  have := filt_step P l h (k : Int)
  rw [show ((k + 1 : Nat) : Int) = (k : Int) + 1 by omega, this]
  simp
theorem ims_up {r : Rc} (h : ZT r = true) : r.ims.Pairwise (fun a b => a.page < b.page) := by
 have key : ∀ (right : Im → Bool), upB right Im.page r.ims r.ims.length = true → r.ims.Pairwise (fun a b => a.page < b.page) := fun right hu => by
  rw [List.pairwise_iff_getElem]
  intro i j hi hj hij
  exact up_lt hu j hj i hij
 have f := XW h
 rcases f.i0 with hi | hk | hk
 ·rw [hi]; exact .nil
 ·exact key _ (recOk_up2 h hk)
 ·refine key (imOk false) ?_
  unfold ZT askOk at h
  rw [if_neg (by omega), if_neg (by omega), if_pos hk, Bool.and_eq_true, Bool.and_eq_true, Bool.and_eq_true] at h
  have := h.2.2.1
  rw [if_neg (show ¬ r.kind = 4 by omega), Bool.and_eq_true] at this
  have := this.2
  unfold imsOk at this
  rw [Bool.and_eq_true] at this
  exact this.2
theorem redo_ref {f : Int → Nat} {d : List Ym} {r : Rc} (h : WJ d r = 0) : redoL f d r = refL f d r 64 := by
 have hr : ZT r = true := by
  unfold WJ at h
  cases hr : ZT r
  ·rw [hr] at h; revert h; cases Xn d <;> simp
  ·rfl
 have hf := XW hr
 have := filt_all (fun n => XE d r n && decide (f n < r.lsn)) r.ims (ims_up hr) (fun x hx => (hf.im x hx).1.1) 64
 unfold refL gI redoL WE
 rw [this, List.filter_filter]
 refine List.filter_congr (fun x hx => ?_)
 rw [decide_eq_true (show x.page < ((64 : Nat) : Int) from (hf.im x hx).1.2), Bool.true_and, Bool.and_comm]
end Go.Proofs.E
namespace Go.Proofs.E
open Go
set_option linter.unusedVariables false
set_option linter.unusedSimpArgs false
set_option linter.unusedSectionVars false
set_option maxRecDepth 4000
set_option maxHeartbeats 1000000
attribute [local irreducible] Yl TL TC TE Spec ZF R1 Hp.le EnvLe TS TR YS Zo
abbrev PgF := Nat → YB
theorem seen_hold (held : Nat → YB) (pv : PV) (k n : Int) : Xw held (holdV held pv k) n = Xw held pv n := by
 unfold holdV
 conv => lhs; unfold Xw
 unfold setV
 split
 ·rename_i e; subst e; rfl
 ·rfl
theorem seen_holds (held : Nat → YB) : ∀ (l : List Sh) (pv : PV) (n : Int), Xw held (XM held pv l) n = Xw held pv n
 | [], pv, n => rfl
 | s :: r, pv, n => by
  show Xw held (XM held (holdV held pv s.page) r) n = _
  rw [seen_holds held r, seen_hold]
structure Sees (held : Nat → YB) (pv : PV) (p : PgF) : Prop where
 see : ∀ n : Nat, n < 64 → ((Xw held pv n).1, (Xw held pv n).2.1) = p n
theorem Sees.same {held : Nat → YB} {pv pv' : PV} {p : PgF} (h : Sees held pv p) (e : ∀ n : Int, Xw held pv' n = Xw held pv n) : Sees held pv' p := ⟨fun n hn => by rw [e]; exact h.see n hn⟩
theorem Sees.hold {held : Nat → YB} {pv : PV} {p : PgF} (h : Sees held pv p) (k : Int) : Sees held (holdV held pv k) p := h.same (seen_hold held pv k)
theorem Sees.new {held : Nat → YB} {pv : PV} {p : PgF} (h : Sees held pv p) {lsn : Nat} {k : Int} {c : Yh} (h0 : 0 ≤ k) : Sees held (newV lsn pv k c) (upd p k.toNat (c, lsn)) := by
 refine ⟨fun n hn => ?_⟩
 unfold newV setV upd
 by_cases e : (n : Int) = k
 ·have e2 : n = k.toNat := by omega
  unfold Xw
  dsimp only
  rw [if_pos e, if_pos e2]; rfl
 ·have e2 : ¬ n = k.toNat := by omega
  have := h.see n hn
  unfold Xw at this ⊢
  dsimp only
  rw [if_neg e, if_neg e2]; exact this
def putS (lsn : Nat) : PgF → List Sh → PgF
 | p, [] => p
 | p, s :: r => putS lsn (upd p s.page.toNat (s.c, lsn)) r
theorem putS_snoc (lsn : Nat) : ∀ (p : PgF) (l : List Sh) (s : Sh), putS lsn p (l ++ [s]) = upd (putS lsn p l) s.page.toNat (s.c, lsn)
 | p, [], s => rfl
 | p, x :: r, s => by simp only [List.cons_append, putS]; exact putS_snoc lsn _ r s
theorem Sees.chgs {held : Nat → YB} {lsn : Nat} : ∀ (l : List Sh) {pv : PV} {p : PgF}, Sees held pv p → (∀ s ∈ l, 0 ≤ s.page) → Sees held (chgsV lsn pv l) (putS lsn p l)
 | [], _, _, h, _ => h
 | s :: r, _, _, h, hl => Sees.chgs r (h.new (hl s (by simp))) (fun x hx => hl x (by simp [hx]))
def Yu (p : PgF) (d : List Ym) (r : Rc) : List Sh := (redoL (fun n => (p n.toNat).2) d r).map Wy
def Ww (d : List Ym) (p : PgF) (r : Rc) : PgF := putS r.lsn p (Yu p d r)
theorem redoS_in {p : PgF} {d : List Ym} {r : Rc} {s : Sh} (h : s ∈ Yu p d r) : ∃ x ∈ r.ims, s = Wy x ∧ (p x.page.toNat).2 < r.lsn ∧ XE d r x.page = true := by
 obtain ⟨x, hx, rfl⟩ := List.mem_map.1 h
 obtain ⟨h1, h2⟩ := List.mem_filter.1 hx
 obtain ⟨h3, h4⟩ := List.mem_filter.1 h1
 exact ⟨x, h3, rfl, of_decide_eq_true h2, h4⟩
theorem riseS_of : ∀ {l : List Sh} {last : Int}, l.Pairwise (fun a b => a.page < b.page) → (∀ s ∈ l, last < s.page ∧ 0 ≤ s.page ∧ s.page < 64) → riseS last l = true
 | [], _, _, _ => rfl
 | s :: r, last, h, hl => by
  rw [List.pairwise_cons] at h
  rw [riseS, Bool.and_eq_true, decide_eq_true_eq]
  exact ⟨hl s (by simp), riseS_of h.2 (fun x hx => ⟨h.1 x hx, (hl x (by simp [hx])).2⟩)⟩
theorem redoS_page {p : PgF} {d : List Ym} {r : Rc} (hr : ZT r = true) {s : Sh} (h : s ∈ Yu p d r) : 0 ≤ s.page ∧ s.page < 64 := by
 obtain ⟨x, hx, rfl, _⟩ := redoS_in h
 exact ((XW hr).im x hx).1
theorem redoS_rise {p : PgF} {d : List Ym} {r : Rc} (hr : ZT r = true) : riseS (-1) (Yu p d r) = true := by
 refine riseS_of ?_ (fun s hs => by have := redoS_page hr hs; omega)
 unfold Yu redoL WE
 rw [List.pairwise_map]
 exact ((ims_up hr).filter _).filter _
theorem askE_redo {known : Bool} {held : Nat → YB} {pv : PV} {p : PgF} {d : List Ym} {r : Rc} (hs : Sees held pv p) (hr : ZT r = true) (hl : Yu p d r ≠ []) : askE known held pv r.lsn (Yu p d r) = if known = true then 0 else 2 := by
 unfold askE
 cases known
 ·rw [if_pos (.inl rfl), if_neg (by simp)]
 ·rw [if_neg (by simp [hl]), redoS_rise hr, if_neg (by simp)]
  have h1 : (Yu p d r).all (fun s => ZC s.c) = true := List.all_eq_true.2 (fun s hs => by
   obtain ⟨x, hx, rfl, _⟩ := redoS_in hs
   exact ((XW hr).im x hx).2.1)
  have h2 : (Yu p d r).any (fun s => decide (r.lsn ≤ (Xw held (XM held pv (Yu p d r)) s.page).2.1)) = false := List.any_eq_false.2 (fun s hm => by
   obtain ⟨h0, h64⟩ := redoS_page hr hm
   obtain ⟨x, hx, rfl, hlt, _⟩ := redoS_in hm
   rw [seen_holds]
   have := congrArg Prod.snd (hs.see (Wy x).page.toNat (by omega))
   rw [Int.toNat_of_nonneg h0] at this
   dsimp only at this
   rw [this]
   simp only [decide_eq_true_eq, Nat.not_le]
   exact hlt)
  rw [h1, h2]; simp
theorem Sees.step {known : Bool} {held : Nat → YB} {pv : PV} {p : PgF} {d : List Ym} {r : Rc} (hs : Sees held pv p) (hr : ZT r = true) (hl : Yu p d r ≠ []) : Sees held (chgV known held pv r.lsn (Yu p d r)) (if known = true then Ww d p r else p) := by
 have hE := askE_redo (known := known) hs hr hl
 cases known
 ·unfold chgV askV
  rw [hE, if_neg (by simp), if_pos (.inl rfl)]; exact hs
 ·rw [if_pos rfl] at hE ⊢
  unfold chgV
  rw [if_pos hE, (askE_zero hE).2.2.2.1]
  exact Sees.chgs _ (hs.same (seen_holds held _ pv)) (fun s hm => (redoS_page hr hm).1)
structure PqI (ρ : Hp) (pb fb lb mb db t : Nat) (pg : Pgs) (es : List MapEntry) (k : DK) (D : DS) (held : Nat → YB) (p : PgF) : Prop where
 po : PoIn ρ pb fb lb mb
 fi : FIn ρ fb db 902
 mp : MpIn ρ es pg
 dk : DOk k D
 fo : FO D 902 t held
 lv : Lv1 D
 se : Sees held (vw pg) p
theorem PqI.mono {ρ ρ' : Hp} {pb fb lb mb db t : Nat} {pg : Pgs} {es : List MapEntry} {k : DK} {D : DS} {held : Nat → YB} {p : PgF} (h : PqI ρ pb fb lb mb db t pg es k D held p) (hl : ρ.le ρ') : PqI ρ' pb fb lb mb db t pg es k D held p :=
 ⟨Hp.at' hl h.po, h.fi.mono hl, h.mp.mono hl, h.dk, h.fo, h.lv, h.se⟩
theorem page24 (ρ : Hp) (pb fb lb mb db t num : Nat) (pg : Pgs) (es : List MapEntry) (ck : Nat) (k : DK) (D : DS) (held : Nat → YB) (p : PgF) (h : PqI ρ pb fb lb mb db t pg es k D held p) (hn : num < 64) :
  Spec Tryz.prog 59 [.pointer (some ⟨pb, 0, none⟩), .int .i64 num] ρ (Xa mb es ck :: Zl db k D)
   (fun v ρ' L' => ρ.le ρ' ∧ ∃ w es' ck' pg' D', v = .tuple ⟨[.agg ⟨Xl (p num).1.kind w⟩, .int .u64 ((p num).2 : Nat), .int .i64 0]⟩ ∧ CIn ρ' w (p num).1.rows (p num).1.kids ∧ PqI ρ' pb fb lb mb db t pg' es' k D' held p ∧ Lv D D' ∧ L' = Xa mb es' ck' :: Zl db k D') := by
 refine (page_lv ρ pb fb lb mb db 902 num t h.po h.fi (by omega) hn k D h.dk pg es ck h.mp held h.fo h.lv).mono ?_
 rintro v ρ' L' _ ⟨hl, w, es', ck', pg', D', h1, h2, h3, h4, h5, h6, h7, h8⟩
 have e := h.se.see num hn
 have e1 := congrArg Prod.fst e
 have e2 := congrArg Prod.snd e
 dsimp only at e1 e2
 rw [e1, e2] at h1
 rw [e1] at h2
 exact ⟨hl, w, es', ck', pg', D', h1, h2, ⟨Hp.at' hl h.po, h.fi.mono hl, h3, h5, h7, h6.next, by rw [h4]; exact h.se.hold num⟩, h6, h8⟩
def StJ (pb fb lb mb db t xb : Nat) (k : DK) (D0 : DS) (held : Nat → YB) (p : PgF) (ρ : Hp) (L : SH) : Prop :=
 ∃ es ck pg D, PqI ρ pb fb lb mb db t pg es k D held p ∧ Lv D0 D ∧ L = bpC xb pb :: Xa mb es ck :: Zl db k D
theorem step1_spec (ρ : Hp) (pb fb lb mb db t xb : Nat) (k : DK) (D0 : DS) (held : Nat → YB) (p : PgF) (L : SH) (h : StJ pb fb lb mb db t xb k D0 held p ρ L) (page : Int) (h0 : 0 ≤ page) (h1 : page < 64) :
  Spec Tryz.prog 122 [.int .i64 page, .pointer (some ⟨xb, 0, none⟩)] ρ L (fun z ρ' L' => z = .tuple ⟨[.int .u64 ((p page.toNat).2 : Nat), .int .i64 0]⟩ ∧ ρ.le ρ' ∧ StJ pb fb lb mb db t xb k D0 held p ρ' L') := by
 obtain ⟨es, ck, pg, D, hq, hL, rfl⟩ := h
 obtain ⟨n, rfl⟩ : ∃ n : Nat, page = (n : Int) := ⟨page.toNat, by omega⟩
 have hP := page24 ρ pb fb lb mb db t n pg es ck k D held p hq (by omega)
 simp only [Int.toNat_natCast]
 refine Za Tryz.func122 rfl rfl rfl fun u R => ?_
 simp only [Zg, kA]
 repeat' (first | (refine Zb (.func 59) ?_; refine qC rfl rfl hP ?_; rintro v1 ρ1 L1 hle1 ⟨hl1, w, es', ck', pg', D', rfl, hC, hq', hL', rfl⟩; try simp only [kA]) | refine zV ?_ | intro _)
 exact qE (L' := bpC xb pb :: Xa mb es' ck' :: Zl db k D') ⟨rfl, hl1, es', ck', pg', D', hq', hL.trans hL', rfl⟩
def okT (known : Bool) (d : List Ym) (p : PgF) (r : Rc) : Bool := decide (WJ d r = 0) && (known || (Yu p d r).isEmpty)
def stpE (known : Bool) (d : List Ym) (p : PgF) (r : Rc) : Int := if WJ d r ≠ 0 then WJ d r else if okT known d p r = true then 0 else 2
def stpN (known : Bool) (d : List Ym) (p : PgF) (r : Rc) : Nat := if okT known d p r = true then (Yu p d r).length else 0
def stpP (known : Bool) (d : List Ym) (p : PgF) (r : Rc) : PgF := if okT known d p r = true then Ww d p r else p
theorem why_rec {d : List Ym} {r : Rc} (h : WJ d r = 0) : ZT r = true ∧ Xn d = true := by
 unfold WJ at h
 cases ht : Xn d
 ·rw [ht] at h; simp at h
 ·rw [ht] at h
  cases hr : ZT r
  ·rw [hr] at h; simp at h
  ·exact ⟨rfl, rfl⟩
theorem redoS_shs {ρ : Hp} {s2 : SV} {p : PgF} {d : List Ym} {v : RV} {r : Rc} (h : RcIn ρ v r) (h2 : AS ρ 4 shV s2 (Yu p d r)) : ShsIn ρ s2.a s2.n s2.c (Yu p d r) := ⟨h2.at', h2.big, fun s hs => by
 obtain ⟨x, hx, rfl, _⟩ := redoS_in hs
 exact (h.im x hx).a.cin⟩
theorem step24_spec (ρ : Hp) (pb fb lb mb rb db t : Nat) (pg : Pgs) (es : List MapEntry) (ck : Nat) (k : DK) (D : DS) (held : Nat → YB) (p : PgF) (h : PqI ρ pb fb lb mb db t pg es k D held p) (S : LgS) (v : Value) (sp : List Value) (hS : LgIn ρ S v sp)
  (s : SV) (d : List Ym) (hd : AS ρ 2 YQ s d) (rv : RV) (r : Rc) (hr : RcIn ρ rv r) :
  Spec Tryz.prog 41 [.pointer (some ⟨pb, 0, none⟩), .slice s.a s.n s.c, .agg ⟨YI rv r⟩] ρ (ZY lb rb S v :: Yy S v sp :: Xa mb es ck :: Zl db k D)
   (fun z ρ' L' => z = .tuple ⟨[.int .i64 (stpN (Wa S r.lsn).isSome d p r : Nat), .int .i64 (stpE (Wa S r.lsn).isSome d p r)]⟩ ∧ ρ.le ρ' ∧ ∃ es' ck' pg' D', PqI ρ' pb fb lb mb db t pg' es' k D' held (stpP (Wa S r.lsn).isSome d p r) ∧ Lv D D' ∧ L' = ZY lb rb S v :: Yy S v sp :: Xa mb es' ck' :: Zl db k D') := by
 have hwy := why_spec ρ s d hd rv r hr
 generalize hk : (Wa S r.lsn).isSome = known
 by_cases hw : WJ d r = 0
 case' neg =>
  have hok : okT known d p r = false := by unfold okT; rw [decide_eq_false hw]; rfl
  have e1 : stpE known d p r = WJ d r := by unfold stpE; rw [if_pos hw]
  have e2 : stpN known d p r = 0 := by unfold stpN; rw [hok]; rfl
  have e3 : stpP known d p r = p := by unfold stpP; rw [hok]; rfl
  rw [e1, e2, e3]
  have hb : (WJ d r != 0) = true := by simpa using hw
  generalize WJ d r = E at *
  refine Za Tryz.func41 rfl rfl rfl fun u R => ?_
  simp only [Zg, kA]
  repeat' (first | (refine Zb (.func 120) ?_; refine qR rfl rfl (hwy) ?_; try simp only [kA]) | refine zV ?_ | intro _)
  exact qE (L' := ZY lb rb S v :: Yy S v sp :: Xa mb es ck :: Zl db k D) ⟨rfl, Hp.le_refl _, es, ck, pg, D, h, h.lv, rfl⟩
 obtain ⟨hrok, htok⟩ := why_rec hw
 rw [hw] at hwy
 have hsh := fun xb => sheetsJ_spec ρ s d hd rv r hr 122 [.pointer (some ⟨xb, 0, none⟩)] (bpC xb pb :: Xa mb es ck :: Zl db k D) (fun n => (p n.toNat).2) (StJ pb fb lb mb db t xb k D held p) ⟨es, ck, pg, D, h, h.lv, rfl⟩
  (fun {ρ1 ρ2 L} hl ⟨es', ck', pg', D', hq, hL, e⟩ => ⟨es', ck', pg', D', hq.mono hl, hL, e⟩)
  (fun ρ2 X2 _ hJ x hx => step1_spec ρ2 pb fb lb mb db t xb k D held p X2 hJ x.page ((XW hrok).im x hx).1.1 ((XW hrok).im x hx).1.2)
 have hRS : (redoL (fun n => (p n.toNat).2) d r).map Wy = Yu p d r := rfl
 rw [hRS] at hsh
 refine Za Tryz.func41 rfl rfl rfl fun u R => ?_
 simp only [Zg, kA]
 by_cases hl : Yu p d r = []
 ·have hok : okT known d p r = true := by unfold okT; rw [decide_eq_true hw, hl]; simp
  have e1 : stpE known d p r = 0 := by unfold stpE; rw [if_neg (by simp [hw]), if_pos hok]
  have e2 : stpN known d p r = 0 := by unfold stpN; rw [if_pos hok, hl]; rfl
  have e3 : stpP known d p r = p := by unfold stpP Ww; rw [if_pos hok, hl]; rfl
  rw [e1, e2, e3]
  repeat' (first | (refine Zb (.func 120) ?_; refine qR rfl rfl (hwy) ?_; try simp only [kA]) | (refine Zb (.func 121) ?_; refine qC rfl rfl (hsh _) ?_; rintro v1 ρ1 L1 hle1 ⟨hl1, s2, rfl, hs2, es', ck', pg', D', hq', hL', rfl⟩; have hn0 : ((s2.n : Nat) : Int) = 0 := (by have e := hs2.at'.len; rw [hl, List.length_nil] at e; omega); try simp only [kA]) | refine zV ?_ | intro _)
  exact qE (L' := ZY lb rb S v :: Yy S v sp :: Xa mb es' ck' :: Zl db k D') ⟨rfl, hl1, es', ck', pg', D', hq', hL', rfl⟩
 ·have hE := fun {pv : PV} (hs : Sees held pv p) => askE_redo (known := known) hs hrok hl
  have hSt := fun {pv : PV} (hs : Sees held pv p) => hs.step (known := known) hrok hl
  have hln : 0 < (Yu p d r).length := List.length_pos_iff.2 hl
  have hch := fun ρ1 pg1 es1 ck1 D1 s2 (h1 : PqI ρ1 pb fb lb mb db t pg1 es1 k D1 held p) (hl1 : ρ.le ρ1) (hs2 : AS ρ1 4 shV s2 (Yu p d r)) => change17_spec ρ1 pb fb lb mb rb db 902 t h1.po h1.fi (by omega) S v sp (hS.mono hl1) k D1 h1.dk pg1 es1 ck1 h1.mp held h1.fo h1.lv r.lsn s2.a s2.n s2.c (Yu p d r) (redoS_shs (hr.mono hl1) hs2)
  rw [hk] at hch
  cases hkn : known
  ·subst hkn
   have hok : okT false d p r = false := by unfold okT; rw [decide_eq_true hw]; simpa using hl
   have e1 : stpE false d p r = 2 := by unfold stpE; rw [if_neg (by simp [hw]), hok]; rfl
   have e2 : stpN false d p r = 0 := by unfold stpN; rw [hok]; rfl
   have e3 : stpP false d p r = p := by unfold stpP; rw [hok]; rfl
   rw [e1, e2, e3]
   repeat' (first | (refine Zb (.func 120) ?_; refine qR rfl rfl (hwy) ?_; try simp only [kA]) | (refine Zb (.func 121) ?_; refine qC rfl rfl (hsh _) ?_; rintro v1 ρ1 L1 hle1 ⟨hl1, s2, rfl, hs2, es', ck', pg', D', hq', hL', rfl⟩; have hn0 : ¬ ((s2.n : Nat) : Int) = 0 := (by have e := hs2.at'.len; omega); have hc := hch _ _ _ ck' _ s2 hq' hl1 hs2; rw [hE hq'.se] at hc; try simp only [kA]) | (refine Zb (.func 123) ?_; refine qC rfl rfl hc ?_; rintro v2 ρ2 L2 hle2 ⟨rfl, hl2, es2, ck2, pg2, D2, hm2, hv2, hk2, hL2, hF2, rfl⟩; try simp only [kA]) | refine zV ?_ | intro _)
   have hse := hSt hq'.se
   rw [← hv2] at hse
   exact qE (L' := ZY lb rb S v :: Yy S v sp :: Xa mb es2 ck2 :: Zl db k D2) ⟨rfl, Hp.le_trans hl1 hl2, es2, ck2, pg2, D2, ⟨Hp.at' hl2 hq'.po, hq'.fi.mono hl2, hm2, hk2, hF2, hL2.next, hse⟩, hL'.trans hL2, rfl⟩
  ·subst hkn
   have hok : okT true d p r = true := by unfold okT; rw [decide_eq_true hw]; rfl
   have e1 : stpE true d p r = 0 := by unfold stpE; rw [if_neg (by simp [hw]), if_pos hok]
   have e2 : stpN true d p r = (Yu p d r).length := by unfold stpN; rw [if_pos hok]
   have e3 : stpP true d p r = Ww d p r := by unfold stpP; rw [if_pos hok]
   rw [e1, e2, e3]
   repeat' (first | (refine Zb (.func 120) ?_; refine qR rfl rfl (hwy) ?_; try simp only [kA]) | (refine Zb (.func 121) ?_; refine qC rfl rfl (hsh _) ?_; rintro v1 ρ1 L1 hle1 ⟨hl1, s2, rfl, hs2, es', ck', pg', D', hq', hL', rfl⟩; have hn0 : ¬ ((s2.n : Nat) : Int) = 0 := (by have e := hs2.at'.len; omega); have hn1 := hs2.at'.len; have hc := hch _ _ _ ck' _ s2 hq' hl1 hs2; rw [hE hq'.se] at hc; try simp only [kA]) | (refine Zb (.func 123) ?_; refine qC rfl rfl hc ?_; rintro v2 ρ2 L2 hle2 ⟨rfl, hl2, es2, ck2, pg2, D2, hm2, hv2, hk2, hL2, hF2, rfl⟩; try simp only [kA, if_true]) | refine zV ?_ | intro _)
   have hse := hSt hq'.se
   rw [← hv2, if_pos rfl] at hse
   rw [hn1]
   exact qE (L' := ZY lb rb S v :: Yy S v sp :: Xa mb es2 ck2 :: Zl db k D2) ⟨rfl, Hp.le_trans hl1 hl2, es2, ck2, pg2, D2, ⟨Hp.at' hl2 hq'.po, hq'.fi.mono hl2, hm2, hk2, hF2, hL2.next, hse⟩, hL'.trans hL2, rfl⟩
def allP (d : List Ym) (p : PgF) (l : List RR) : PgF := l.foldl (fun p x => Ww d p x.2) p
def allN (d : List Ym) : PgF → List RR → Nat
 | _, [] => 0
 | p, x :: l => (Yu p d x.2).length + allN d (Ww d p x.2) l
theorem allP_snoc (d : List Ym) (p : PgF) (l : List RR) (x : RR) : allP d p (l ++ [x]) = Ww d (allP d p l) x.2 := by unfold allP; rw [List.foldl_append]; rfl
theorem allN_snoc (d : List Ym) : ∀ (p : PgF) (l : List RR) (x : RR), allN d p (l ++ [x]) = allN d p l + (Yu (allP d p l) d x.2).length
 | p, [], x => by simp [allN, allP]
 | p, y :: l, x => by
  show _ + allN d (Ww d p y.2) (l ++ [x]) = _ + allN d (Ww d p y.2) l + _
  rw [allN_snoc d _ l x, Nat.add_assoc]; rfl
theorem redoS_len (p : PgF) (d : List Ym) {r : Rc} (h : ZT r = true) : (Yu p d r).length ≤ 16 := by
 unfold Yu redoL WE
 rw [List.length_map]
 exact Nat.le_trans (List.length_filter_le _ _) (Nat.le_trans (List.length_filter_le _ _) (XW h).il)
theorem stp_yes {d : List Ym} {p : PgF} {r : Rc} (ht : Xn d = true) (hr : ZT r = true) : stpE true d p r = 0 ∧ stpN true d p r = (Yu p d r).length ∧ stpP true d p r = Ww d p r := by
 have hw : WJ d r = 0 := by unfold WJ; rw [ht, hr]; rfl
 have hok : okT true d p r = true := by unfold okT; rw [decide_eq_true hw]; rfl
 exact ⟨by unfold stpE; rw [if_neg (by simp [hw]), if_pos hok], by unfold stpN; rw [if_pos hok], by unfold stpP; rw [if_pos hok]⟩
structure RcsIn (ρ : Hp) (S : LgS) (a : Option Addr) (n c : Nat) (l : List RR) : Prop where
 at' : AIn ρ 10 rrV a n l
 cap : n ≤ c
 few : n ≤ 1000
 rin : ∀ x ∈ l, RcIn ρ x.1 x.2
 ok : ∀ x ∈ l, ZT x.2 = true
 known : ∀ x ∈ l, (Wa S x.2.lsn).isSome = true
theorem RcsIn.mono {ρ ρ' S a n c l} (h : RcsIn ρ S a n c l) (hl : ρ.le ρ') : RcsIn ρ' S a n c l := ⟨h.at'.mono hl, h.cap, h.few, fun x hx => (h.rin x hx).mono hl, h.ok, h.known⟩
theorem all24_spec (ρ : Hp) (pb fb lb mb rb db t : Nat) (pg : Pgs) (es : List MapEntry) (ck : Nat) (k : DK) (D : DS) (held : Nat → YB) (p : PgF) (h : PqI ρ pb fb lb mb db t pg es k D held p) (S : LgS) (v : Value) (sp : List Value) (hS : LgIn ρ S v sp)
  (s : SV) (d : List Ym) (hd : AS ρ 2 YQ s d) (ht : Xn d = true) (a : Option Addr) (n c : Nat) (l : List RR) (hl : RcsIn ρ S a n c l) :
  Spec Tryz.prog 57 [.pointer (some ⟨pb, 0, none⟩), .slice s.a s.n s.c, .slice a n c] ρ (ZY lb rb S v :: Yy S v sp :: Xa mb es ck :: Zl db k D)
   (fun z ρ' L' => z = .tuple ⟨[.int .i64 (allN d p l : Nat), .int .i64 0]⟩ ∧ ρ.le ρ' ∧ ∃ es' ck' pg' D', PqI ρ' pb fb lb mb db t pg' es' k D' held (allP d p l) ∧ Lv D D' ∧ L' = ZY lb rb S v :: Yy S v sp :: Xa mb es' ck' :: Zl db k D') := by
 have hln := hl.at'.len
 have hfw := hl.few
 refine Za Tryz.func57 rfl rfl rfl fun u R => ?_
 simp only [Zg, kA]
 repeat' (first | refine zV ?_ | intro _)
 refine Zk [(0, _), (1, _), (15, _), (16, _)] (fun (ζ : (Nat) × (Nat) × (Hp) × (List MapEntry) × (Nat) × (Pgs) × (DS)) => [(17, .int .i64 ζ.1), (8, .int .i64 ζ.2.1), (6, .int .i64 0), (7, .int .i64 0)]) (fun (ζ : (Nat) × (Nat) × (Hp) × (List MapEntry) × (Nat) × (Pgs) × (DS)) => ζ.2.2.1) (fun (ζ : (Nat) × (Nat) × (Hp) × (List MapEntry) × (Nat) × (Pgs) × (DS)) => ZY lb rb S v :: Yy S v sp :: Xa mb ζ.2.2.2.1 ζ.2.2.2.2.1 :: Zl db k ζ.2.2.2.2.2.2) (fun (ζ : (Nat) × (Nat) × (Hp) × (List MapEntry) × (Nat) × (Pgs) × (DS)) => ζ.1 ≤ n ∧ ρ.le ζ.2.2.1 ∧ PqI ζ.2.2.1 pb fb lb mb db t ζ.2.2.2.2.2.1 ζ.2.2.2.1 k ζ.2.2.2.2.2.2 held (allP d p (l.take ζ.1)) ∧ Lv D ζ.2.2.2.2.2.2 ∧ ζ.2.1 = allN d p (l.take ζ.1) ∧ ζ.2.1 ≤ 16 * ζ.1) (fun (ζ : (Nat) × (Nat) × (Hp) × (List MapEntry) × (Nat) × (Pgs) × (DS)) => n - ζ.1) ((0, 0, ρ, es, ck, pg, D)) (⟨Nat.zero_le _, Hp.le_refl _, h, h.lv, rfl, Nat.zero_le _⟩) Zc Zc rfl tk ?_
 rintro ⟨i, m, ρ1, es1, ck1, pg1, D1⟩ hI
 try simp only [kA, List.append_assoc] at hI ⊢
 try dsimp only at hI ⊢
 obtain ⟨hi, hle1, hq1, hL1, hm, hmb⟩ := hI
 by_cases hlt : i < n
 ·have hil : i < l.length := by omega
  obtain ⟨b, off, C, T, fr, e1, hb, hfit, hc⟩ := (hl.at'.mono hle1).get hil
  have hx := (hl.rin _ (List.getElem_mem hil)).mono hle1
  have hok := hl.ok _ (List.getElem_mem hil)
  have hkn := hl.known _ (List.getElem_mem hil)
  have htk := List.take_succ_eq_append_getElem hil
  rw [e1]
  generalize l[i] = x at *
  obtain ⟨xv, xr⟩ := x
  dsimp only at hx hok hkn hc
  have hN := allN_snoc d p (l.take i) (xv, xr)
  have hP := allP_snoc d p (l.take i) (xv, xr)
  rw [← htk] at hN hP
  dsimp only at hN hP
  have hlen := redoS_len (allP d p (l.take i)) d hok
  have hst := step24_spec ρ1 pb fb lb mb rb db t pg1 es1 ck1 k D1 held (allP d p (l.take i)) hq1 S v sp (hS.mono hle1) s d (hd.mono hle1) xv xr hx
  rw [hkn] at hst
  obtain ⟨g1, g2, g3⟩ := stp_yes (p := allP d p (l.take i)) ht hok
  rw [g1, g2, g3] at hst
  generalize (Yu (allP d p (l.take i)) d xr).length = q at *
  repeat' (first | (refine Zb (.func 41) ?_; refine qC rfl rfl hst ?_; rintro v2 ρ2 L2 hle2 ⟨rfl, hl2, es2, ck2, pg2, D2, hq2, hL2, rfl⟩; try simp only [kA]) | refine zV ?_ | intro _)
  rw [← e1]
  rw [← hP] at hq2
  refine Zd (i + 1, m + q, ρ2, es2, ck2, pg2, D2) (⟨hlt, Hp.le_trans hle1 hl2, hq2, hL1.trans hL2, by dsimp only; omega, by dsimp only; omega⟩) Zc Zc rfl tk inferInstance (by first | omega | (dsimp only; omega))
 ·have hin : i = l.length := by omega
  rw [hin, List.take_length] at hm hq1
  subst hm
  repeat' (first | refine zV ?_ | intro _)
  exact qE (L' := ZY lb rb S v :: Yy S v sp :: Xa mb es1 ck1 :: Zl db k D1) ⟨rfl, hle1, es1, ck1, pg1, D1, hq1, hL1, rfl⟩
theorem all24_nil (ρ : Hp) (s : SV) (a : Option Addr) (n c : Nat) : Spec Tryz.prog 57 [.pointer none, .slice s.a s.n s.c, .slice a n c] ρ [] (fun z ρ' L' => z = .tuple ⟨[.int .i64 0, .int .i64 1]⟩ ∧ ρ' = ρ ∧ L' = []) := by
 refine Za Tryz.func57 rfl rfl rfl fun u R => ?_
 simp only [Zg, kA]
 repeat' (first | refine zV ?_ | intro _)
 exact qE ⟨rfl, rfl, rfl⟩
theorem step24_bad (ρ : Hp) (pb : Nat) (s : SV) (d : List Ym) (hd : AS ρ 2 YQ s d) (ht : Xn d = false) (rv : RV) (r : Rc) (hr : RcIn ρ rv r) :
  Spec Tryz.prog 41 [.pointer (some ⟨pb, 0, none⟩), .slice s.a s.n s.c, .agg ⟨YI rv r⟩] ρ [] (fun z ρ' L' => z = .tuple ⟨[.int .i64 0, .int .i64 320]⟩ ∧ ρ' = ρ ∧ L' = []) := by
 have hwy := why_spec ρ s d hd rv r hr
 have hE : WJ d r = 320 := by unfold WJ; rw [ht]; rfl
 rw [hE] at hwy
 refine Za Tryz.func41 rfl rfl rfl fun u R => ?_
 simp only [Zg, kA]
 repeat' (first | (refine Zb (.func 120) ?_; refine qR rfl rfl (hwy) ?_; try simp only [kA]) | refine zV ?_ | intro _)
 exact qE (L' := []) ⟨rfl, rfl, rfl⟩
theorem all24_bad (ρ : Hp) (pb : Nat) (s : SV) (d : List Ym) (hd : AS ρ 2 YQ s d) (ht : Xn d = false) (a : Option Addr) (n c : Nat) (l : List RR) (hl : AIn ρ 10 rrV a n l) (hr : ∀ x ∈ l, RcIn ρ x.1 x.2) :
  Spec Tryz.prog 57 [.pointer (some ⟨pb, 0, none⟩), .slice s.a s.n s.c, .slice a n c] ρ [] (fun z ρ' L' => z = .tuple ⟨[.int .i64 0, .int .i64 (if n = 0 then 0 else 320)]⟩ ∧ ρ' = ρ ∧ L' = []) := by
 have hln := hl.len
 refine Za Tryz.func57 rfl rfl rfl fun u R => ?_
 simp only [Zg, kA]
 repeat' (first | refine zV ?_ | intro _)
 refine Zk [(0, _), (1, _), (15, _), (16, _)] (fun (ζ : (Nat)) => [(17, .int .i64 ζ), (8, .int .i64 0), (6, .int .i64 0), (7, .int .i64 0)]) (fun (ζ : (Nat)) => ρ) (fun (ζ : (Nat)) => []) (fun (ζ : (Nat)) => ζ = 0) (fun (ζ : (Nat)) => n - ζ) (0) (rfl) Zc Zc rfl tk ?_
 rintro i hI
 try simp only [kA, List.append_assoc] at hI ⊢
 try dsimp only at hI ⊢
 subst hI
 by_cases hn : n = 0
 ·rw [if_pos hn]
  repeat' (first | refine zV ?_ | intro _)
  exact qE (L' := []) ⟨rfl, rfl, rfl⟩
 ·rw [if_neg hn]
  have hil : 0 < l.length := by omega
  obtain ⟨b, off, C, T, fr, e1, hb, hfit, hc⟩ := hl.get hil
  have hs := fun (x : RR) (hx : x ∈ l) => step24_bad ρ pb s d hd ht x.1 x.2 (hr x hx)
  have hs := hs _ (List.getElem_mem hil)
  generalize l[0] = x at *
  subst e1
  repeat' (first | (refine Zb (.func 41) ?_; refine qR rfl rfl (hs) ?_; try simp only [kA]) | refine zV ?_ | intro _)
  exact qE (L' := []) ⟨rfl, rfl, rfl⟩
structure PgL (ρ : Hp) (a : Option Addr) (c : Nat) (l : List PgD) (p : PgF) : Prop where
 at' : AIn ρ 4 pdV a 64 l
 cap : 64 ≤ c
 cin : ∀ x ∈ l, CIn ρ x.w x.c.rows x.c.kids
 eq : ∀ k (h : k < l.length), ((l[k]).c, (l[k]).lsn) = p k
theorem PgL.mono {ρ ρ' a c l p} (h : PgL ρ a c l p) (hl : ρ.le ρ') : PgL ρ' a c l p := ⟨h.at'.mono hl, h.cap, fun x hx => (h.cin x hx).mono hl, h.eq⟩
theorem holds24_spec (ρ : Hp) (pb fb lb mb db t : Nat) (pg : Pgs) (es : List MapEntry) (ck : Nat) (k : DK) (D : DS) (held : Nat → YB) (p : PgF) (h : PqI ρ pb fb lb mb db t pg es k D held p) (a : Option Addr) (c : Nat) (l : List PgD) (hl : PgL ρ a c l p) :
  Spec Tryz.prog 45 [.pointer (some ⟨pb, 0, none⟩), .slice a 64 c] ρ (Xa mb es ck :: Zl db k D)
   (fun z ρ' L' => z = .bool true ∧ ρ.le ρ' ∧ ∃ es' ck' pg' D', PqI ρ' pb fb lb mb db t pg' es' k D' held p ∧ Lv D D' ∧ L' = Xa mb es' ck' :: Zl db k D') := by
 have hln := hl.at'.len
 refine Za Tryz.func45 rfl rfl rfl fun u R => ?_
 simp only [Zg, kA]
 repeat' (first | refine zV ?_ | intro _)
 refine Zk [(0, _), (10, _), (11, _)] (fun (ζ : (Nat) × (Hp) × (List MapEntry) × (Nat) × (Pgs) × (DS)) => [(12, .int .i64 ζ.1), (4, .bool false)]) (fun (ζ : (Nat) × (Hp) × (List MapEntry) × (Nat) × (Pgs) × (DS)) => ζ.2.1) (fun (ζ : (Nat) × (Hp) × (List MapEntry) × (Nat) × (Pgs) × (DS)) => Xa mb ζ.2.2.1 ζ.2.2.2.1 :: Zl db k ζ.2.2.2.2.2) (fun (ζ : (Nat) × (Hp) × (List MapEntry) × (Nat) × (Pgs) × (DS)) => ζ.1 ≤ 64 ∧ ρ.le ζ.2.1 ∧ PqI ζ.2.1 pb fb lb mb db t ζ.2.2.2.2.1 ζ.2.2.1 k ζ.2.2.2.2.2 held p ∧ Lv D ζ.2.2.2.2.2) (fun (ζ : (Nat) × (Hp) × (List MapEntry) × (Nat) × (Pgs) × (DS)) => 64 - ζ.1) ((0, ρ, es, ck, pg, D)) (⟨Nat.zero_le _, Hp.le_refl _, h, h.lv⟩) Zc Zc rfl tk ?_
 rintro ⟨i, ρ1, es1, ck1, pg1, D1⟩ hI
 try simp only [kA, List.append_assoc] at hI ⊢
 try dsimp only at hI ⊢
 obtain ⟨hi, hle1, hq1, hL1⟩ := hI
 by_cases hlt : i < 64
 ·have hil : i < l.length := by omega
  obtain ⟨b, off, C, T, fr, e1, hb, hfit, hc⟩ := (hl.at'.mono hle1).get hil
  have hx := (hl.cin _ (List.getElem_mem hil)).mono hle1
  have hp := hl.eq i hil
  have hP := page24 ρ1 pb fb lb mb db t i pg1 es1 ck1 k D1 held p hq1 hlt
  rw [e1]
  generalize l[i] = x at *
  obtain ⟨xw, xc, xl⟩ := x
  dsimp only at hx hp hc
  rw [← hp] at hP
  dsimp only at hP
  have hS := fun ρ2 w (hl2 : ρ1.le ρ2) (hw : CIn ρ2 w xc.rows xc.kids) => sameR_spec ρ2 w xw xc xc hw (hx.mono hl2)
  simp only [decide_eq_true (rfl : xc = xc)] at hS
  repeat' (first | (refine Zb (.func 59) ?_; refine qC rfl rfl hP ?_; rintro v2 ρ2 L2 hle2 ⟨hl2, w2, es2, ck2, pg2, D2, rfl, hC2, hq2, hL2, rfl⟩; try simp only [kA]) | (refine Zb (.func 125) ?_; refine qR rfl rfl (hS _ _ hl2 hC2) ?_; try simp only [kA]) | refine zV ?_ | intro _)
  rw [← e1]
  refine Zd (i + 1, _, es2, ck2, pg2, D2) (⟨hlt, Hp.le_trans hle1 hl2, hq2, hL1.trans hL2⟩) Zc Zc rfl tk inferInstance (by first | omega | (dsimp only; omega))
 ·repeat' (first | refine zV ?_ | intro _)
  exact qE (L' := Xa mb es1 ck1 :: Zl db k D1) ⟨rfl, hle1, es1, ck1, pg1, D1, hq1, hL1, rfl⟩
theorem pd_split (l : List PgD) (n : Nat) (h : n < l.length) (y : PgD) : (l.map pdV).flatten = ((l.take n).map pdV).flatten ++ (pdV l[n] ++ ((l.drop (n + 1)).map pdV).flatten) ∧ ((l.set n y).map pdV).flatten = ((l.take n).map pdV).flatten ++ (pdV y ++ ((l.drop (n + 1)).map pdV).flatten) := by
 constructor
 ·conv => lhs; rw [← List.take_append_drop n l, List.drop_eq_getElem_cons h]
  simp only [List.map_append, List.map_cons, List.flatten_append, List.flatten_cons]
 ·rw [List.set_eq_take_append_cons_drop, if_pos h]
  simp only [List.map_append, List.map_cons, List.flatten_append, List.flatten_cons]
theorem refstep_spec (ρ : Hp) (a : Option Addr) (c : Nat) (l : List PgD) (p : PgF) (hl : PgL ρ a c l p) (s : SV) (d : List Ym) (hd : AS ρ 2 YQ s d) (rv : RV) (r : Rc) (hr : RcIn ρ rv r) (hw : WJ d r = 0) :
  Spec Tryz.prog 43 [.slice a 64 c, .slice s.a s.n s.c, .agg ⟨YI rv r⟩] ρ []
   (fun z ρ' L' => ρ.le ρ' ∧ ∃ a' c' l', z = .tuple ⟨[.slice a' 64 c', .int .i64 ((Yu p d r).length : Nat)]⟩ ∧ PgL ρ' a' c' l' (Ww d p r) ∧ L' = []) := by
 have hln := hl.at'.len
 obtain ⟨hrok, htok⟩ := why_rec hw
 have hsh := ref24_spec ρ a 64 c l hl.at' s d hd rv r hr (fun n => (p n.toNat).2) (fun k hk => by rw [Int.toNat_natCast, ← hl.eq k hk])
 have hE : shE d r 64 = 0 := by unfold shE; rw [hw]; rfl
 rw [hE, if_pos rfl, ← redo_ref hw] at hsh
 have hRS : (redoL (fun n => (p n.toNat).2) d r).map Wy = Yu p d r := rfl
 rw [hRS] at hsh
 refine Za Tryz.func43 rfl rfl rfl fun u R => ?_
 simp only [Zg, kA]
 repeat' (first | (refine Zb (.func 124) ?_; refine qC rfl rfl hsh ?_; rintro v1 ρ1 L1 hle1 ⟨hl1, s2, rfl, hs2, rfl⟩; try simp only [kA]) | (refine Ye (n := 0) (xs := []) (sp := []) (ys := (l.map pdV).flatten) (m := 64) (sz := 4) rfl rfl (OwnS.zero _ 4) (hR := by repeat (first | exact Zx | apply ZA)) (AIn.srcV (hl.at'.mono hl1)) (by rw [Yn pdV 4 _ (fun x _ => rfl), hln]) (flat_one pdV (fun _ => rfl) _) (by decide) rfl (by omega) (by omega) rfl (fun v2 sp2 hown2 => ?_); simp only [Nat.zero_add, List.nil_append] at hown2 ⊢; obtain ⟨a2, c2, rfl, hvl2⟩ := hown2.slice) | refine zV ?_ | intro _)
 rename_i rb _
 have hsl := hs2.at'.len
 have hsb := hs2.big
 have Wv : Ww d p r = putS r.lsn p ((Yu p d r).take s2.n) := by unfold Ww; rw [List.take_of_length_le (by omega)]
 refine Zk [(5, _), (6, _), (7, _), (8, _), (10, _), (23, _), (24, _)] (fun (ζ : (Nat) × (List PgD)) => [(25, .int .i64 ζ.1)]) (fun (ζ : (Nat) × (List PgD)) => ρ1) (fun (ζ : (Nat) × (List PgD)) => [[(rb, .cells ⟨YI rv r⟩ 39 (0, 0))], ZM (.slice a2 64 c2) ((ζ.2.map pdV).flatten) sp2 114]) (fun (ζ : (Nat) × (List PgD)) => ζ.1 ≤ s2.n ∧ ζ.2.length = 64 ∧ (∀ x ∈ ζ.2, CIn ρ1 x.w x.c.rows x.c.kids) ∧ (∀ k (h : k < ζ.2.length), ((ζ.2[k]).c, (ζ.2[k]).lsn) = putS r.lsn p ((Yu p d r).take ζ.1) k)) (fun (ζ : (Nat) × (List PgD)) => s2.n - ζ.1) ((0, l)) (⟨Nat.zero_le _, hln, fun x hx => (hl.cin x hx).mono hl1, hl.eq⟩) Zc Zc rfl tk ?_
 rintro ⟨i, m⟩ hI
 try simp only [kA, List.append_assoc] at hI ⊢
 try dsimp only at hI ⊢
 obtain ⟨hi, hml, hmc, hme⟩ := hI
 by_cases hlt : i < s2.n
 ·have hil : i < (Yu p d r).length := by omega
  obtain ⟨b, off, C, T, fr, e1, hb, hfit, hc⟩ := hs2.at'.get hil
  have htk := List.take_succ_eq_append_getElem hil
  have hpg := redoS_page hrok (List.getElem_mem hil)
  obtain ⟨y, hy, hye, _⟩ := redoS_in (List.getElem_mem hil)
  have hyc := ((hr.im y hy).a.cin).mono hl1
  have hcin : CIn ρ1 ((Yu p d r)[i]).w ((Yu p d r)[i]).c.rows ((Yu p d r)[i]).c.kids := by rw [hye]; exact hyc
  have hput := putS_snoc r.lsn p ((Yu p d r).take i) ((Yu p d r)[i])
  rw [← htk] at hput
  clear hye
  rw [e1]
  generalize (Yu p d r)[i] = x at *
  obtain ⟨xp, xw, xc⟩ := x
  dsimp only at hpg hcin hput hc
  obtain ⟨n, rfl⟩ : ∃ n : Nat, xp = (n : Int) := ⟨xp.toNat, by omega⟩
  obtain ⟨e2, e3⟩ := pd_split m n (by omega) ⟨xw, xc, r.lsn⟩
  have hPl : (((m.take n).map pdV).flatten).length = 0 + n * 4 := by rw [Yn pdV 4 _ (fun x _ => rfl), List.length_take]; omega
  have hO : ∀ Y : List PgD, Y.length = 64 → ∃ pb, ZM (.slice a2 64 c2) ((Y.map pdV).flatten) sp2 114 = [(pb, .cells ⟨(Y.map pdV).flatten ++ sp2⟩ 114 (0, 0))] ∧ a2 = some ⟨pb, 0, none⟩ := by
   intro Y _
   rcases hown2.out with ⟨_, h0, _⟩ | ⟨pb, cap, h0, _⟩
   ·omega
   ·cases h0; exact ⟨pb, rfl, rfl⟩
  obtain ⟨pb, e4, e5⟩ := hO m hml
  obtain ⟨pb', e6, e7⟩ := hO (m.set n ⟨xw, xc, r.lsn⟩) (by simpa using hml)
  obtain rfl : pb = pb' := by rw [e5] at e7; cases e7; rfl
  rw [e4, e2, List.append_assoc, List.append_assoc]
  subst e5
  repeat' (first | (refine tl_store_midA (P := ((m.take n).map pdV).flatten) (l := pdV m[n]) rfl rfl hPl rfl rfl rfl ?_) | refine zV ?_ | intro _)
  have e8 : [(pb, Obj.cells ⟨((m.take n).map pdV).flatten ++ ([.int .i64 xc.kind, .slice xw.ra xw.rn xw.rc, .slice xw.ka xw.kn xw.kc, .int .u64 r.lsn] ++ (((m.drop (n + 1)).map pdV).flatten ++ sp2))⟩ 114 (0, 0))] = ZM (.slice (some ⟨pb, 0, none⟩) 64 c2) (((m.set n ⟨xw, xc, r.lsn⟩).map pdV).flatten) sp2 114 := by
   rw [e6, e3]
   simp only [List.append_assoc]
  dsimp only
  rw [e8, ← e1]
  have hmc' : ∀ y ∈ m.set n ⟨xw, xc, r.lsn⟩, CIn ρ1 y.w y.c.rows y.c.kids := fun y hy => by
   rcases List.mem_or_eq_of_mem_set hy with hy | rfl
   ·exact hmc y hy
   ·exact hcin
  have hme' : ∀ k (hk : k < (m.set n ⟨xw, xc, r.lsn⟩).length), (((m.set n ⟨xw, xc, r.lsn⟩)[k]).c, ((m.set n ⟨xw, xc, r.lsn⟩)[k]).lsn) = putS r.lsn p ((Yu p d r).take (i + 1)) k := fun k hk => by
   rw [hput, List.getElem_set]
   unfold upd
   rw [Int.toNat_natCast]
   split
   ·rename_i e; rw [if_pos e.symm]
   ·rename_i e; rw [if_neg (fun h => e h.symm)]; exact hme k (by simpa using hk)
  refine Zd (i + 1, m.set n ⟨xw, xc, r.lsn⟩) (⟨hlt, by simpa using hml, hmc', hme'⟩) Zc Zc rfl tk inferInstance (by first | omega | (dsimp only; omega))
 ·have hin : i = s2.n := by omega
  rw [hin, ← Wv] at hme
  repeat' (first | refine zV ?_ | intro _)
  refine Yw (ZM (.slice a2 64 c2) ((m.map pdV).flatten) sp2 114) (fun ρ3 hl3 hz3 => ?_)
  have hown3 : OwnS (.slice a2 64 c2) 64 ((m.map pdV).flatten) sp2 4 := by
   have hL : ((m.map pdV).flatten).length = ((l.map pdV).flatten).length := by rw [Yn pdV 4 _ (fun x _ => rfl), Yn pdV 4 _ (fun x _ => rfl), hml, hln]
   rcases hown2.out with ⟨_, h0, _⟩ | ⟨b, cap, h1, h2, h3, h4⟩
   ·omega
   ·exact ⟨.inr ⟨b, cap, h1, by rw [hL]; exact h2, by rw [hL]; exact h3, h4⟩⟩
  obtain ⟨a3, c3, e3, hc3, hA3⟩ := hown3.aIn hml (fun x _ => rfl) hz3
  cases e3
  rw [← hsl]
  exact qE (L' := []) ⟨Hp.le_trans hl1 hl3, a2, c2, m, rfl, ⟨hA3, hc3, fun x hx => (hmc x hx).mono hl3, hme⟩, rfl⟩
end Go.Proofs.E
namespace Go.Proofs.E
open Go
set_option linter.unusedVariables false
set_option linter.unusedSimpArgs false
set_option linter.unusedSectionVars false
set_option maxRecDepth 4000
set_option maxHeartbeats 1000000
attribute [local irreducible] Yl TL TC TE Spec ZF R1 Hp.le EnvLe TS TR YS Zo TP QP
def fewR24 (r : Rc) : Rc := { r with ims := (r.ims.take 17).map fewIm, steps := r.steps.take 3, txns := r.txns.take 9, dirty := r.dirty.take 65 }
theorem content24_spec (ρ : Hp) (w : CV) (c : Yh) (h : CInW ρ w c.rows c.kids) :
  Spec Tryz.prog 117 [.agg ⟨Xl c.kind w⟩] ρ [] (fun v ρ' L' => ρ.le ρ' ∧ ∃ w', v = .agg ⟨Xl c.kind w'⟩ ∧ CIn ρ' w' (fewC c).rows (fewC c).kids ∧ L' = []) := by
 obtain ⟨kind, rows, kids⟩ := c
 obtain ⟨ra, rn, rc, ka, kn, kc⟩ := w
 obtain ⟨hr, hk, hrb, hkb, hrc, hkc⟩ := h
 dsimp only at hr hk hrb hkb hrc hkc
 have hrl := hr.len
 have hkl := hk.len
 dsimp only [fewC, Xl]
 obtain ⟨m, hm⟩ : ∃ m, m = min kn 5 := ⟨_, rfl⟩
 obtain ⟨q, hq⟩ : ∃ q, q = min rn 5 := ⟨_, rfl⟩
 have hmt : (min (kn : Int) 5).toNat = m := by omega
 have hqt : (min (rn : Int) 5).toNat = q := by omega
 have hk5 := hk.take (hi' := m) (by omega)
 have hr5 := hr.take (hi' := q) (by omega)
 rw [take_five _ _ _ hkl hm] at hk5
 rw [take_five _ _ _ hrl hq] at hr5
 have hm5 : m ≤ 5 := by omega
 have hq5 : q ≤ 5 := by omega
 generalize kids.take 5 = KS at *
 generalize rows.take 5 = RS at *
 refine Za Tryz.func117 rfl rfl rfl fun u R => ?_
 simp only [Zg, kA]
 repeat' (first | refine zV ?_ | intro _)
 rename_i b1 b2
 refine tc_cut_k R [] (fun (ζ : (Option Addr) × (Nat) × (List Value) × (Option Addr) × (Nat) × (List Value)) => [(1, .pointer (some ⟨b1, 0, none⟩)), (2, .pointer (some ⟨b2, 0, none⟩))]) (fun (ζ : (Option Addr) × (Nat) × (List Value) × (Option Addr) × (Nat) × (List Value)) => ρ) (fun (ζ : (Option Addr) × (Nat) × (List Value) × (Option Addr) × (Nat) × (List Value)) => [ZM (.slice ζ.1 q ζ.2.1) (RS.map Yv).flatten ζ.2.2.1 171, ZM (.slice ζ.2.2.2.1 m ζ.2.2.2.2.1) (KS.map Xi).flatten ζ.2.2.2.2.2 238, [(b1, .cells ⟨[.int .i64 kind, .slice ζ.1 q ζ.2.1, .slice ζ.2.2.2.1 m ζ.2.2.2.2.1]⟩ 112 (0, 0))], [(b2, .cells ⟨[.int .i64 0, .slice none 0 0, .slice none 0 0]⟩ 112 (0, 0))]]) (fun (ζ : (Option Addr) × (Nat) × (List Value) × (Option Addr) × (Nat) × (List Value)) => OwnS (.slice ζ.1 q ζ.2.1) q (RS.map Yv).flatten ζ.2.2.1 4 ∧ OwnS (.slice ζ.2.2.2.1 m ζ.2.2.2.2.1) m (KS.map Xi).flatten ζ.2.2.2.2.2 3) Zc ?_ ?_
 ·refine tc_phase 19 (Zo _ _ ([[(b1, .cells ⟨[.int .i64 kind, .slice ra rn rc, .slice ka kn kc]⟩ 112 (0, 0))]])) (by decide +kernel) (Ve (hT := tk) (Hp.le_refl _)) ?_
  simp only [List.take_succ_cons, List.take_zero]
  all_goals (refine rFa 1 ?_; refine rLd 2 ?_; refine rFa 3 ?_; refine rLd 4 ?_; refine rBi 5 ?_; refine rBi 6 ?_; refine rSl 7 ?_; refine rFa 10 ?_; refine rLd 11 ?_; refine rFa 12 ?_; refine rLd 13 ?_; refine rBi 14 ?_; refine rBi 15 ?_; refine rSl 16 ?_)
  all_goals (refine rStep2 (i := 0) (j := 9) ?_ ?_ <;> ((try refine Zn ?_); (first | (refine Yp ?_; try intro _)) <;> ((try simp only [kA]); refine Zi ?_; refine rNext ?_)))
  all_goals (first | (refine rStep2 (i := 8) (j := 9) ?_ ?_ <;> ((try refine Zn ?_); (first | (simp only [hqt]; refine Ye (n := 0) (xs := []) (sp := []) (ys := (RS.map Yv).flatten) (m := q) (sz := 4) rfl rfl (OwnS.zero _ 4) (hR := by first | exact Zx | exact ZA Zx | exact ZA (ZA Zx)) (AIn.srcV hr5) (by rw [Yn Yv 4 _ (fun x _ => rfl), hr5.len]) (flatR_one _) (by decide) rfl (by omega) (by omega) rfl (fun v1 sp1 hown1 => ?_); simp only [Nat.zero_add, List.nil_append] at hown1 ⊢; obtain ⟨a1, c1, rfl, hlen1⟩ := hown1.len) | (simp only [hmt]; refine Ye (n := 0) (xs := []) (sp := []) (ys := (KS.map Xi).flatten) (m := m) (sz := 3) rfl rfl (OwnS.zero _ 3) (hR := by first | exact Zx | exact ZA Zx | exact ZA (ZA Zx)) (AIn.srcV hk5) (by rw [Yn Xi 3 _ (fun x _ => rfl), hk5.len]) (flatK_one _) (by decide) rfl (by omega) (by omega) rfl (fun v2 sp2 hown2 => ?_); simp only [Nat.zero_add, List.nil_append] at hown2 ⊢; obtain ⟨a2, c2, rfl, hlen2⟩ := hown2.len) | (refine Yp ?_; try intro _)) <;> ((try simp only [kA]); refine Zi ?_; refine rNext ?_))) | (refine rStep (i := 0) ?_; ((try refine Zn ?_); (first | (refine Yp ?_; try intro _)) <;> ((try simp only [kA]); refine Zi ?_; refine rNext ?_))))
  all_goals (first | refine rFa 18 ?_ | (refine rStep (i := 8) ?_; ((try refine Zn ?_); (first | (simp only [hqt]; refine Ye (n := 0) (xs := []) (sp := []) (ys := (RS.map Yv).flatten) (m := q) (sz := 4) rfl rfl (OwnS.zero _ 4) (hR := by first | exact Zx | exact ZA Zx | exact ZA (ZA Zx)) (AIn.srcV hr5) (by rw [Yn Yv 4 _ (fun x _ => rfl), hr5.len]) (flatR_one _) (by decide) rfl (by omega) (by omega) rfl (fun v1 sp1 hown1 => ?_); simp only [Nat.zero_add, List.nil_append] at hown1 ⊢; obtain ⟨a1, c1, rfl, hlen1⟩ := hown1.len) | (simp only [hmt]; refine Ye (n := 0) (xs := []) (sp := []) (ys := (KS.map Xi).flatten) (m := m) (sz := 3) rfl rfl (OwnS.zero _ 3) (hR := by first | exact Zx | exact ZA Zx | exact ZA (ZA Zx)) (AIn.srcV hk5) (by rw [Yn Xi 3 _ (fun x _ => rfl), hk5.len]) (flatK_one _) (by decide) rfl (by omega) (by omega) rfl (fun v2 sp2 hown2 => ?_); simp only [Nat.zero_add, List.nil_append] at hown2 ⊢; obtain ⟨a2, c2, rfl, hlen2⟩ := hown2.len) | (refine Yp ?_; try intro _)) <;> ((try simp only [kA]); refine Zi ?_; refine rNext ?_))))
  all_goals (first | refine rFa 18 ?_ | (refine rStep (i := 9) ?_; ((try refine Zn ?_); (first | (refine Yp ?_; try intro _)) <;> ((try simp only [kA]); refine Zi ?_; refine rNext ?_))))
  all_goals (refine rStep (i := 17) ?_; ((try refine Zn ?_); (first | (simp only [hqt]; refine Ye (n := 0) (xs := []) (sp := []) (ys := (RS.map Yv).flatten) (m := q) (sz := 4) rfl rfl (OwnS.zero _ 4) (hR := by first | exact Zx | exact ZA Zx | exact ZA (ZA Zx)) (AIn.srcV hr5) (by rw [Yn Yv 4 _ (fun x _ => rfl), hr5.len]) (flatR_one _) (by decide) rfl (by omega) (by omega) rfl (fun v1 sp1 hown1 => ?_); simp only [Nat.zero_add, List.nil_append] at hown1 ⊢; obtain ⟨a1, c1, rfl, hlen1⟩ := hown1.len) | (simp only [hmt]; refine Ye (n := 0) (xs := []) (sp := []) (ys := (KS.map Xi).flatten) (m := m) (sz := 3) rfl rfl (OwnS.zero _ 3) (hR := by first | exact Zx | exact ZA Zx | exact ZA (ZA Zx)) (AIn.srcV hk5) (by rw [Yn Xi 3 _ (fun x _ => rfl), hk5.len]) (flatK_one _) (by decide) rfl (by omega) (by omega) rfl (fun v2 sp2 hown2 => ?_); simp only [Nat.zero_add, List.nil_append] at hown2 ⊢; obtain ⟨a2, c2, rfl, hlen2⟩ := hown2.len) | (refine Yp ?_; try intro _)) <;> ((try simp only [kA]); refine Zi ?_; refine rNext ?_)))
  all_goals refine rDone ?_
  all_goals refine te_phase (fuel := 3) (m := [true, true, true, true, true, true, true, true, true, true, true, true, true, true, true, true, true, true, true, false, false, false]) (Zo _ _ ([])) rfl rfl (Ve (hT := tk) (Hp.le_refl _)) ?_
  all_goals (refine rStep (i := 19) ?_; ((try refine Zn ?_); (first | (refine Yp ?_; try intro _)) <;> ((try simp only [kA]); refine Zi ?_; refine rNext ?_)))
  all_goals refine rFa 20 ?_
  all_goals (refine rStep (i := 21) ?_; ((try refine Zn ?_); (first | (refine Yp ?_; try intro _)) <;> ((try simp only [kA]); refine Zi ?_; refine rNext ?_)))
  all_goals refine rDone ?_
  all_goals refine te_cut_g ((a1, c1, sp1, a2, c2, sp2)) (⟨hown1, hown2⟩) Zc Zc rfl tk inferInstance
 ·rintro ⟨a1, c1, sp1, a2, c2, sp2⟩ ⟨hown1, hown2⟩
  simp only [kA] at hown1 hown2 ⊢
  have hRl := hr5.len
  repeat' (first | refine zV ?_ | intro _)
  refine Zk [(1, _), (2, _), (26, _)] (fun (ζ : (Nat) × (List Row)) => [(27, .int .i64 ζ.1)]) (fun (ζ : (Nat) × (List Row)) => ρ) (fun (ζ : (Nat) × (List Row)) => [ZM (.slice a1 q c1) (ζ.2.map Yv).flatten sp1 171, [(b1, .cells ⟨[.int .i64 kind, .slice a1 q c1, .slice a2 m c2]⟩ 112 (0, 0))]]) (fun (ζ : (Nat) × (List Row)) => ζ.1 ≤ q ∧ ζ.2 = (RS.take ζ.1).map shortR ++ RS.drop ζ.1) (fun (ζ : (Nat) × (List Row)) => q - ζ.1) ((0, RS)) (⟨Nat.zero_le _, by simp⟩) Zc Zc rfl tk ?_
  rintro ⟨k, acc⟩ hI
  try simp only [kA, List.append_assoc] at hI ⊢
  try dsimp only at hI ⊢
  obtain ⟨hk0, hacc⟩ := hI
  by_cases hlt : k < q
  ·have hal : acc.length = q := by rw [hacc]; simp; omega
   obtain ⟨pb, pc, e1⟩ := hown1.pos (by omega)
   cases e1
   have hkR : k < RS.length := by rw [hRl]; exact hlt
   have hkv := get_step RS k hkR
   have hset := set_step RS k hkR
   rw [← hacc] at hkv
   rw [← hacc] at hset
   generalize RS[k]'hkR = r at *
   have hld := row_get (sp := sp1) acc k r hkv
   haveI hst := row_setL (sp := sp1) (r.note.take (min (r.note.length : Int) 9).toNat) hkv
   have e9 := take_min9 r.note
   repeat' (first | refine zV ?_ | intro _)
   rw [show ZM (.slice (some ⟨pb, 0, none⟩) q c1) ((acc.map Yv).flatten) sp1 171 = [(pb, .cells ⟨(acc.map Yv).flatten ++ sp1⟩ 171 (0, 0))] from rfl]
   refine tc_phase 20 (Zo _ _ ([[(pb, .cells ⟨(acc.map Yv).flatten ++ sp1⟩ 171 (0, 0))], [(b1, .cells ⟨[.int .i64 kind, .slice (some ⟨pb, 0, none⟩) q c1, .slice a2 m c2]⟩ 112 (0, 0))]])) (by decide +kernel) (Ve (hT := tk) (Hp.le_refl _)) ?_
   simp only [List.take_succ_cons, List.take_zero]
   all_goals (refine rFa 0 ?_; refine rLd 1 ?_; refine rMv 2 ?_; refine rFa 3 ?_; refine rLd 4 ?_; refine rMv 5 ?_; refine rIa 6 ?_; refine rFa 7 ?_; refine rLd 8 ?_; refine rFa 9 ?_; refine rLd 10 ?_; refine rMv 11 ?_; refine rIa 12 ?_; refine rFa 13 ?_; refine rLd 14 ?_; refine rBi 15 ?_; refine rBi 16 ?_; refine rSl 17 ?_; refine rIa 18 ?_; refine rFa 19 ?_; refine rDone ?_)
   all_goals refine te_phase (fuel := 1) (m := [true, true, true, true, true, true, true, true, true, true, true, true, true, true, true, true, true, true, true, true, false]) (Zo _ _ ([])) rfl rfl (Ve (hT := tk) (Hp.le_refl _)) ?_
   all_goals (refine rStep (i := 20) ?_; ((try refine Zn ?_); (first | (refine Yp ?_; try intro _)) <;> ((try simp only [kA]); refine Zi ?_; refine rNext ?_)))
   all_goals refine rDone ?_
   all_goals rw [e9]
   all_goals (repeat' (first | refine zV ?_ | intro _))
   have hsr : (⟨r.t, r.id, r.val, r.note.take 9⟩ : Row) = shortR r := rfl
   rw [hsr]
   rw [← show ZM (.slice (some ⟨pb, 0, none⟩) q c1) (((acc.set k (shortR r)).map Yv).flatten) sp1 171 = [(pb, .cells ⟨((acc.set k (shortR r)).map Yv).flatten ++ sp1⟩ 171 (0, 0))] from rfl]
   refine Zd (k + 1, acc.set k (shortR r)) (⟨hlt, hset⟩) Zc Zc rfl tk inferInstance (by first | omega | (dsimp only; omega))
  ·have hkq : k = q := by omega
   have hfin : acc = RS.map shortR := by rw [hacc, List.take_of_length_le (by omega), List.drop_eq_nil_of_le (by omega), List.append_nil]
   have hal : acc.length = q := by rw [hfin]; simp; omega
   have hown1' : OwnS (.slice a1 q c1) q ((acc.map Yv).flatten) sp1 4 := by
    have hL : ((acc.map Yv).flatten).length = ((RS.map Yv).flatten).length := by rw [Yn Yv 4 _ (fun x _ => rfl), Yn Yv 4 _ (fun x _ => rfl), hal, hRl]
    rcases hown1.out with ⟨h1, h2, h3, h4⟩ | ⟨b, cap, h1, h2, h3, h4⟩
    ·exact ⟨.inl ⟨h1, h2, List.eq_nil_of_length_eq_zero (by rw [hL, h3]; rfl), h4⟩⟩
    ·exact ⟨.inr ⟨b, cap, h1, by rw [hL]; exact h2, by rw [hL]; exact h3, h4⟩⟩
   refine tc_freeze (ZM (.slice a1 q c1) ((acc.map Yv).flatten) sp1 171) (fun ρ1 hle1 hfz1 => ?_)
   obtain ⟨a3, c3, e3, hc3, hA3⟩ := hown1'.aIn hal (fun x _ => rfl) hfz1
   cases e3
   refine tc_freeze (ZM (.slice a2 m c2) ((KS.map Xi).flatten) sp2 238) (fun ρ2 hle2 hfz2 => ?_)
   obtain ⟨a4, c4, e4, hc4, hA4⟩ := hown2.aIn hk5.len (fun x _ => rfl) hfz2
   cases e4
   repeat' (first | refine zV ?_ | intro _)
   exact qE (L' := []) ⟨Hp.le_trans hle1 hle2, ⟨a1, q, c1, a2, m, c2⟩, rfl, ⟨by rw [← hfin]; exact hA3.mono hle2, hA4, by dsimp only; omega, by dsimp only; omega, hc3, hc4⟩, rfl⟩
theorem few24_spec (ρ : Hp) (v : RV) (r : Rc) (h : RcW ρ v r) : Spec Tryz.prog 40 [.agg ⟨YI v r⟩] ρ []
  (fun z ρ' L' => ρ.le ρ' ∧ ∃ v' r', z = .agg ⟨YI v' r'⟩ ∧ RcIn ρ' v' r' ∧ r'.plain = fewR24 r ∧ L' = []) := by
 obtain ⟨hi, him, hs, ht, hd, hsf⟩ := h
 have hsl := hs.at'.len
 have hsb := hs.big
 have htl := ht.at'.len
 have htb := ht.big
 have hdl := hd.at'.len
 have hdb := hd.big
 have cs := hs.cap
 have ct := ht.cap
 have cd := hd.cap
 obtain ⟨ms, hms⟩ : ∃ m, m = min v.s.n 3 := ⟨_, rfl⟩
 obtain ⟨mt, hmt⟩ : ∃ m, m = min v.t.n 9 := ⟨_, rfl⟩
 obtain ⟨md, hmd⟩ : ∃ m, m = min v.d.n 65 := ⟨_, rfl⟩
 have hsm : (min (v.s.n : Int) 3).toNat = ms := by omega
 have htm : (min (v.t.n : Int) 9).toNat = mt := by omega
 have hdm : (min (v.d.n : Int) 65).toNat = md := by omega
 have hS := hs.at'.take (hi' := ms) (by omega)
 have hT := ht.at'.take (hi' := mt) (by omega)
 have hD := hd.at'.take (hi' := md) (by omega)
 rw [take_some 3 _ _ _ hsl hms] at hS
 rw [take_some 9 _ _ _ htl hmt] at hT
 rw [take_some 65 _ _ _ hdl hmd] at hD
 have hSf : ∀ s ∈ r.steps.take 3, WS s.row := fun s hh => hsf s (List.mem_of_mem_take hh)
 have hil := hi.at'.len
 have hib := hi.big
 refine Za Tryz.func40 rfl rfl rfl fun u R => ?_
 simp only [Zg, kA]
 repeat' (first | refine zV ?_ | intro _)
 rename_i b1 b2
 refine Zk [(1, _), (2, _), (7, _), (8, _)] (fun (ζ : (Nat) × (Hp) × (Value) × (List Value) × (List Im)) => [(9, .int .i64 ζ.1), (3, ζ.2.2.1)]) (fun (ζ : (Nat) × (Hp) × (Value) × (List Value) × (List Im)) => ζ.2.1) (fun (ζ : (Nat) × (Hp) × (Value) × (List Value) × (List Im)) => [ZM ζ.2.2.1 ((ζ.2.2.2.2.map imV).flatten) ζ.2.2.2.1 165]) (fun (ζ : (Nat) × (Hp) × (Value) × (List Value) × (List Im)) => ζ.1 ≤ v.i.n ∧ ρ.le ζ.2.1 ∧ OwnS ζ.2.2.1 ζ.2.2.2.2.length ((ζ.2.2.2.2.map imV).flatten) ζ.2.2.2.1 7 ∧ ζ.2.2.2.2.map Im.plain = (r.ims.take (min ζ.1 17)).map fewIm ∧ (∀ x ∈ ζ.2.2.2.2, Im.In ζ.2.1 x)) (fun (ζ : (Nat) × (Hp) × (Value) × (List Value) × (List Im)) => v.i.n - ζ.1) ((0, ρ, .slice none 0 0, [], [])) (⟨Nat.zero_le _, Hp.le_refl _, OwnS.nil 7, by simp, by simp⟩) Zc Zc rfl tk ?_
 rintro ⟨k, ρ1, vv, sp, acc⟩ hI
 try simp only [kA, List.append_assoc] at hI ⊢
 try dsimp only at hI ⊢
 obtain ⟨hk, hle1, hown, hacc, hin⟩ := hI
 have hal : acc.length = min k 17 := by have := congrArg List.length hacc; simp at this; omega
 obtain ⟨va, vc, rfl, _⟩ := hown.slice
 by_cases hlt : k < v.i.n
 ·obtain ⟨b, off, C, T, fr, e1, hb, hfit, hc⟩ := (hi.at'.mono hle1).get (show k < r.ims.length by omega)
  have hts := List.take_succ_eq_append_getElem (show k < r.ims.length by omega)
  obtain ⟨hxb, hxa⟩ := him _ (List.getElem_mem (show k < r.ims.length by omega))
  generalize r.ims[k]'(by omega) = x at *
  rw [e1]
  by_cases h16 : k ≤ 16
  ·have hcb := content24_spec ρ1 x.bv x.b (hxb.mono hle1).few
   have hca := fun ρ2 (hle : ρ1.le ρ2) => content24_spec ρ2 x.av x.a (hxa.mono (Hp.le_trans hle1 hle)).few
   repeat' (first | refine zV ?_ | intro _)
   refine tpA [0,1,2,3,4,6,7] (.e 5 [] (.e 8 [9] (.e 10 [] (.e 11 [] (.f [12] .o))))) ([[(_, .cells ⟨imV x⟩ 165 (0, 0))]]) ?_
   repeat' (refine iT ?_; first | refine rAb ?_ | ((refine iE ?_; refine rE ?_) <;> ((try refine Zn ?_); (first | (refine Zb (.func 117) ?_; refine qC rfl rfl (hcb) ?_; rintro v ρ' L' hle ⟨hl2, w2, rfl, hC2, rfl⟩ <;> (try simp only [kA])) | (refine Zb (.func 117) ?_; refine qC rfl rfl (hca _ hl2) ?_; rintro v ρ' L' hle ⟨hl3, w3, rfl, hC3, rfl⟩ <;> (try simp only [kA])) | (refine YH (css := [[.int .i64 x.page, .int .i64 x.b.kind, .slice w2.ra w2.rn w2.rc, .slice w2.ka w2.kn w2.kc, .int .i64 x.a.kind, .slice w3.ra w3.rn w3.rc, .slice w3.ka w3.kn w3.kc]]) (sz := 7) rfl rfl rfl rfl (by simp) (by simp) rfl (fun bs => ?_); simp only [List.flatten_cons, List.flatten_nil, List.append_nil]) | (refine Ye (ys := [.int .i64 x.page, .int .i64 x.b.kind, .slice w2.ra w2.rn w2.rc, .slice w2.ka w2.kn w2.kc, .int .i64 x.a.kind, .slice w3.ra w3.rn w3.rc, .slice w3.ka w3.kn w3.kc]) (m := 1) rfl rfl hown (hR := by infer_instance) (SrcV.lit) rfl rfl (by decide) rfl (by omega) (by omega) rfl (fun v' sp' hown' => ?_)) | (refine Yp ?_; try intro _)) <;> ((try simp only [kA]); refine Zi ?_; refine rN ?_))))
   all_goals (
    have hy : ∃ y : Im, (⟨x.page, w2, fewC x.b, w3, fewC x.a⟩ : Im) = y := ⟨_, rfl⟩
    obtain ⟨y, hy⟩ := hy
    have hyp : y.plain = fewIm x := by rw [← hy]; rfl
    have hyi : Im.In ρ' y := by rw [← hy]; exact ⟨(fewC_fit hxb hC2).mono hl3, fewC_fit hxa hC3⟩
    have hyl : [.int .i64 x.page, .int .i64 x.b.kind, .slice w2.ra w2.rn w2.rc, .slice w2.ka w2.kn w2.kc, .int .i64 x.a.kind, .slice w3.ra w3.rn w3.rc, .slice w3.ka w3.kn w3.kc] = imV y := by rw [← hy]; rfl
    rw [hyl] at hown' ⊢
    have hm : (acc.map imV).flatten ++ imV y = ((acc ++ [y]).map imV).flatten := by simp
    rw [hm] at hown' ⊢
    have hac2 : (acc ++ [y]).map Im.plain = (r.ims.take (min (k + 1) 17)).map fewIm := by
     rw [List.map_append, hacc, show min k 17 = k by omega, show min (k + 1) 17 = k + 1 by omega, hts]
     simp [hyp]
    have hin2 : ∀ z ∈ acc ++ [y], Im.In ρ' z := fun z hz => by
     rcases List.mem_append.1 hz with hz | hz
     ·exact (hin z hz).mono (Hp.le_trans hl2 hl3)
     ·rw [List.mem_singleton.1 hz]; exact hyi
    have hown2 : OwnS v' (acc ++ [y]).length (((acc ++ [y]).map imV).flatten) sp' 7 := by simpa using hown'
    obtain ⟨va', vc', rfl, _⟩ := hown2.slice
    skip)
   all_goals (repeat' (first | refine zV ?_ | intro _))
   all_goals rw [← e1]
   all_goals refine Zd (k + 1, _, _, sp', acc ++ [y]) (⟨hlt, Hp.le_trans hle1 (Hp.le_trans hl2 hl3), hown2, hac2, hin2⟩) Zc Zc rfl tk inferInstance (by first | omega | (dsimp only; omega))
  ·have hacc' : acc.map Im.plain = (r.ims.take (min (k + 1) 17)).map fewIm := by rw [hacc, show min k 17 = 17 by omega, show min (k + 1) 17 = 17 by omega]
   repeat' (first | refine zV ?_ | intro _)
   rw [← e1]
   refine Zd (k + 1, ρ1, _, sp, acc) (⟨hlt, hle1, hown, hacc', hin⟩) Zc Zc rfl tk inferInstance (by first | omega | (dsimp only; omega))
 ·have hk2 : k = v.i.n := by omega
  have hacc2 : acc.map Im.plain = (r.ims.take 17).map fewIm := by rw [hacc, take_some 17 r.ims v.i.n (min k 17) hil (by omega)]
  have hρ := hle1
  have hSl := hS.len
  have hTl := hT.len
  have hDl := hD.len
  unfold fewR24
  generalize hSS : r.steps.take 3 = SS at *
  generalize hTT : r.txns.take 9 = TT at *
  generalize hDD : r.dirty.take 65 = DD at *
  refine tc_freeze (ZM (.slice va acc.length vc) ((acc.map imV).flatten) sp 165) (fun ρ2 hle2 hfz => ?_)
  obtain ⟨sa, sc, e1, hsc, hAI⟩ := hown.aIn rfl (fun x _ => imV_len x) hfz
  cases e1
  have hρ := Hp.le_trans hρ hle2
  clear hfz
  repeat' (first | (simp only [hsm]; refine Ye (n := 0) (xs := []) (sp := []) (ys := (SS.map stpV).flatten) (m := ms) (sz := 6) rfl rfl (OwnS.zero _ 6) (hR := Zx) (AIn.srcV (hS.mono hρ)) (by rw [Yn stpV 6 _ (fun x _ => rfl), hSl]) (flat_one stpV stpV_one _) (by decide) rfl (by omega) (by omega) rfl (fun v1 sp1 hown1 => ?_); simp only [Nat.zero_add, List.nil_append] at hown1 ⊢; refine ZB _ (h := Rem.here) (fun ρ3 hle3 hfz => ?_); obtain ⟨a1, c1, rfl, hsc3, hAS⟩ := hown1.aIn hSl (fun x _ => stpV_len x) hfz; clear hfz) | (simp only [htm]; refine Ye (n := 0) (xs := []) (sp := []) (ys := (TT.map ckTV).flatten) (m := mt) (sz := 5) rfl rfl (OwnS.zero _ 5) (hR := Zx) (AIn.srcV ((hT.mono hρ).mono hle3)) (by rw [Yn ckTV 5 _ (fun x _ => rfl), hTl]) (flat_one ckTV ckTV_one _) (by decide) rfl (by omega) (by omega) rfl (fun v4 sp4 hown4 => ?_); simp only [Nat.zero_add, List.nil_append] at hown4 ⊢; refine ZB _ (h := Rem.here) (fun ρ4 hle4 hfz => ?_); obtain ⟨a4, c4, rfl, hsc4, hAT⟩ := hown4.aIn hTl (fun x _ => ckTV_len x) hfz; clear hfz) | (simp only [hdm]; refine Ye (n := 0) (xs := []) (sp := []) (ys := (DD.map YQ).flatten) (m := md) (sz := 2) rfl rfl (OwnS.zero _ 2) (hR := Zx) (AIn.srcV (((hD.mono hρ).mono hle3).mono hle4)) (by rw [Yn YQ 2 _ (fun x _ => rfl), hDl]) (flat_one YQ ckPV_one _) (by decide) rfl (by omega) (by omega) rfl (fun v5 sp5 hown5 => ?_); simp only [Nat.zero_add, List.nil_append] at hown5 ⊢; refine ZB _ (h := Rem.here) (fun ρ5 hle5 hfz => ?_); obtain ⟨a5, c5, rfl, hsc5, hAD⟩ := hown5.aIn hDl (fun x _ => ckPV_len x) hfz; clear hfz) | refine zV ?_ | intro _)
  have h25 := Hp.le_trans hle3 (Hp.le_trans hle4 hle5)
  exact qE (L' := []) ⟨Hp.le_trans hρ h25, ⟨⟨va, acc.length, vc⟩, ⟨a1, ms, c1⟩, ⟨a4, mt, c4⟩, ⟨a5, md, c5⟩⟩, { r with ims := acc, steps := SS, txns := TT, dirty := DD }, rfl, ⟨⟨hAI.mono h25, by dsimp only; omega, hsc⟩, fun x hx => (hin x hx).mono (Hp.le_trans hle2 h25), ⟨hAS.mono (Hp.le_trans hle4 hle5), by dsimp only; omega, hsc3⟩, ⟨hAT.mono hle5, by dsimp only; omega, hsc4⟩, ⟨hAD, by dsimp only; omega, hsc5⟩, hSf⟩, by rw [← hacc2], rfl⟩
end Go.Proofs.E
namespace Go.Proofs.E
open Go
set_option linter.unusedVariables false
set_option linter.unusedSimpArgs false
set_option linter.unusedSectionVars false
set_option maxRecDepth 4000
set_option maxHeartbeats 1000000
attribute [local irreducible] Yl TL TC TE Spec ZF R1 Hp.le EnvLe TS TR YS Zo
theorem RO.frame {R : RgS} {D D' : DS} (h : RO R D) (hok : D'.Ok) (ha : D'.dead = false) (he : YD D'.secs) (hl : D'.secs.length = D.secs.length) (hi : ∀ i, i < R.h.size + 2 → img D' i = img D i) : RO R D' := by
 have hsz := h.ok.size
 have hm : ∀ x, 2 + x % R.h.size < R.h.size + 2 := fun x => by have := Nat.mod_lt x (show 0 < R.h.size by omega); omega
 refine ⟨h.ok, h.live, h.num, hok, ha, he, by rw [hl]; exact h.len, ?_, ?_, h.has.frame rfl (fun j _ => hi _ (hm _)), ?_, fun q hq => by rw [hi _ (by omega)]; exact h.bound q hq⟩
 ·rw [hi _ (by omega)]; exact h.head
 ·rw [hi _ (by omega)]; exact h.other
 ·intro hlt t b h1 h2 h3 h4
  obtain ⟨k, hk, hne⟩ := h.none hlt t b h1 h2 h3 h4
  exact ⟨k, hk, by rw [hi _ (hm _)]; exact hne⟩
theorem Good.frame {R : RgS} {D D' : DS} (h : Good R D) (hok : D'.Ok) (hc : D'.Calm) (he : YD D'.secs) (hl : D'.secs.length = D.secs.length) (hi : ∀ i, i < R.h.size + 2 → img D' i = img D i) : Good R D' :=
 ⟨h.ro.frame hok hc.dead he hl hi, fun q hq => by rw [hi _ (by omega)]; exact h.frs q hq, hc⟩
theorem FO.frame {D D' : DS} {base t : Nat} {held : Nat → YB} (h : FO D base t held) (hok : D'.Ok) (ha : D'.dead = false) (he : YD D'.secs) (hl : D'.secs.length = D.secs.length) (hi : ∀ i, base ≤ i → i < base + 256 → img D' i = img D i) : FO D' base t held := by
 have hp : ∀ num j, num < 64 → j < 4 → pg D' base num j = pg D base num j := fun num j h1 h2 => hi _ (by omega) (by omega)
 refine ⟨hok, ha, he, by rw [hl]; exact h.len, fun num j h1 h2 => by rw [hp num j h1 h2]; exact h.sec num j h1 h2, fun num h1 => ?_⟩
 unfold csD
 rw [hp num 0 h1 (by omega), hp num 1 h1 (by omega), hp num 2 h1 (by omega), hp num 3 h1 (by omega)]
 exact h.held num h1
theorem writeF_frame {D : DS} {base t : Nat} {held : Nat → YB} (h : FO D base t held) (hc : D.Calm) {num lsn : Nat} {c : Yh} (hn : num < 64) (ht : t + 1 < M64) :
  (XN D base num lsn c).2 = 0 ∧ (XN D base num lsn c).1.Calm ∧ YD (XN D base num lsn c).1.secs ∧ (XN D base num lsn c).1.secs.length = D.secs.length ∧ ∀ i, i < base ∨ base + 256 ≤ i → img (XN D base num lsn c).1 i = img D i := by
 obtain ⟨w0, w1⟩ := writeF_calm (lsn := lsn) (c := c) h hc hn ht
 have hln := h.len
 have hL : base + 4 * num + 4 ≤ D.secs.length := by omega
 obtain ⟨e1, e2⟩ := countsD_calm hc hL
 have hv := countsD_val h.empty h.alive hL e1
 have hs1 := WX (D := D) (base := base) (num := num)
 obtain ⟨m1, m2, _⟩ := csD_most h hn (by omega)
 refine ⟨w0, w1, ?_⟩
 unfold XN
 rw [if_neg (by simp [e1]), hv]
 dsimp only
 rw [if_neg (by unfold M64 at ht; omega)]
 have hidx : ∀ p ∈ YJ (base + 4 * num + 2 * (csD D base num).other) (ZD num ((csD D base num).most + 1) lsn c 0) (ZD num ((csD D base num).most + 1) lsn c 1), base ≤ p.1 ∧ p.1 < base + 256 := fun p hp => by
  simp only [YJ, List.mem_cons, List.not_mem_nil, or_false] at hp
  rcases hp with rfl | rfl <;> dsimp only <;> omega
 obtain ⟨l0, l1, l2⟩ := XF (YJ (base + 4 * num + 2 * (csD D base num).other) (ZD num ((csD D base num).most + 1) lsn c 0) (ZD num ((csD D base num).most + 1) lsn c 1)) (Zt D base num).2.1 e2 (fun p hp => by
  rw [hs1]; have := hidx p hp; omega)
 refine ⟨by rw [l2]; exact Yb, by rw [Xc, hs1], fun i hi => ?_⟩
 rcases Xb (s := (Zt D base num).2.1.secs) (by rw [hs1]; exact h.empty) l2 D hs1.symm i with e | ⟨p, hp, h1, _⟩
 ·exact e
 ·have := hidx p hp; omega
end Go.Proofs.E
namespace Go.Proofs.E
open Go
set_option linter.unusedVariables false
set_option linter.unusedSimpArgs false
set_option linter.unusedSectionVars false
set_option maxRecDepth 4000
set_option maxHeartbeats 1000000
attribute [local irreducible] Yl TL TC TE Spec ZF R1 Hp.le EnvLe TS TR YS Zo TP QP
def begR (lsn : Nat) (txn : Nat) : Rc := ⟨1, lsn, txn, 0, 0, [], [], 0, [], []⟩
abbrev begX (lsn txn : Nat) : RR := (zRR.1, begR lsn txn)
theorem begR_ok {lsn txn : Nat} (h1 : 1 ≤ lsn) (h2 : lsn ≤ 1099511627776) (h3 : 1 ≤ txn) (h4 : txn ≤ 1073741824) : ZT (begR lsn txn) = true := by
 unfold ZT begR headOk askOk bareOk
 simp only [Bool.and_eq_true, decide_eq_true_eq]
 refine ⟨by omega, ⟨by omega, by omega, by omega, by omega, by omega, by simp; omega, by simp⟩, by simp, by simp⟩
theorem begR_len (lsn txn : Nat) : (Wx (begR lsn txn)).length = 21 := by simp [Wx, recHB, recTB, begR, Zj]
theorem begR_cost {lsn txn : Nat} (h : ZT (begR lsn txn) = true) : WW (begR lsn txn) = 1 := by
 rw [costN_ok h, begR_len]; rfl
theorem LgIn.at {ρ S v sp} (h : LgIn ρ S v sp) (R : RgS) (f : Nat) : LgIn ρ (S.at R f) v sp := ⟨h.own, h.rin, h.ok, h.used, h.base⟩
end Go.Proofs.E
