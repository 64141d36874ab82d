/- The law CkptMisses. Part 2 of 3. -/
import Derived.Test.YtkihjlnjdemnbaaS1
namespace Go.Proofs.E
open Go
set_option linter.unusedVariables false
set_option linter.unusedSimpArgs false
set_option linter.unusedSectionVars false
set_option maxRecDepth 4000
set_option maxHeartbeats 1000000
attribute [local irreducible] Yl TL TC TE Spec YSpec R1 Hp.le EnvLe TS TR YS Stays
structure Inv (d : List CkP) (log : List Rc) (disk now : Int → Nat) (dC : List CkP) (c : Nat) : Prop where
  tbl : tblOk d = true
  big : ∀ p q, recP p d = some q → q.since ≤ log.length
  logs : ∀ i (h : i < log.length), log[i].lsn = i + 1 ∧ recOk log[i] = true
  now' : ∀ p, now p ≤ log.length
  dn : ∀ p, disk p ≤ now p
  new : ∀ r ∈ log, ∀ p, tches r p → r.lsn ≤ now p
  last : ∀ p, 0 < now p → ∃ r ∈ log, tches r p ∧ r.lsn = now p
  has : ∀ r ∈ log, ∀ p, tches r p → disk p < r.lsn → ∃ q, recP p d = some q ∧ q.since ≤ r.lsn
  lacks : ∀ p q, recP p d = some q → disk p < now p
  ctbl : tblOk dC = true
  cbig : ∀ p q, recP p dC = some q → q.since < c
  c1 : 1 ≤ c
  cl : c ≤ log.length
  chas : ∀ r ∈ log, ∀ p, tches r p → disk p < r.lsn → r.lsn ≤ c → ∃ q, recP p dC = some q ∧ q.since ≤ r.lsn
theorem makeE_rec {r : Ros} {d : List CkP} {lsn : Nat} (h : makeE r d lsn = 0) : recOk (makeX r d lsn) = true := (makeE_zero h).2.2
theorem not_tches_mark {d : List CkP} {lsn : Nat} {p : Int} : ¬ tches (makeX R0 d lsn) p := by unfold tches makeX; simp
theorem tches_chg {lsn : Nat} {l : List Int} {p : Int} : tches (chgR lsn l) p ↔ p ∈ l := by
  unfold tches chgR
  dsimp only
  rw [List.find?_isSome]
  constructor
  · rintro ⟨x, hx, hp⟩
    obtain ⟨n, hn, rfl⟩ := List.mem_map.1 hx
    have : n = p := of_decide_eq_true hp
    rwa [← this]
  · intro h
    exact ⟨chgI p, List.mem_map.2 ⟨p, h, rfl⟩, by simp [chgI]⟩
theorem Inv.zero : Inv [] [makeX R0 [] 1] (fun _ => 0) (fun _ => 0) [] 1 := by
  have hn : ∀ r ∈ [makeX R0 [] 1], ∀ p, ¬ tches r p := fun r hr p => by
    rw [List.mem_singleton] at hr; rw [hr]; exact not_tches_mark
  refine ⟨rfl, fun p q h => by simp [recP] at h, fun i h => ?_, fun _ => Nat.zero_le _, fun _ => Nat.le_refl _, fun r hr p hp => absurd hp (hn r hr p), fun p h => absurd h (Nat.lt_irrefl _),
    fun r hr p hp => absurd hp (hn r hr p), fun p q h => by simp [recP] at h, rfl, fun p q h => by simp [recP] at h, Nat.le_refl _, Nat.le_refl _, fun r hr p hp => absurd hp (hn r hr p)⟩
  have : i = 0 := by simpa using h
  subst this
  exact ⟨rfl, makeE_rec (mark_ok (Nat.le_refl _) (by omega) rfl (fun p q h => by simp [recP] at h))⟩
variable {d : List CkP} {log : List Rc} {disk now : Int → Nat} {dC : List CkP} {c : Nat}
theorem logs_add (h : ∀ i (h : i < log.length), log[i].lsn = i + 1 ∧ recOk log[i] = true) {r : Rc} (h1 : r.lsn = log.length + 1) (h2 : recOk r = true) :
    ∀ i (h : i < (log ++ [r]).length), (log ++ [r])[i].lsn = i + 1 ∧ recOk (log ++ [r])[i] = true := fun i hi => by
  by_cases hl : i < log.length
  · rw [List.getElem_append_left hl]; exact h i hl
  · rw [List.length_append, List.length_singleton] at hi
    have : i = log.length := by omega
    subst this
    rw [List.getElem_append_right (Nat.le_refl _)]
    simp [h1, h2]
theorem Inv.lsn_le (h : Inv d log disk now dC c) {r : Rc} (hr : r ∈ log) : 1 ≤ r.lsn ∧ r.lsn ≤ log.length ∧ recOk r = true := by
  obtain ⟨i, hi, rfl⟩ := List.mem_iff_getElem.1 hr
  obtain ⟨h1, h2⟩ := h.logs i hi
  exact ⟨by omega, by omega, h2⟩
theorem Inv.mkE (h : Inv d log disk now dC c) (hb : log.length < 1000000) : makeE R0 d (log.length + 1) = 0 :=
  mark_ok (by omega) (by omega) h.tbl (fun p q hq => by have := h.big p q hq; omega)
theorem Inv.mark (h : Inv d log disk now dC c) (hb : log.length < 1000000) : Inv d (log ++ [makeX R0 d (log.length + 1)]) disk now d (log.length + 1) := by
  have hE := h.mkE hb
  have hm : ∀ (P : Rc → Prop), (∀ r ∈ log, P r) → (∀ p, ¬ tches (makeX R0 d (log.length + 1)) p) → True := fun _ _ _ => trivial
  have old : ∀ r ∈ log ++ [makeX R0 d (log.length + 1)], ∀ p, tches r p → r ∈ log := fun r hr p hp => by
    rcases List.mem_append.1 hr with h1 | h1
    · exact h1
    · rw [List.mem_singleton.1 h1] at hp; exact absurd hp not_tches_mark
  have hlen : (log ++ [makeX R0 d (log.length + 1)]).length = log.length + 1 := by simp
  refine ⟨h.tbl, fun p q hq => by have := h.big p q hq; omega, logs_add h.logs rfl (makeE_rec hE), fun p => by have := h.now' p; omega, h.dn, fun r hr p hp => h.new r (old r hr p hp) p hp,
    fun p hp => ?_, fun r hr p hp => h.has r (old r hr p hp) p hp, h.lacks, h.tbl, fun p q hq => by have := h.big p q hq; omega, by omega, by omega, fun r hr p hp hd _ => h.has r (old r hr p hp) p hp hd⟩
  obtain ⟨r, hr, g⟩ := h.last p hp
  exact ⟨r, List.mem_append_left _ hr, g⟩
theorem Inv.lack (h : Inv d log disk now dC c) (p : Int) : (recP p d).isSome = decide (disk p < now p) := by
  cases hq : recP p d with
  | some q => rw [decide_eq_true (h.lacks p q hq)]; rfl
  | none =>
    rw [Option.isSome_none, eq_comm, decide_eq_false_iff_not]
    intro hlt
    obtain ⟨r, hr, ht, e⟩ := h.last p (by omega)
    obtain ⟨q, hq2, _⟩ := h.has r hr p ht (by omega)
    rw [hq] at hq2; cases hq2
theorem recP_del {page pg : Int} {l : List CkP} : recP pg (delP page l) = if pg = page then none else recP pg l := by
  unfold recP delP
  rw [List.find?_filter]
  by_cases h : pg = page
  · rw [if_pos h, List.find?_eq_none]
    intro x _
    subst h
    simp
  · rw [if_neg h]
    congr 1
    funext x
    by_cases hx : x.page = pg
    · simp [hx, h]
    · simp [hx]
theorem tbl_del {page : Int} : ∀ {l : List CkP} {last : Int}, tblB last l = true → tblB last (delP page l) = true
  | [], _, _ => rfl
  | p :: r, last, h => by
    rw [tblB, Bool.and_eq_true, decide_eq_true_eq] at h
    unfold delP
    rw [List.filter_cons]
    split
    · rw [tblB, Bool.and_eq_true, decide_eq_true_eq]; exact ⟨h.1, tbl_del h.2⟩
    · exact tblB_up (tbl_del h.2) (by omega)
theorem Inv.clean (h : Inv d log disk now dC c) (p : Int) : Inv (if (recP p d).isSome then delP p d else d) log (fun q => if q = p then now p else disk q) now dC c := by
  have hrec : ∀ q, recP q (if (recP p d).isSome then delP p d else d) = if q = p then none else recP q d := fun q => by
    cases hp : recP p d with
    | some x => rw [Option.isSome_some, if_pos rfl]; exact recP_del
    | none =>
      rw [Option.isSome_none, if_neg (by decide)]
      by_cases hq : q = p
      · rw [if_pos hq, hq]; exact hp
      · rw [if_neg hq]
  have hge : ∀ q, disk q ≤ (if q = p then now p else disk q) := fun q => by
    split
    · rename_i e; rw [e]; exact h.dn p
    · exact Nat.le_refl _
  refine ⟨?_, fun q x hx => ?_, h.logs, h.now', fun q => ?_, h.new, h.last, fun r hr q hq hlt => ?_, fun q x hx => ?_, h.ctbl, h.cbig, h.c1, h.cl, fun r hr q hq hlt hc => h.chas r hr q hq (Nat.lt_of_le_of_lt (hge q) hlt) hc⟩
  · split
    · exact tbl_del h.tbl
    · exact h.tbl
  · rw [hrec] at hx
    split at hx
    · cases hx
    · exact h.big q x hx
  · split
    · rename_i e; rw [e]; exact Nat.le_refl _
    · exact h.dn q
  · have h1 := h.new r hr q hq
    rw [hrec]
    by_cases e : q = p
    · simp only [if_pos e] at hlt; subst e; omega
    · simp only [if_neg e] at hlt ⊢; exact h.has r hr q hq hlt
  · rw [hrec] at hx
    by_cases e : q = p
    · rw [if_pos e] at hx; cases hx
    · simp only [if_neg e] at hx ⊢; exact h.lacks q x hx
theorem touch_rec {l : List CkP} {r : Rc} (ht : tblOk l = true) (hr : recOk r = true) : tblOk (touchP r l) = true ∧ ∀ page, recP page (touchP r l) = if (recP page l).isSome then recP page l else if (r.ims.find? (fun x => decide (x.page = page))).isSome then some ⟨page, r.lsn⟩ else none := by
  obtain ⟨⟨h1, h2⟩, hpg⟩ := recOk_touch hr
  exact touchI_tbl h1 h2 hpg ht
theorem Inv.touch (h : Inv d log disk now dC c) {own : List Int} (hok : recOk (chgR (log.length + 1) own) = true) :
    Inv (touchP (chgR (log.length + 1) own) d) (log ++ [chgR (log.length + 1) own]) disk (fun p => if p ∈ own then log.length + 1 else now p) dC c := by
  obtain ⟨ht, hrec⟩ := touch_rec h.tbl hok
  have hl : (chgR (log.length + 1) own).lsn = log.length + 1 := rfl
  have htc : ∀ p, tches (chgR (log.length + 1) own) p ↔ p ∈ own := fun p => tches_chg
  unfold tches at htc
  generalize hr0 : chgR (log.length + 1) own = r0 at *
  have hlen : (log ++ [r0]).length = log.length + 1 := by simp
  have old : ∀ r ∈ log ++ [r0], r ∈ log ∨ r = r0 := fun r hr => by
    rcases List.mem_append.1 hr with h1 | h1
    · exact .inl h1
    · exact .inr (List.mem_singleton.1 h1)
  have ge : ∀ p, now p ≤ (if p ∈ own then log.length + 1 else now p) := fun p => by
    have := h.now' p
    split <;> omega
  have keep : ∀ p q, recP p d = some q → recP p (touchP r0 d) = some q := fun p q hq => by rw [hrec, hq]; rfl
  have got : ∀ p, p ∈ own → ∃ q, recP p (touchP r0 d) = some q ∧ q.since ≤ log.length + 1 := fun p hp => by
    rw [hrec]
    cases hq : recP p d with
    | some q => exact ⟨q, rfl, by have := h.big p q hq; omega⟩
    | none => rw [Option.isSome_none, if_neg (by decide), if_pos ((htc p).2 hp)]; exact ⟨_, rfl, by dsimp only; omega⟩
  refine ⟨ht, fun p q hq => ?_, logs_add h.logs hl hok, fun p => ?_, fun p => Nat.le_trans (h.dn p) (ge p), fun r hr p hp => ?_, fun p hp => ?_, fun r hr p hp hlt => ?_, fun p q hq => ?_, h.ctbl, h.cbig, h.c1, by have := h.cl; omega, fun r hr p hp hlt hc => ?_⟩
  · rw [hrec] at hq
    split at hq
    · have := h.big p q hq; omega
    · split at hq
      · cases hq; dsimp only; omega
      · cases hq
  · have := h.now' p
    split <;> omega
  · rcases old r hr with h1 | rfl
    · exact Nat.le_trans (h.new r h1 p hp) (ge p)
    · rw [if_pos ((htc p).1 hp), hl]; exact Nat.le_refl _
  · by_cases hm : p ∈ own
    · simp only [if_pos hm] at hp ⊢
      exact ⟨r0, by simp, (htc p).2 hm, hl⟩
    · simp only [if_neg hm] at hp ⊢
      obtain ⟨r, hr, g⟩ := h.last p hp
      exact ⟨r, List.mem_append_left _ hr, g⟩
  · rcases old r hr with h1 | rfl
    · obtain ⟨q, hq, hs⟩ := h.has r h1 p hp hlt
      exact ⟨q, keep p q hq, hs⟩
    · rw [hl]; exact got p ((htc p).1 hp)
  · rw [hrec] at hq
    split at hq
    · exact Nat.lt_of_lt_of_le (h.lacks p q hq) (ge p)
    · split at hq
      · rename_i hm
        rw [if_pos ((htc p).1 hm)]
        have := h.dn p
        have := h.now' p
        omega
      · cases hq
  · rcases old r hr with h1 | rfl
    · exact h.chas r h1 p hp hlt hc
    · have := h.cl
      omega
/-- the table behind the checkpoint, after k records -/
structure TI (log : List Rc) (dC : List CkP) (c k : Nat) (t : List CkP) : Prop where
  tbl : tblOk t = true
  keep : ∀ p q, recP p dC = some q → recP p t = some q
  big : ∀ p q, recP p t = some q → q.since < c ∨ q.since ≤ k
  got : ∀ i (h : i < log.length), i < k → c < log[i].lsn → ∀ p, tches log[i] p → ∃ q, recP p t = some q ∧ q.since ≤ log[i].lsn
theorem Inv.ti0 (h : Inv d log disk now dC c) : TI log dC c 0 dC := ⟨h.ctbl, fun _ _ h => h, fun p q hq => .inl (h.cbig p q hq), fun i _ h0 => absurd h0 (Nat.not_lt_zero _)⟩
theorem TI.skip {k : Nat} {t : List CkP} (h : TI log dC c k t) (hk : k < log.length) (hc : ¬ c < log[k].lsn) : TI log dC c (k + 1) t :=
  ⟨h.tbl, h.keep, fun p q hq => by rcases h.big p q hq with h1 | h1 <;> omega, fun i hi hik hci p hp => by
    by_cases e : i = k
    · subst e; exact absurd hci hc
    · exact h.got i hi (by omega) hci p hp⟩
theorem TI.step {k : Nat} {t : List CkP} (h : TI log dC c k t) (hI : Inv d log disk now dC c) (hk : k < log.length) (hc : c < log[k].lsn) : TI log dC c (k + 1) (touchP log[k] t) := by
  obtain ⟨hl, hok⟩ := hI.logs k hk
  obtain ⟨ht, hrec⟩ := touch_rec h.tbl hok
  have keep : ∀ p q, recP p t = some q → recP p (touchP log[k] t) = some q := fun p q hq => by rw [hrec, hq]; rfl
  refine ⟨ht, fun p q hq => keep p q (h.keep p q hq), fun p q hq => ?_, fun i hi hik hci p hp => ?_⟩
  · rw [hrec] at hq
    split at hq
    · rcases h.big p q hq with h1 | h1 <;> omega
    · split at hq
      · cases hq; dsimp only; omega
      · cases hq
  · by_cases e : i = k
    · subst e
      rw [hrec]
      cases hq : recP p t with
      | some q => exact ⟨q, rfl, by rcases h.big p q hq with h1 | h1 <;> omega⟩
      | none => unfold tches at hp; rw [Option.isSome_none, if_neg (by decide), if_pos hp]; exact ⟨_, rfl, Nat.le_refl _⟩
    · obtain ⟨q, hq, hs⟩ := h.got i hi (by omega) hci p hp
      exact ⟨q, keep p q hq, hs⟩
theorem Inv.mark0 (h : Inv d log disk now dC c) (hb : log.length ≤ 1000000) : makeE R0 dC c = 0 := mark_ok h.c1 (by have := h.cl; omega) h.ctbl h.cbig
theorem misses_end {t : List CkP} (hI : Inv d log disk now dC c) (hb : log.length ≤ 1000000) (hT : TI log dC c log.length t) {r : Rc} (hr : r ∈ log) {p : Int} (hre : (redoI r p).isSome = true) (hlt : disk p < r.lsn) :
    cutN (makeX R0 dC c) ≤ r.lsn ∧ needsB t r p = true := by
  have htc : tches r p := by
    unfold redoI at hre
    split at hre
    · exact hre
    · cases hre
  rw [(back_of (hI.mark0 hb)).cut]
  obtain ⟨cn1, cn2⟩ := leastN_le (n := c) (l := neededL (makeX R0 dC c))
  have cin : ∀ q, recP p dC = some q → leastN c (neededL (makeX R0 dC c)) ≤ q.since := fun q hq =>
    cn2 _ (List.mem_append_right _ (List.mem_map.2 ⟨q, List.mem_of_find?_eq_some hq, rfl⟩))
  have need : ∀ q, recP p t = some q → q.since ≤ r.lsn → needsB t r p = true := fun q hq hs => by
    unfold needsB
    rw [hre, hT.tbl, hq]
    simp [hs]
  obtain ⟨i, hi, rfl⟩ := List.mem_iff_getElem.1 hr
  by_cases hc : c < log[i].lsn
  · obtain ⟨q, hq, hs⟩ := hT.got i hi hi hc p htc
    exact ⟨by omega, need q hq hs⟩
  · obtain ⟨q, hq, hs⟩ := hI.chas _ hr p htc hlt (by omega)
    have := cin q hq
    exact ⟨by omega, need q (hT.keep p q hq) hs⟩
end Go.Proofs.E

namespace Go.Proofs.E
open Go
set_option linter.unusedVariables false
set_option linter.unusedSimpArgs false
set_option linter.unusedSectionVars false
set_option maxRecDepth 4000
set_option maxHeartbeats 1000000
attribute [local irreducible] Yl TL TC TE Spec YSpec R1 Hp.le EnvLe TS TR YS Stays
structure PagesOk (l : List Int) : Prop where
  len : l.length ≤ 6
  mem : ∀ x ∈ l, 0 ≤ x ∧ x < 6
  up : ∀ i j (h : j < l.length) (hij : i < j), (l[i]'(by omega)) < l[j]
theorem pages_spec (ρ : Hp) (a : Option Addr) (n c : Nat) (l : List Int) (h : SIn ρ i64c a n l) (hn : n ≤ 9223372036854775807) (w m : Bool) :
    Spec Try.prog 24 [.agg ⟨[.slice a n c, .bool w, .bool m]⟩] ρ [] (fun z ρ' L' => ρ.le ρ' ∧ ∃ (s : SV) (own : List Int), z = .slice s.a s.n s.c ∧ SIn ρ' i64c s.a s.n own ∧ PagesOk own ∧ L' = []) := by
  have hl := h.len
  refine spec_enter Try.func24 rfl rfl rfl fun u R => ?_
  simp only [argsE, List.cons_append, List.nil_append]
  repeat' (first | (refine i_op ?_; first | (refine i_qq ?_; refine qQ ?_) | refine qEf ?_) | refine tl_nil ?_ | (refine i_tc ?_; refine qTc ?_) | (refine i_te ?_; refine qTe ?_) | intro _)
  rename_i bx mb
  refine tc_loop_g [(2, _), (3, _), (10, _), (11, _)] (fun (ζ : (Nat) × (List MapEntry) × (Nat)) => [(12, .int .i64 ζ.1)]) (fun (ζ : (Nat) × (List MapEntry) × (Nat)) => ρ) (fun (ζ : (Nat) × (List MapEntry) × (Nat)) => [[(mb, .map ⟨ζ.2.1⟩ ζ.2.2)], [(bx, .cells ⟨[.slice a n c, .bool w, .bool m]⟩ 56 (0, 0))]]) (fun (ζ : (Nat) × (List MapEntry) × (Nat)) => ζ.1 ≤ n ∧ IntKeys .i64 ζ.2.1 ∧ (∀ j v, mget ζ.2.1 j = some v → v = .bool true)) (fun (ζ : (Nat) × (List MapEntry) × (Nat)) => n - ζ.1) ((0, [], 0)) (⟨Nat.zero_le _, by intro e he; simp at he, fun j v hv => by simp [mget] at hv⟩) ev_le ev_le rfl tk ?_
  rintro ⟨k, es, ck⟩ hI
  try simp only [List.cons_append, List.nil_append, List.append_assoc, List.append_eq] at hI ⊢
  try dsimp only at hI ⊢
  obtain ⟨hk, hes, hget⟩ := hI
  by_cases hlt : k < n
  · obtain ⟨b, off, C, T, fr, e1, hb, hcc⟩ := h.get (show k < l.length by omega)
    generalize l[k]'(by omega) = x at *
    rw [e1]
    repeat' (first | (refine tl_mapUpdate rfl rfl rfl hes (fun es' ck' h1 h2 => ?_)) | (refine i_op ?_; first | (refine i_qq ?_; refine qQ ?_) | refine qEf ?_) | refine tl_nil ?_ | (refine i_tc ?_; refine qTc ?_) | (refine i_te ?_; refine qTe ?_) | (refine i_gd ?_; refine tl_guard rfl rfl (fun hb => ?_) (fun hb => ?_) <;> (try simp only [decide_eq_true_eq, decide_eq_false_iff_not, Bool.not_eq_true, Bool.not_eq_false, beq_iff_eq, bne_iff_ne, ne_eq, decide_eq_decide, Bool.not_eq_eq_eq_not, Bool.not_true, Bool.not_false, beq_eq_false_iff_ne, bne_eq_false_iff_eq, Bool.and_eq_true, Bool.or_eq_true, Bool.and_eq_false_imp, Bool.or_eq_false_iff] at hb)) | (refine i_cond ?_; refine tc_cond rfl (fun hb => ?_) (fun hb => ?_) <;> (try simp only [decide_eq_true_eq, decide_eq_false_iff_not, Bool.not_eq_true, Bool.not_eq_false, beq_iff_eq, bne_iff_ne, ne_eq, decide_eq_decide, Bool.not_eq_eq_eq_not, Bool.not_true, Bool.not_false, beq_eq_false_iff_ne, bne_eq_false_iff_eq, Bool.and_eq_true, Bool.or_eq_true, Bool.and_eq_false_imp, Bool.or_eq_false_iff] at hb)) | intro _)
    all_goals rw [← e1]
    · refine te_round_g (k + 1, es', ck') (⟨hlt, h1, fun j v hv => by rw [h2 j] at hv; split at hv; exact (Option.some.inj hv).symm; exact hget j v hv⟩) ev_le ev_le rfl tk inferInstance (by first | omega | (dsimp only; omega))
    · refine te_round_g (k + 1, es, ck) (⟨hlt, hes, hget⟩) ev_le ev_le rfl tk inferInstance (by first | omega | (dsimp only; omega))
  · repeat' (first | (refine i_op ?_; first | (refine i_qq ?_; refine qQ ?_) | refine qEf ?_) | refine tl_nil ?_ | (refine i_tc ?_; refine qTc ?_) | (refine i_te ?_; refine qTe ?_) | intro _)
    refine tc_loop_g [(2, _), (3, _)] (fun (ζ : (Nat) × (Value) × (List Value) × (List Int)) => [(25, .int .i64 ζ.1), (6, ζ.2.1)]) (fun (ζ : (Nat) × (Value) × (List Value) × (List Int)) => ρ) (fun (ζ : (Nat) × (Value) × (List Value) × (List Int)) => [ownC ζ.2.1 (ζ.2.2.2.map i64c) ζ.2.2.1 3, [(mb, .map ⟨es⟩ ck)], [(bx, .cells ⟨[.slice a n c, .bool w, .bool m]⟩ 56 (0, 0))]]) (fun (ζ : (Nat) × (Value) × (List Value) × (List Int)) => ζ.1 ≤ 6 ∧ OwnS ζ.2.1 ζ.2.2.2.length (ζ.2.2.2.map i64c) ζ.2.2.1 1 ∧ ζ.2.2.2.length ≤ ζ.1 ∧ (∀ x ∈ ζ.2.2.2, 0 ≤ x ∧ x < ζ.1) ∧ (∀ i i2 (h : i2 < ζ.2.2.2.length) (hij : i < i2), (ζ.2.2.2[i]'(by omega)) < ζ.2.2.2[i2])) (fun (ζ : (Nat) × (Value) × (List Value) × (List Int)) => 6 - ζ.1) ((0, .slice none 0 0, [], [])) (⟨Nat.zero_le _, OwnS.nil 1, Nat.le_refl _, fun x hx => (by cases hx), fun i i2 h => absurd h (Nat.not_lt_zero _)⟩) ev_le ev_le rfl tk ?_
    rintro ⟨j, vv, sp, own⟩ hI
    try simp only [List.cons_append, List.nil_append, List.append_assoc, List.append_eq] at hI ⊢
    try dsimp only at hI ⊢
    obtain ⟨hj, hown, hlen, hmem, hup⟩ := hI
    by_cases hj6 : j < 6
    · cases hg : mget es (j : Int) with
      | none =>
        repeat' (first | (refine i_op ?_; first | (refine i_qq ?_; refine qQ ?_) | refine qEf ?_) | refine tl_nil ?_ | (refine i_tc ?_; refine qTc ?_) | (refine i_te ?_; refine qTe ?_) | intro _)
        refine te_round_g (j + 1, vv, sp, own) (⟨hj6, hown, by dsimp only; omega, fun x hx => by have := hmem x hx; dsimp only; omega, hup⟩) ev_le ev_le rfl tk inferInstance (by first | omega | (dsimp only; omega))
      | some v =>
        obtain rfl := hget _ v hg
        repeat' (first | (refine tl_buildSlice_s rfl rfl rfl rfl (by simp) rfl rfl (fun _ => ?_)) | (refine tl_append (ys := [i64c (j : Int)]) rfl rfl hown (Src.find (n := 1) rfl) rfl rfl (by decide) rfl (by omega) (by omega) rfl (fun v' sp' hown' => ?_)) | (refine i_op ?_; first | (refine i_qq ?_; refine qQ ?_) | refine qEf ?_) | refine tl_nil ?_ | (refine i_tc ?_; refine qTc ?_) | (refine i_te ?_; refine qTe ?_) | intro _)
        have hm : own.map i64c ++ [i64c (j : Int)] = (own ++ [(j : Int)]).map i64c := by simp
        rw [hm] at hown' ⊢
        refine te_round_g (j + 1, v', sp', own ++ [(j : Int)]) (?_) ev_le ev_le rfl tk inferInstance (by first | omega | (dsimp only; omega))
        refine ⟨hj6, by rw [List.length_append]; exact hown', by simp; omega, fun x hx => ?_, fun i k hk hik => ?_⟩
        · rcases List.mem_append.1 hx with h1 | h1
          · have := hmem x h1; omega
          · rw [List.mem_singleton.1 h1]; omega
        · rw [List.length_append, List.length_singleton] at hk
          by_cases hkl : k < own.length
          · rw [List.getElem_append_left hkl, List.getElem_append_left (by omega)]; exact hup i k hkl hik
          · rw [List.getElem_append_left (show i < own.length by omega), List.getElem_append_right (by omega)]
            have := hmem _ (List.getElem_mem (show i < own.length by omega))
            simp; omega
    · repeat' (first | (refine i_op ?_; first | (refine i_qq ?_; refine qQ ?_) | refine qEf ?_) | refine tl_nil ?_ | (refine i_tc ?_; refine qTc ?_) | (refine i_te ?_; refine qTe ?_) | intro _)
      refine te_freeze (ownC vv (own.map i64c) sp 3) (fun ρ3 hle3 hfz => ?_)
      obtain ⟨sa, sc, f1, hsc, hS⟩ := hown.sIn hfz
      subst f1
      exact qE (L' := []) ⟨hle3, ⟨sa, own.length, sc⟩, own, rfl, hS, ⟨by omega, fun x hx => by have := hmem x hx; omega, hup⟩, rfl⟩
end Go.Proofs.E

