/- DiskForks holds of every size and every two rows of operations (no condition): the reference of layer 2, and the walk of the law. Part 1 of 2. -/
import Derived.Test.YthbgnmilbgecfaaB3
namespace Go.Proofs.E
open Go Go.RowKit
set_option linter.unusedVariables false
set_option linter.unusedSimpArgs false
set_option linter.unusedSectionVars false

/-! ## what the laws of this chapter are handed -/
theorem keepIn_of {ρ : Hp} {cs : List Value} {s : Option Addr × Nat × Nat × List Bool} (h : RS ρ 1 RB cs s) : KeepIn ρ s.1 s.2.1 s.2.2.1 s.2.2.2 := by
  obtain ⟨a, n, c, ks⟩ := s
  obtain ⟨h1, h2, h3, h4, h5⟩ := h
  dsimp only at h1 h2 h3 h4 h5 ⊢
  refine ⟨h2, h4, by omega, ?_⟩
  by_cases h0 : n = 0
  · exact .inl h0
  · right
    obtain ⟨b, off, C, T, fr, e1, e2, e3, e4⟩ := h5 0 (by omega)
    have same : ∀ i (h : i < ks.length), off + i * 1 + 1 ≤ C.length ∧ (C.drop (off + i * 1)).take 1 = [.bool ks[i]] := fun i hi => by
      obtain ⟨b', off', C', T', fr', f1, f2, f3, f4⟩ := h5 i hi
      rw [e1] at f1
      cases f1
      rw [e2] at f2
      cases f2
      exact ⟨f3, f4⟩
    refine ⟨b, off, C, T, fr, e1, e2, ?_⟩
    apply List.ext_getElem
    · have := (same (n - 1) (by omega)).1
      simp; omega
    · intro i h1 h2
      have hi : i < ks.length := by simpa using h2
      have h3 := (same i hi).2
      have h4 := congrArg (fun l : List Value => l[0]?) h3
      simp only [List.getElem?_cons_zero] at h4
      rw [List.getElem?_take_of_lt (by omega), List.getElem?_drop] at h4
      have h5 : C[off + i]? = some (.bool ks[i]) := by simpa using h4
      simp only [List.getElem_take, List.getElem_drop, List.getElem_map, bb]
      have := (List.getElem?_eq_some_iff.1 h5).2
      exact this
section
variable {H : Type} {enc : TypeId × Value → H} {w : World}
theorem opn_op : Opn enc Try.prog w 25 (fun cs (o : OpV × List Bool) => cs = o.1.cells ∧ KeepIn (hpOf w) o.1.ka o.1.kn o.1.kp o.2) := fun fuel cs x h => by
  obtain ⟨hl, hf⟩ := opn_fields Try.underlying25 h
  have hl : cs.length = 5 := by rw [hl]; kernel_rfl
  obtain ⟨c0, c1, c2, c3, c4, rfl⟩ : ∃ c0 c1 c2 c3 c4, cs = [c0, c1, c2, c3, c4] := by
    match cs, hl with
    | [c0, c1, c2, c3, c4], _ => exact ⟨c0, c1, c2, c3, c4, rfl⟩
  obtain ⟨k, h0, _⟩ := opn_field h Try.underlying25 0 0 1 rfl rfl rfl (by kernel_rfl) (opn_int Try.underlying3)
  obtain ⟨a, h1, _⟩ := opn_field h Try.underlying25 1 1 1 rfl rfl rfl (by kernel_rfl) (opn_int Try.underlying3)
  obtain ⟨m, h2, _⟩ := opn_field h Try.underlying25 2 2 1 rfl rfl rfl (by kernel_rfl) (opn_int Try.underlying3)
  obtain ⟨y, h3, y0, y1⟩ := opn_field h Try.underlying25 3 3 1 rfl rfl rfl (by kernel_rfl) (opn_int Try.underlying5)
  obtain ⟨⟨ka, kn, kp, ks⟩, h4⟩ := opn_field h Try.underlying25 4 4 1 rfl rfl rfl (by kernel_rfl) (opn_slice (sz := 1) Try.underlying23 (by kernel_rfl) (by decide) (opn_bool Try.underlying4))
  have hk := keepIn_of h4
  replace h4 := h4.cells
  simp only [List.drop_zero, List.drop_succ_cons, List.take_succ_cons, List.take_zero, List.cons.injEq, and_true] at h0 h1 h2 h3 h4
  subst h0; subst h1; subst h2; subst h3; subst h4
  simp only [lo, hi] at y0 y1
  refine ⟨(⟨k, a, m, UInt8.ofNat y.toNat, ka, kn, kp⟩, ks), ?_, hk⟩
  simp only [OpV.cells, u8c]
  have : ((UInt8.ofNat y.toNat).toNat : Int) = y := by simp [UInt8.toNat_ofNat]; omega
  rw [this]
theorem opn_ops : Opn enc Try.prog w 22 (RS (hpOf w) 5 (fun cs (o : OpV × List Bool) => cs = o.1.cells ∧ KeepIn (hpOf w) o.1.ka o.1.kn o.1.kp o.2)) :=
  opn_slice Try.underlying22 (by kernel_rfl) (by decide) opn_op
theorem opn_bools : Opn enc Try.prog w 23 (RS (hpOf w) 1 RB) := opn_slice Try.underlying23 (by kernel_rfl) (by decide) (opn_bool Try.underlying4)
theorem opsIn_of {ρ : Hp} {cs : List Value} {s : Option Addr × Nat × Nat × List (OpV × List Bool)} (h : RS ρ 5 (fun cs (o : OpV × List Bool) => cs = o.1.cells ∧ KeepIn ρ o.1.ka o.1.kn o.1.kp o.2) cs s) (hb : s.2.1 ≤ 9223372036854775806) : OpsIn ρ s.1 s.2.1 s.2.2.2 := by
  obtain ⟨a, n, c, ks⟩ := s
  obtain ⟨h1, h2, h3, h4, h5⟩ := h
  dsimp only at h1 h2 h3 h4 h5 hb ⊢
  refine ⟨h4, hb, fun i hi => ?_⟩
  obtain ⟨b, off, C, T, fr, e1, e2, e3, e4, e5⟩ := h5 i hi
  exact ⟨b, off, C, T, fr, e1, e2, e3, e4, e5⟩
end
end Go.Proofs.E

namespace Go.Proofs.E
open Go
set_option linter.unusedVariables false
set_option linter.unusedSimpArgs false
set_option linter.unusedSectionVars false

/-! ## DiskStops: the plain law -/
structure SInv (k done len : Nat) (D : DS) : Prop where
  ok : D.Ok
  failing : D.failing = -1
  len' : D.secs.length = len
  le : done ≤ k
  armed : D.dead = false → D.armed = (k : Int) - done
theorem run_read {D : DS} {o ks} (h : opK o = 4) : D.run o ks = D.read o.at' := by simp [DS.run, h]
theorem run_sync {D : DS} {o ks} (h : opK o = 5) : D.run o ks = (D.sync.1, zblk, D.sync.2) := by simp [DS.run, h]
theorem run_write {D : DS} {o ks} (h : opK o < 4) : D.run o ks = ((D.write o.at' (fillB o.fill)).1, zblk, (D.write o.at' (fillB o.fill)).2) := by
  have h1 : ¬ opK o = 4 := by omega
  have h2 : ¬ opK o = 5 := by omega
  have h3 : ¬ opK o = 6 := by omega
  have h4 : ¬ opK o = 7 := by omega
  have h5 : ¬ opK o = 8 := by omega
  simp [DS.run, h1, h2, h3, h4, h5]
theorem stop_cases (o : OpV) (h : opK o < 6) : opK o = 5 ∨ opK o = 4 ∨ opK o < 4 := by omega
theorem stop_dead {k done len D o ks} (h : SInv k done len D) (hd : D.dead = true) (hk : opK o < 6) : ∃ D' blk, D.run o ks = (D', blk, 9) ∧ SInv k done len D' ∧ D'.dead = true := by
  have : D.run o ks = (D, zblk, 9) := by
    rcases stop_cases o hk with h5 | h4 | h3
    · rw [run_sync h5]; simp [DS.sync, hd]
    · rw [run_read h4]; simp [DS.read, hd]
    · rw [run_write h3]; simp [DS.write, hd]
  exact ⟨D, zblk, this, h, hd⟩
theorem stop_arg {k done len D o ks} (h : SInv k done len D) (hd : D.dead = false) (hk : opK o < 6) (h5 : opK o ≠ 5) (ho : o.at' < 0 ∨ (len : Int) ≤ o.at') : ∃ D' blk, D.run o ks = (D', blk, 2) ∧ SInv k done len D' ∧ D'.dead = false := by
  have ho' : o.at' < 0 ∨ (D.secs.length : Int) ≤ o.at' := by rw [h.len']; exact ho
  have : D.run o ks = (D, zblk, 2) := by
    rcases stop_cases o hk with h5' | h4 | h3
    · exact absurd h5' h5
    · rw [run_read h4]; unfold DS.read; simp only [hd, Bool.false_eq_true, if_false, ho', if_true]
    · rw [run_write h3]; unfold DS.write; simp only [hd, Bool.false_eq_true, if_false, ho', if_true]
  exact ⟨D, zblk, this, h, hd⟩
theorem stop_read {k done len D o ks} (h : SInv k done len D) (hd : D.dead = false) (h4 : opK o = 4) (h0 : 0 ≤ o.at') (h1 : o.at' < len) : ∃ D' blk, D.run o ks = (D', blk, 0) ∧ SInv k done len D' ∧ D'.dead = false := by
  have ho' : ¬ (o.at' < 0 ∨ (D.secs.length : Int) ≤ o.at') := by rw [h.len']; omega
  have hf : ¬ D.failing = 0 := by rw [h.failing]; decide
  have hc : cnt (-1) = -1 := by decide
  refine ⟨D.tick, says1 (D.secs[o.at'.toNat]?.getD (zblk, none)), ?_, ⟨h.ok.tick, by simp only [DS.tick, h.failing, hc], h.len', h.le, h.armed⟩, hd⟩
  · rw [run_read h4]; unfold DS.read; simp only [hd, Bool.false_eq_true, if_false, ho', hf]
theorem stop_last {k done len D o ks} (h : SInv k done len D) (hd : D.dead = false) (hk : opK o < 6) (h4 : opK o ≠ 4) (ho : opK o = 5 ∨ (0 ≤ o.at' ∧ o.at' < len)) (he : done = k) : ∃ D' blk, D.run o ks = (D', blk, 9) ∧ SInv k done len D' ∧ D'.dead = true := by
  have ha : D.armed = 0 := by rw [h.armed hd, he]; omega
  have hc : cnt (-1) = -1 := by decide
  have hok : (D.run o ks).1.Ok := h.ok.run hk
  rcases stop_cases o hk with h5 | h4' | h3
  · rw [run_sync h5] at hok ⊢
    have hs : D.sync = ({ D.tick with dead := true }, 9) := by simp [DS.sync, hd, ha]
    rw [hs] at hok ⊢
    exact ⟨_, _, rfl, ⟨hok, by simp only [DS.tick, h.failing, hc], h.len', h.le, fun h => by cases h⟩, rfl⟩
  · exact absurd h4' h4
  · rw [run_write h3] at hok ⊢
    have hr : 0 ≤ o.at' ∧ o.at' < len := ho.resolve_left (by omega)
    have ho' : ¬ (o.at' < 0 ∨ (D.secs.length : Int) ≤ o.at') := by rw [h.len']; omega
    have hs : D.write o.at' (fillB o.fill) = ({ D.tick with dead := true, secs := putC D.secs o.at'.toNat (fillB o.fill) }, 9) := by
      unfold DS.write; simp only [hd, Bool.false_eq_true, if_false, ho', ha, if_true]
    rw [hs] at hok ⊢
    exact ⟨_, _, rfl, ⟨hok, by simp only [DS.tick, h.failing, hc], by simp only [putC_length]; exact h.len', h.le, fun h => by cases h⟩, rfl⟩
theorem stop_done {k done len D o ks} (h : SInv k done len D) (hd : D.dead = false) (hk : opK o < 6) (h4 : opK o ≠ 4) (ho : opK o = 5 ∨ (0 ≤ o.at' ∧ o.at' < len)) (he : done ≠ k) : ∃ D' blk, D.run o ks = (D', blk, 0) ∧ SInv k (done + 1) len D' ∧ D'.dead = false := by
  have hle := h.le
  have ha : D.armed = (k : Int) - done := h.armed hd
  have ha0 : ¬ D.armed = 0 := by rw [ha]; omega
  have hf : ¬ D.failing = 0 := by rw [h.failing]; decide
  have hc : cnt (-1) = -1 := by decide
  have hca : cnt D.armed = (k : Int) - (done + 1 : Nat) := by rw [ha]; unfold cnt; omega
  have hok : (D.run o ks).1.Ok := h.ok.run hk
  rcases stop_cases o hk with h5 | h4' | h3
  · rw [run_sync h5] at hok ⊢
    have hs : D.sync = ({ D.tick with armed := cnt D.armed, secs := settled (fun _ => true) D.secs }, 0) := by unfold DS.sync; simp only [hd, Bool.false_eq_true, if_false, ha0, hf]
    rw [hs] at hok ⊢
    exact ⟨_, _, rfl, ⟨hok, by simp only [DS.tick, h.failing, hc], by simp only [settled_length]; exact h.len', by omega, fun _ => hca⟩, hd⟩
  · exact absurd h4' h4
  · rw [run_write h3] at hok ⊢
    have hr : 0 ≤ o.at' ∧ o.at' < len := ho.resolve_left (by omega)
    have ho' : ¬ (o.at' < 0 ∨ (D.secs.length : Int) ≤ o.at') := by rw [h.len']; omega
    have hs : D.write o.at' (fillB o.fill) = ({ D.tick with armed := cnt D.armed, secs := putC D.secs o.at'.toNat (fillB o.fill) }, 0) := by
      unfold DS.write; simp only [hd, Bool.false_eq_true, if_false, ho', ha0, hf]
    rw [hs] at hok ⊢
    exact ⟨_, _, rfl, ⟨hok, by simp only [DS.tick, h.failing, hc], by simp only [putC_length]; exact h.len', by omega, fun _ => hca⟩, hd⟩
theorem run_blk {D : DS} (hD : D.Ok) {o : OpV} {ks : List Bool} : (D.run o ks).2.1.length = 64 := by
  unfold DS.run
  split
  · exact read_len hD _
  · repeat' (split; · rfl)
    rfl
theorem opsIn_nil (ρ : Hp) : OpsIn ρ none 0 [] := ⟨rfl, by decide, fun i h => by simp at h⟩
theorem u64_small {a : Int} : IntKind.i64.wrap ((IntKind.u64.wrap a).tmod 8) = ((((IntKind.u64.wrap a).tmod 8).toNat : Nat) : Int) ∧ ((IntKind.u64.wrap a).tmod 8).toNat < 8 := by
  have h0 : 0 ≤ IntKind.u64.wrap a := by simp only [IntKind.wrap, IntKind.bits, IntKind.signed, Bool.false_and, Bool.false_eq_true, if_false]; omega
  have h1 : (IntKind.u64.wrap a).tmod 8 < 8 := Int.tmod_lt_of_pos _ (by decide)
  have h2 : 0 ≤ (IntKind.u64.wrap a).tmod 8 := Int.tmod_nonneg _ h0
  refine ⟨?_, by omega⟩
  rw [wrap_id (by simp only [lo, hi]; omega)]
  omega
end Go.Proofs.E

namespace Go.Proofs.E
open Go
set_option linter.unusedVariables false
set_option linter.unusedSimpArgs false
set_option linter.unusedSectionVars false
set_option maxRecDepth 4000
set_option maxHeartbeats 1000000
attribute [local irreducible] Yl TL TC TE Spec YSpec R1 Hp.le EnvLe TS TR YS Stays
/-! ## Copy -/
theorem clone46 (ρ : Hp) (b n cap : Nat) (xs sp : List Value) (hl : xs.length = n * 64) (hn : 0 < n) (hbig : n ≤ 100000) (h1 : xs.all (·.oneCell') = true) :
    Spec Try.prog 46 [.slice (some ⟨b, 0, none⟩) n cap] ρ [[(b, .cells ⟨xs ++ sp⟩ 34 (0, 0))]] (fun v ρ' L' => ρ' = ρ ∧ ∃ sp', OwnS v n xs sp' 64 ∧ L' = [[(b, .cells ⟨xs ++ sp⟩ 34 (0, 0))], ownC v xs sp' 34]) := by
  refine spec_enter Try.func46 rfl rfl rfl fun u R => ?_
  simp only [argsE, List.cons_append, List.nil_append]
  have hsrc : ((xs ++ sp).drop 0).take (n * 64) = xs := by simp [hl]
  repeat' (first | (refine i_op ?_; first | (refine iMv ?_; refine qMv ?_) | (refine iLd ?_; refine qLd ?_) | (refine iFa ?_; refine qFa ?_) | (refine iAd ?_; refine qAd ?_) | (refine iSb ?_; refine qSb ?_) | (refine iMl ?_; refine qMl ?_) | (refine iRm ?_; refine qRm ?_) | (refine iQu ?_; refine qQu ?_) | (refine iSr ?_; refine qSr ?_) | (refine iSh ?_; refine qSh ?_) | (refine iCm ?_; refine qCm ?_) | (refine iEx ?_; refine qEx ?_) | (refine iAs ?_; refine qAs ?_) | (refine iPk ?_; refine qPk ?_) | (refine iNc ?_; refine qNc ?_) | (refine iIa ?_; refine qIa ?_) | (refine iCv ?_; refine qCv ?_) | (refine iBi ?_; refine qBi ?_) | (refine iUn ?_; refine qUn ?_) | (refine iFl ?_; refine qFl ?_) | (refine iLu ?_; refine qLu ?_) | (refine iBu ?_; refine qBu ?_) | (refine iSl ?_; refine qSl ?_) | (refine iMf ?_; refine qMf ?_) | (refine iMi ?_; refine qMi ?_) | (refine iTa ?_; refine qTa ?_) | (refine iSt ?_; refine qSt ?_) | (refine iAl ?_; first | refine qAlA (fun _ => ?_) | refine qAlS (fun _ => ?_)) | (refine iBx ?_; first | refine qBxA (fun _ => ?_) | refine qBxS (fun _ => ?_)) | (refine iMm ?_; refine qMm (fun _ => ?_)) | (refine iBs ?_; refine qBs (fun _ => ?_)) | (refine i_gd ?_; first | refine qWant ?_ | refine qSkip ?_ | refine qSkip0 ?_ | refine qSkipU ?_)) | refine tl_nil ?_ | refine tc_seq ?_ | refine tc_region ?_ | refine te_seq ?_ | (refine i_cond ?_; first | refine qCt ?_ | refine qCf ?_) | refine tc_block ?_ | refine te_block_normal ?_ | refine te_block_ret ?_ | refine te_then_ret ?_ | refine te_block_hit ?_ | (refine i_miss ?_; refine qMiss ?_) | refine te_then_exit ?_ | refine tc_exit ?_ | refine tc_ret ?_ | refine tc_skip ?_)
  refine tl_append (n := 0) (xs := []) (sp := []) (ys := xs) rfl rfl (OwnS.zero _ 64) (hR := rem_here') (Src.find (n := n * 64) hsrc) hl h1 hn rfl (by omega) (by omega) rfl (fun v' sp' hown' => ?_)
  simp only [Nat.zero_add, List.nil_append] at hown' ⊢
  repeat' (first | (refine i_op ?_; first | (refine iMv ?_; refine qMv ?_) | (refine iLd ?_; refine qLd ?_) | (refine iFa ?_; refine qFa ?_) | (refine iAd ?_; refine qAd ?_) | (refine iSb ?_; refine qSb ?_) | (refine iMl ?_; refine qMl ?_) | (refine iRm ?_; refine qRm ?_) | (refine iQu ?_; refine qQu ?_) | (refine iSr ?_; refine qSr ?_) | (refine iSh ?_; refine qSh ?_) | (refine iCm ?_; refine qCm ?_) | (refine iEx ?_; refine qEx ?_) | (refine iAs ?_; refine qAs ?_) | (refine iPk ?_; refine qPk ?_) | (refine iNc ?_; refine qNc ?_) | (refine iIa ?_; refine qIa ?_) | (refine iCv ?_; refine qCv ?_) | (refine iBi ?_; refine qBi ?_) | (refine iUn ?_; refine qUn ?_) | (refine iFl ?_; refine qFl ?_) | (refine iLu ?_; refine qLu ?_) | (refine iBu ?_; refine qBu ?_) | (refine iSl ?_; refine qSl ?_) | (refine iMf ?_; refine qMf ?_) | (refine iMi ?_; refine qMi ?_) | (refine iTa ?_; refine qTa ?_) | (refine iSt ?_; refine qSt ?_) | (refine iAl ?_; first | refine qAlA (fun _ => ?_) | refine qAlS (fun _ => ?_)) | (refine iBx ?_; first | refine qBxA (fun _ => ?_) | refine qBxS (fun _ => ?_)) | (refine iMm ?_; refine qMm (fun _ => ?_)) | (refine iBs ?_; refine qBs (fun _ => ?_)) | (refine i_gd ?_; first | refine qWant ?_ | refine qSkip ?_ | refine qSkip0 ?_ | refine qSkipU ?_)) | refine tl_nil ?_ | refine tc_seq ?_ | refine tc_region ?_ | refine te_seq ?_ | (refine i_cond ?_; first | refine qCt ?_ | refine qCf ?_) | refine tc_block ?_ | refine te_block_normal ?_ | refine te_block_ret ?_ | refine te_then_ret ?_ | refine te_block_hit ?_ | (refine i_miss ?_; refine qMiss ?_) | refine te_then_exit ?_ | refine tc_exit ?_ | refine tc_ret ?_ | refine tc_skip ?_)
  exact te_end rfl rfl rfl (res1 rfl (r1_tmp rfl)) (Hp.le_refl _) tk (by infer_instance) ⟨rfl, sp', hown', rfl⟩
theorem mclone47 (ρ : Hp) (b : Nat) (es : Array MapEntry) (ck : Nat) : Spec Try.prog 47 [.map (some b)] ρ [[(b, .map es ck)]] (fun v ρ' L' => ρ' = ρ ∧ ∃ b', v = .map (some b') ∧ L' = [[(b, .map es ck)], [(b', .map es ck)]]) := by
  refine spec_enter Try.func47 rfl rfl rfl fun u R => ?_
  simp only [argsE, List.cons_append, List.nil_append]
  repeat' (first | (refine tl_is (.func 58) ?_; refine tl_mapsClone rfl Try.func58 rfl rfl rfl rfl rfl (fun _ => ?_)) | (refine i_op ?_; first | (refine iMv ?_; refine qMv ?_) | (refine iLd ?_; refine qLd ?_) | (refine iFa ?_; refine qFa ?_) | (refine iAd ?_; refine qAd ?_) | (refine iSb ?_; refine qSb ?_) | (refine iMl ?_; refine qMl ?_) | (refine iRm ?_; refine qRm ?_) | (refine iQu ?_; refine qQu ?_) | (refine iSr ?_; refine qSr ?_) | (refine iSh ?_; refine qSh ?_) | (refine iCm ?_; refine qCm ?_) | (refine iEx ?_; refine qEx ?_) | (refine iAs ?_; refine qAs ?_) | (refine iPk ?_; refine qPk ?_) | (refine iNc ?_; refine qNc ?_) | (refine iIa ?_; refine qIa ?_) | (refine iCv ?_; refine qCv ?_) | (refine iBi ?_; refine qBi ?_) | (refine iUn ?_; refine qUn ?_) | (refine iFl ?_; refine qFl ?_) | (refine iLu ?_; refine qLu ?_) | (refine iBu ?_; refine qBu ?_) | (refine iSl ?_; refine qSl ?_) | (refine iMf ?_; refine qMf ?_) | (refine iMi ?_; refine qMi ?_) | (refine iTa ?_; refine qTa ?_) | (refine iSt ?_; refine qSt ?_) | (refine iAl ?_; first | refine qAlA (fun _ => ?_) | refine qAlS (fun _ => ?_)) | (refine iBx ?_; first | refine qBxA (fun _ => ?_) | refine qBxS (fun _ => ?_)) | (refine iMm ?_; refine qMm (fun _ => ?_)) | (refine iBs ?_; refine qBs (fun _ => ?_)) | (refine i_gd ?_; first | refine qWant ?_ | refine qSkip ?_ | refine qSkip0 ?_ | refine qSkipU ?_)) | refine tl_nil ?_ | refine tc_seq ?_ | refine tc_region ?_ | refine te_seq ?_ | (refine i_cond ?_; first | refine qCt ?_ | refine qCf ?_) | refine tc_block ?_ | refine te_block_normal ?_ | refine te_block_ret ?_ | refine te_then_ret ?_ | refine te_block_hit ?_ | (refine i_miss ?_; refine qMiss ?_) | refine te_then_exit ?_ | refine tc_exit ?_ | refine tc_ret ?_ | refine tc_skip ?_)
  exact qE ⟨rfl, _, rfl, rfl⟩
theorem copy_nil (ρ : Hp) : Spec Try.prog 23 [.pointer none] ρ [] (fun v ρ' L' => v = .pointer none ∧ ρ' = ρ ∧ L' = []) := by
  refine spec_enter Try.func23 rfl rfl rfl fun u R => ?_
  simp only [argsE, List.cons_append, List.nil_append]
  repeat' (first | (refine i_op ?_; first | (refine iMv ?_; refine qMv ?_) | (refine iLd ?_; refine qLd ?_) | (refine iFa ?_; refine qFa ?_) | (refine iAd ?_; refine qAd ?_) | (refine iSb ?_; refine qSb ?_) | (refine iMl ?_; refine qMl ?_) | (refine iRm ?_; refine qRm ?_) | (refine iQu ?_; refine qQu ?_) | (refine iSr ?_; refine qSr ?_) | (refine iSh ?_; refine qSh ?_) | (refine iCm ?_; refine qCm ?_) | (refine iEx ?_; refine qEx ?_) | (refine iAs ?_; refine qAs ?_) | (refine iPk ?_; refine qPk ?_) | (refine iNc ?_; refine qNc ?_) | (refine iIa ?_; refine qIa ?_) | (refine iCv ?_; refine qCv ?_) | (refine iBi ?_; refine qBi ?_) | (refine iUn ?_; refine qUn ?_) | (refine iFl ?_; refine qFl ?_) | (refine iLu ?_; refine qLu ?_) | (refine iBu ?_; refine qBu ?_) | (refine iSl ?_; refine qSl ?_) | (refine iMf ?_; refine qMf ?_) | (refine iMi ?_; refine qMi ?_) | (refine iTa ?_; refine qTa ?_) | (refine iSt ?_; refine qSt ?_) | (refine iAl ?_; first | refine qAlA (fun _ => ?_) | refine qAlS (fun _ => ?_)) | (refine iBx ?_; first | refine qBxA (fun _ => ?_) | refine qBxS (fun _ => ?_)) | (refine iMm ?_; refine qMm (fun _ => ?_)) | (refine iBs ?_; refine qBs (fun _ => ?_)) | (refine i_gd ?_; first | refine qWant ?_ | refine qSkip ?_ | refine qSkip0 ?_ | refine qSkipU ?_)) | refine tl_nil ?_ | refine tc_seq ?_ | refine tc_region ?_ | refine te_seq ?_ | (refine i_cond ?_; first | refine qCt ?_ | refine qCf ?_) | refine tc_block ?_ | refine te_block_normal ?_ | refine te_block_ret ?_ | refine te_then_ret ?_ | refine te_block_hit ?_ | (refine i_miss ?_; refine qMiss ?_) | refine te_then_exit ?_ | refine tc_exit ?_ | refine tc_ret ?_ | refine tc_skip ?_)
  exact qE ⟨rfl, rfl, rfl⟩
theorem heldC_one (s : Secs) : (heldC s).all (·.oneCell') = true := by
  unfold heldC
  rw [List.all_flatten, List.all_map, List.all_eq_true]
  intro p _
  exact u8c_one p.1
theorem copy_spec (ρ : Hp) (b : Nat) (hb : HB) (mb : Nat) (es : List MapEntry) (ck : Nat) (D : DS) (hD : D.Ok) :
    Spec Try.prog 23 [.pointer (some ⟨b, 0, none⟩)] ρ (diskL b hb mb es ck D) (fun v ρ' L' => ρ' = ρ ∧ ∃ b' hb' mb', v = .pointer (some ⟨b', 0, none⟩) ∧ L' = diskL b hb mb es ck D ++ diskL b' hb' mb' es ck D) := by
  obtain ⟨s, ops, armed, failing, dead⟩ := D
  have hs := hD.secs
  dsimp only at hs
  have hlen := hs.len
  have hpos := hs.pos
  have hl := heldC_length hs.held
  have h1 := heldC_one s
  refine spec_enter Try.func23 rfl rfl rfl fun u R => ?_
  simp only [argsE, List.cons_append, List.nil_append, diskL, dO]
  repeat' (first | (refine i_op ?_; first | (refine iMv ?_; refine qMv ?_) | (refine iLd ?_; refine qLd ?_) | (refine iFa ?_; refine qFa ?_) | (refine iAd ?_; refine qAd ?_) | (refine iSb ?_; refine qSb ?_) | (refine iMl ?_; refine qMl ?_) | (refine iRm ?_; refine qRm ?_) | (refine iQu ?_; refine qQu ?_) | (refine iSr ?_; refine qSr ?_) | (refine iSh ?_; refine qSh ?_) | (refine iCm ?_; refine qCm ?_) | (refine iEx ?_; refine qEx ?_) | (refine iAs ?_; refine qAs ?_) | (refine iPk ?_; refine qPk ?_) | (refine iNc ?_; refine qNc ?_) | (refine iIa ?_; refine qIa ?_) | (refine iCv ?_; refine qCv ?_) | (refine iBi ?_; refine qBi ?_) | (refine iUn ?_; refine qUn ?_) | (refine iFl ?_; refine qFl ?_) | (refine iLu ?_; refine qLu ?_) | (refine iBu ?_; refine qBu ?_) | (refine iSl ?_; refine qSl ?_) | (refine iMf ?_; refine qMf ?_) | (refine iMi ?_; refine qMi ?_) | (refine iTa ?_; refine qTa ?_) | (refine iSt ?_; refine qSt ?_) | (refine iAl ?_; first | refine qAlA (fun _ => ?_) | refine qAlS (fun _ => ?_)) | (refine iBx ?_; first | refine qBxA (fun _ => ?_) | refine qBxS (fun _ => ?_)) | (refine iMm ?_; refine qMm (fun _ => ?_)) | (refine iBs ?_; refine qBs (fun _ => ?_)) | (refine i_gd ?_; first | refine qWant ?_ | refine qSkip ?_ | refine qSkip0 ?_ | refine qSkipU ?_)) | refine tl_nil ?_ | refine tc_seq ?_ | refine tc_region ?_ | refine te_seq ?_ | (refine i_cond ?_; first | refine qCt ?_ | refine qCf ?_) | refine tc_block ?_ | refine te_block_normal ?_ | refine te_block_ret ?_ | refine te_then_ret ?_ | refine te_block_hit ?_ | (refine i_miss ?_; refine qMiss ?_) | refine te_then_exit ?_ | refine tc_exit ?_ | refine tc_ret ?_ | refine tc_skip ?_)
  rename_i bc
  refine tc_any (Stays _ _ ([[(b, .cells ⟨[.slice (some ⟨hb.b, 0, none⟩) s.length hb.cap, .map (some mb), .int .i64 ops, .int .i64 armed, .int .i64 failing, .bool dead]⟩ 74 (0, 0))]])) (stays_of (Hp.le_refl _)) ?_
  all_goals refine rMv 0 ?_
  all_goals refine rNc 1 ?_
  all_goals refine rFa 2 ?_
  all_goals refine rLd 3 ?_
  all_goals refine rMv 5 ?_
  all_goals refine rNc 6 ?_
  all_goals refine rFa 7 ?_
  all_goals refine rLd 8 ?_
  all_goals (refine rStep (i := 4) ?_; ((try refine qWant ?_); (first | (refine tl_is (.func 46) ?_; refine qC rfl rfl (clone46 _ hb.b s.length hb.cap (heldC s) hb.sp hl hpos (by omega) h1) ?_; rintro v ρ' L' hle ⟨rfl, sp', hown, rfl⟩; obtain ⟨hb', hc', rfl⟩ := hown.pos hpos; simp only [ownC, List.cons_append, List.nil_append]) | (refine tl_is (.func 47) ?_; refine qC rfl rfl (mclone47 _ mb _ ck) ?_; rintro v ρ' L' hle ⟨rfl, mb', rfl, rfl⟩ <;> (try simp only [List.cons_append, List.nil_append, List.append_eq])) | (refine iSt ?_; refine qSt ?_) | (refine iAl ?_; first | refine qAlA (fun _ => ?_) | refine qAlS (fun _ => ?_)) | (refine iBx ?_; first | refine qBxA (fun _ => ?_) | refine qBxS (fun _ => ?_)) | (refine iMm ?_; refine qMm (fun _ => ?_)) | (refine iBs ?_; refine qBs (fun _ => ?_))); (try simp only [List.cons_append, List.nil_append, List.append_eq]); refine tl_nil ?_; refine rNext ?_))
  all_goals (refine rStep (i := 9) ?_; ((try refine qWant ?_); (first | (refine tl_is (.func 46) ?_; refine qC rfl rfl (clone46 _ hb.b s.length hb.cap (heldC s) hb.sp hl hpos (by omega) h1) ?_; rintro v ρ' L' hle ⟨rfl, sp', hown, rfl⟩; obtain ⟨hb', hc', rfl⟩ := hown.pos hpos; simp only [ownC, List.cons_append, List.nil_append]) | (refine tl_is (.func 47) ?_; refine qC rfl rfl (mclone47 _ mb _ ck) ?_; rintro v ρ' L' hle ⟨rfl, mb', rfl, rfl⟩ <;> (try simp only [List.cons_append, List.nil_append, List.append_eq])) | (refine iSt ?_; refine qSt ?_) | (refine iAl ?_; first | refine qAlA (fun _ => ?_) | refine qAlS (fun _ => ?_)) | (refine iBx ?_; first | refine qBxA (fun _ => ?_) | refine qBxS (fun _ => ?_)) | (refine iMm ?_; refine qMm (fun _ => ?_)) | (refine iBs ?_; refine qBs (fun _ => ?_))); (try simp only [List.cons_append, List.nil_append, List.append_eq]); refine tl_nil ?_; refine rNext ?_))
  all_goals refine rFa 10 ?_
  all_goals (refine rStep (i := 11) ?_; ((try refine qWant ?_); (first | (refine tl_is (.func 46) ?_; refine qC rfl rfl (clone46 _ hb.b s.length hb.cap (heldC s) hb.sp hl hpos (by omega) h1) ?_; rintro v ρ' L' hle ⟨rfl, sp', hown, rfl⟩; obtain ⟨hb', hc', rfl⟩ := hown.pos hpos; simp only [ownC, List.cons_append, List.nil_append]) | (refine tl_is (.func 47) ?_; refine qC rfl rfl (mclone47 _ mb _ ck) ?_; rintro v ρ' L' hle ⟨rfl, mb', rfl, rfl⟩ <;> (try simp only [List.cons_append, List.nil_append, List.append_eq])) | (refine iSt ?_; refine qSt ?_) | (refine iAl ?_; first | refine qAlA (fun _ => ?_) | refine qAlS (fun _ => ?_)) | (refine iBx ?_; first | refine qBxA (fun _ => ?_) | refine qBxS (fun _ => ?_)) | (refine iMm ?_; refine qMm (fun _ => ?_)) | (refine iBs ?_; refine qBs (fun _ => ?_))); (try simp only [List.cons_append, List.nil_append, List.append_eq]); refine tl_nil ?_; refine rNext ?_))
  all_goals refine rFa 12 ?_
  all_goals (refine rStep (i := 13) ?_; ((try refine qWant ?_); (first | (refine tl_is (.func 46) ?_; refine qC rfl rfl (clone46 _ hb.b s.length hb.cap (heldC s) hb.sp hl hpos (by omega) h1) ?_; rintro v ρ' L' hle ⟨rfl, sp', hown, rfl⟩; obtain ⟨hb', hc', rfl⟩ := hown.pos hpos; simp only [ownC, List.cons_append, List.nil_append]) | (refine tl_is (.func 47) ?_; refine qC rfl rfl (mclone47 _ mb _ ck) ?_; rintro v ρ' L' hle ⟨rfl, mb', rfl, rfl⟩ <;> (try simp only [List.cons_append, List.nil_append, List.append_eq])) | (refine iSt ?_; refine qSt ?_) | (refine iAl ?_; first | refine qAlA (fun _ => ?_) | refine qAlS (fun _ => ?_)) | (refine iBx ?_; first | refine qBxA (fun _ => ?_) | refine qBxS (fun _ => ?_)) | (refine iMm ?_; refine qMm (fun _ => ?_)) | (refine iBs ?_; refine qBs (fun _ => ?_))); (try simp only [List.cons_append, List.nil_append, List.append_eq]); refine tl_nil ?_; refine rNext ?_))
  all_goals refine rDone ?_
  repeat' (first | (refine i_op ?_; first | (refine iMv ?_; refine qMv ?_) | (refine iLd ?_; refine qLd ?_) | (refine iFa ?_; refine qFa ?_) | (refine iAd ?_; refine qAd ?_) | (refine iSb ?_; refine qSb ?_) | (refine iMl ?_; refine qMl ?_) | (refine iRm ?_; refine qRm ?_) | (refine iQu ?_; refine qQu ?_) | (refine iSr ?_; refine qSr ?_) | (refine iSh ?_; refine qSh ?_) | (refine iCm ?_; refine qCm ?_) | (refine iEx ?_; refine qEx ?_) | (refine iAs ?_; refine qAs ?_) | (refine iPk ?_; refine qPk ?_) | (refine iNc ?_; refine qNc ?_) | (refine iIa ?_; refine qIa ?_) | (refine iCv ?_; refine qCv ?_) | (refine iBi ?_; refine qBi ?_) | (refine iUn ?_; refine qUn ?_) | (refine iFl ?_; refine qFl ?_) | (refine iLu ?_; refine qLu ?_) | (refine iBu ?_; refine qBu ?_) | (refine iSl ?_; refine qSl ?_) | (refine iMf ?_; refine qMf ?_) | (refine iMi ?_; refine qMi ?_) | (refine iTa ?_; refine qTa ?_) | (refine iSt ?_; refine qSt ?_) | (refine iAl ?_; first | refine qAlA (fun _ => ?_) | refine qAlS (fun _ => ?_)) | (refine iBx ?_; first | refine qBxA (fun _ => ?_) | refine qBxS (fun _ => ?_)) | (refine iMm ?_; refine qMm (fun _ => ?_)) | (refine iBs ?_; refine qBs (fun _ => ?_)) | (refine i_gd ?_; first | refine qWant ?_ | refine qSkip ?_ | refine qSkip0 ?_ | refine qSkipU ?_)) | refine tl_nil ?_ | refine tc_seq ?_ | refine tc_region ?_ | refine te_seq ?_ | (refine i_cond ?_; first | refine qCt ?_ | refine qCf ?_) | refine tc_block ?_ | refine te_block_normal ?_ | refine te_block_ret ?_ | refine te_then_ret ?_ | refine te_block_hit ?_ | (refine i_miss ?_; refine qMiss ?_) | refine te_then_exit ?_ | refine tc_exit ?_ | refine tc_ret ?_ | refine tc_skip ?_)
  exact qE ⟨rfl, bc, ⟨hb', hc', sp'⟩, mb', rfl, rfl⟩
end Go.Proofs.E

namespace Go.Proofs.E
open Go
set_option linter.unusedVariables false
set_option linter.unusedSimpArgs false
set_option linter.unusedSectionVars false
set_option maxRecDepth 4000
set_option maxHeartbeats 1000000
attribute [local irreducible] Yl TL TC TE Spec YSpec R1 Hp.le EnvLe TS TR YS Stays
/-! ## rows of blocks; what all sectors say -/
def blkC (l : List Blk) : List Value := (l.map fun b => b.map u8c).flatten
theorem heldC_blk (s : Secs) : heldC s = blkC (s.map (·.1)) := by simp [heldC, blkC, List.map_map, Function.comp_def]
theorem blk_held (l : List Blk) : blkC l = heldC (l.map fun b => (b, none)) := by simp [heldC, blkC, List.map_map, Function.comp_def]
theorem blkC_length {l : List Blk} (h : ∀ b ∈ l, b.length = 64) : (blkC l).length = l.length * 64 := by
  rw [blk_held, heldC_length (by intro p hp; obtain ⟨b, hb, rfl⟩ := List.mem_map.1 hp; exact h b hb)]; simp
theorem blkC_get {l : List Blk} {i : Nat} (sp : List Value) (h : ∀ b ∈ l, b.length = 64) (hi : i < l.length) : ((blkC l ++ sp).drop (0 + i * 64)).take 64 = (l[i]).map u8c := by
  rw [Nat.zero_add, blk_held, heldC_take' sp (by intro p hp; obtain ⟨b, hb, rfl⟩ := List.mem_map.1 hp; exact h b hb) (by simpa using hi)]; simp
theorem blkC_snoc (l : List Blk) (b : Blk) : blkC (l ++ [b]) = blkC l ++ b.map u8c := by simp [blkC]
theorem blkC_one (l : List Blk) : (blkC l).all (·.oneCell') = true := by rw [blk_held]; exact heldC_one _
def allB (s : Secs) : List Blk := s.map says1
theorem says_len {s : Secs} (h : SecsOk s) {i : Nat} (hi : i < s.length) : (says1 s[i]).length = 64 := by
  unfold says1
  cases hc : s[i].2 with
  | none => exact h.held _ (List.getElem_mem hi)
  | some c => exact h.cached _ (List.getElem_mem hi) c hc
theorem allB_len {s : Secs} (h : SecsOk s) : ∀ b ∈ allB s, b.length = 64 := by
  intro b hb
  obtain ⟨p, hp, rfl⟩ := List.mem_map.1 hb
  obtain ⟨i, hi, rfl⟩ := List.mem_iff_getElem.1 hp
  exact says_len h hi
theorem all_spec (ρ : Hp) (b : Nat) (hb : HB) (mb : Nat) (es : List MapEntry) (ck : Nat) (D : DS) (hD : D.Ok) (hc : D.Calm) (hm : MapOk D.secs es) :
    Spec Try.prog 24 [.pointer (some ⟨b, 0, none⟩)] ρ (diskL b hb mb es ck D) (fun v ρ' L' => ρ' = ρ ∧ ∃ r sp, v = .tuple ⟨[r, .bool true]⟩ ∧ OwnS r D.secs.length (blkC (allB D.secs)) sp 64 ∧ L' = diskL b hb mb es ck D ++ [ownC r (blkC (allB D.secs)) sp 34]) := by
  obtain ⟨s, ops, armed, failing, dead⟩ := D
  obtain ⟨c1, c2, c3⟩ := hc
  dsimp only at c1 c2 c3
  subst c1; subst c2; subst c3
  have hs := hD.secs
  dsimp only at hs hm ⊢
  have hlen := hs.len
  refine spec_enter Try.func24 rfl rfl rfl fun u R => ?_
  simp only [argsE, List.cons_append, List.nil_append]
  repeat' (first | (refine tl_is (.func 23) ?_; refine qC rfl rfl (copy_spec _ _ _ _ _ _ _ hD) ?_; rintro v ρ' L' hle ⟨rfl, bc, hbc, mbc, rfl, rfl⟩ <;> (try simp only [List.cons_append, List.nil_append, List.append_eq])) | (refine tl_is (.func 11) ?_; refine qC rfl rfl (len_disk _ bc hbc mbc _ _ _) ?_; rintro v ρ' L' hle ⟨rfl, rfl, rfl⟩ <;> (try simp only [List.cons_append, List.nil_append, List.append_eq])) | (refine i_op ?_; first | (refine iMv ?_; refine qMv ?_) | (refine iLd ?_; refine qLd ?_) | (refine iFa ?_; refine qFa ?_) | (refine iAd ?_; refine qAd ?_) | (refine iSb ?_; refine qSb ?_) | (refine iMl ?_; refine qMl ?_) | (refine iRm ?_; refine qRm ?_) | (refine iQu ?_; refine qQu ?_) | (refine iSr ?_; refine qSr ?_) | (refine iSh ?_; refine qSh ?_) | (refine iCm ?_; refine qCm ?_) | (refine iEx ?_; refine qEx ?_) | (refine iAs ?_; refine qAs ?_) | (refine iPk ?_; refine qPk ?_) | (refine iNc ?_; refine qNc ?_) | (refine iIa ?_; refine qIa ?_) | (refine iCv ?_; refine qCv ?_) | (refine iBi ?_; refine qBi ?_) | (refine iUn ?_; refine qUn ?_) | (refine iFl ?_; refine qFl ?_) | (refine iLu ?_; refine qLu ?_) | (refine iBu ?_; refine qBu ?_) | (refine iSl ?_; refine qSl ?_) | (refine iMf ?_; refine qMf ?_) | (refine iMi ?_; refine qMi ?_) | (refine iTa ?_; refine qTa ?_) | (refine iSt ?_; refine qSt ?_) | (refine iAl ?_; first | refine qAlA (fun _ => ?_) | refine qAlS (fun _ => ?_)) | (refine iBx ?_; first | refine qBxA (fun _ => ?_) | refine qBxS (fun _ => ?_)) | (refine iMm ?_; refine qMm (fun _ => ?_)) | (refine iBs ?_; refine qBs (fun _ => ?_)) | (refine i_gd ?_; first | refine qWant ?_ | refine qSkip ?_ | refine qSkip0 ?_ | refine qSkipU ?_)) | refine tl_nil ?_ | refine tc_seq ?_ | refine tc_region ?_ | refine te_seq ?_ | (refine i_cond ?_; first | refine qCt ?_ | refine qCf ?_) | refine tc_block ?_ | refine te_block_normal ?_ | refine te_block_ret ?_ | refine te_then_ret ?_ | refine te_block_hit ?_ | (refine i_miss ?_; refine qMiss ?_) | refine te_then_exit ?_ | refine tc_exit ?_ | refine tc_ret ?_ | refine tc_skip ?_)
  have hbl := allB_len hs
  refine tc_loop_e (fun (y : Nat × Value × List Value × Int) => ⟨[(13, .int .i64 y.1), (12, .int .i64 s.length), (5, .pointer (some ⟨bc, 0, none⟩)), (4, y.2.1)], ρ',
      (diskL b hb mb es ck ⟨s, ops, -1, -1, false⟩ ++ diskL bc hbc mbc es ck ⟨s, y.2.2.2, -1, -1, false⟩ ++ [ownC y.2.1 (blkC ((allB s).take y.1)) y.2.2.1 34]) ++ R⟩)
    (fun y => y.1 ≤ s.length ∧ OwnS y.2.1 y.1 (blkC ((allB s).take y.1)) y.2.2.1 64) (fun y => s.length - y.1) (0, .slice none 0 0, [], ops) rfl ⟨by simp, OwnS.nil 64⟩ ev_le rfl tk inferInstance ?_
  rintro ⟨k, r, sp, o⟩ ⟨h1, h2⟩
  dsimp only at h1 h2 ⊢
  obtain ⟨ra, rc, rfl, hrl⟩ := h2.len
  by_cases hlt : k < s.length
  · have hblen := says_len hs hlt
    have hwl : ((says1 s[k]).map u8c).length = 64 := by simpa using hblen
    have hone := u8c_one (says1 s[k])
    have hrd : (⟨s, o, -1, -1, false⟩ : DS).read (k : Int) = (⟨s, IntKind.i64.wrap (o + 1), -1, -1, false⟩, says1 s[k], 0) := DS.Calm.mk'.read_eq hlt
    repeat' (first | (refine tl_is (.func 13) ?_; refine qC rfl rfl (read_at hrd (DS.Ok.mk' hs) hm) ?_; rintro v ρ' L' hle ⟨rfl, rfl, rfl⟩ <;> (try simp only [List.cons_append, List.nil_append, List.append_eq, bv])) | (refine i_op ?_; first | (refine iMv ?_; refine qMv ?_) | (refine iLd ?_; refine qLd ?_) | (refine iFa ?_; refine qFa ?_) | (refine iAd ?_; refine qAd ?_) | (refine iSb ?_; refine qSb ?_) | (refine iMl ?_; refine qMl ?_) | (refine iRm ?_; refine qRm ?_) | (refine iQu ?_; refine qQu ?_) | (refine iSr ?_; refine qSr ?_) | (refine iSh ?_; refine qSh ?_) | (refine iCm ?_; refine qCm ?_) | (refine iEx ?_; refine qEx ?_) | (refine iAs ?_; refine qAs ?_) | (refine iPk ?_; refine qPk ?_) | (refine iNc ?_; refine qNc ?_) | (refine iIa ?_; refine qIa ?_) | (refine iCv ?_; refine qCv ?_) | (refine iBi ?_; refine qBi ?_) | (refine iUn ?_; refine qUn ?_) | (refine iFl ?_; refine qFl ?_) | (refine iLu ?_; refine qLu ?_) | (refine iBu ?_; refine qBu ?_) | (refine iSl ?_; refine qSl ?_) | (refine iMf ?_; refine qMf ?_) | (refine iMi ?_; refine qMi ?_) | (refine iTa ?_; refine qTa ?_) | (refine iSt ?_; refine qSt ?_) | (refine iAl ?_; first | refine qAlA (fun _ => ?_) | refine qAlS (fun _ => ?_)) | (refine iBx ?_; first | refine qBxA (fun _ => ?_) | refine qBxS (fun _ => ?_)) | (refine iMm ?_; refine qMm (fun _ => ?_)) | (refine iBs ?_; refine qBs (fun _ => ?_)) | (refine i_gd ?_; first | refine qWant ?_ | refine qSkip ?_ | refine qSkip0 ?_ | refine qSkipU ?_)) | refine tl_nil ?_ | refine tc_seq ?_ | refine tc_region ?_ | refine te_seq ?_ | (refine i_cond ?_; first | refine qCt ?_ | refine qCf ?_) | refine tc_block ?_ | refine te_block_normal ?_ | refine te_block_ret ?_ | refine te_then_ret ?_ | refine te_block_hit ?_ | (refine i_miss ?_; refine qMiss ?_) | refine te_then_exit ?_ | refine tc_exit ?_ | refine tc_ret ?_ | refine tc_skip ?_)
    have htk : blkC ((allB s).take (k + 1)) = blkC ((allB s).take k) ++ (says1 s[k]).map u8c := by
      have hk : k < (allB s).length := by simpa [allB] using hlt
      rw [List.take_succ_eq_append_getElem hk, blkC_snoc]; simp [allB]
    refine tl_buildSliceA (css := [(says1 s[k]).map u8c]) (sz := 64) rfl rfl rfl rfl (by simpa using hblen) (by simp) rfl (fun bs => ?_)
    simp only [List.flatten_cons, List.flatten_nil, List.append_nil]
    refine tl_append (ys := (says1 s[k]).map u8c) (m := 1) rfl rfl h2 (hR := by infer_instance) (Src.find (l := (says1 s[k]).map u8c) (n := 64) (by rw [List.drop_zero, List.take_of_length_le (by omega)])) (by simpa using hblen) hone (by decide) rfl (by omega) (by omega) rfl (fun v' sp' hown' => ?_)
    rw [← htk] at hown' ⊢
    repeat' (first | (refine i_op ?_; first | (refine iMv ?_; refine qMv ?_) | (refine iLd ?_; refine qLd ?_) | (refine iFa ?_; refine qFa ?_) | (refine iAd ?_; refine qAd ?_) | (refine iSb ?_; refine qSb ?_) | (refine iMl ?_; refine qMl ?_) | (refine iRm ?_; refine qRm ?_) | (refine iQu ?_; refine qQu ?_) | (refine iSr ?_; refine qSr ?_) | (refine iSh ?_; refine qSh ?_) | (refine iCm ?_; refine qCm ?_) | (refine iEx ?_; refine qEx ?_) | (refine iAs ?_; refine qAs ?_) | (refine iPk ?_; refine qPk ?_) | (refine iNc ?_; refine qNc ?_) | (refine iIa ?_; refine qIa ?_) | (refine iCv ?_; refine qCv ?_) | (refine iBi ?_; refine qBi ?_) | (refine iUn ?_; refine qUn ?_) | (refine iFl ?_; refine qFl ?_) | (refine iLu ?_; refine qLu ?_) | (refine iBu ?_; refine qBu ?_) | (refine iSl ?_; refine qSl ?_) | (refine iMf ?_; refine qMf ?_) | (refine iMi ?_; refine qMi ?_) | (refine iTa ?_; refine qTa ?_) | (refine iSt ?_; refine qSt ?_) | (refine iAl ?_; first | refine qAlA (fun _ => ?_) | refine qAlS (fun _ => ?_)) | (refine iBx ?_; first | refine qBxA (fun _ => ?_) | refine qBxS (fun _ => ?_)) | (refine iMm ?_; refine qMm (fun _ => ?_)) | (refine iBs ?_; refine qBs (fun _ => ?_)) | (refine i_gd ?_; first | refine qWant ?_ | refine qSkip ?_ | refine qSkip0 ?_ | refine qSkipU ?_)) | refine tl_nil ?_ | refine tc_seq ?_ | refine tc_region ?_ | refine te_seq ?_ | (refine i_cond ?_; first | refine qCt ?_ | refine qCf ?_) | refine tc_block ?_ | refine te_block_normal ?_ | refine te_block_ret ?_ | refine te_then_ret ?_ | refine te_block_hit ?_ | (refine i_miss ?_; refine qMiss ?_) | refine te_then_exit ?_ | refine tc_exit ?_ | refine tc_ret ?_ | refine tc_skip ?_)
    refine te_round_e (Lm := diskL b hb mb es ck ⟨s, ops, -1, -1, false⟩ ++ diskL bc hbc mbc es ck ⟨s, IntKind.i64.wrap (o + 1), -1, -1, false⟩ ++ [ownC v' (blkC ((allB s).take (k + 1))) sp' 34]) (R := R) (k + 1, v', sp', IntKind.i64.wrap (o + 1)) rfl ⟨by dsimp only; omega, hown'⟩ ev_le rfl tk inferInstance (by dsimp only; omega)
  · have hk2 : k = s.length := by omega
    subst hk2
    have hta : (allB s).take s.length = allB s := List.take_of_length_le (by simp [allB])
    rw [hta] at h2 ⊢
    repeat' (first | (refine i_op ?_; first | (refine iMv ?_; refine qMv ?_) | (refine iLd ?_; refine qLd ?_) | (refine iFa ?_; refine qFa ?_) | (refine iAd ?_; refine qAd ?_) | (refine iSb ?_; refine qSb ?_) | (refine iMl ?_; refine qMl ?_) | (refine iRm ?_; refine qRm ?_) | (refine iQu ?_; refine qQu ?_) | (refine iSr ?_; refine qSr ?_) | (refine iSh ?_; refine qSh ?_) | (refine iCm ?_; refine qCm ?_) | (refine iEx ?_; refine qEx ?_) | (refine iAs ?_; refine qAs ?_) | (refine iPk ?_; refine qPk ?_) | (refine iNc ?_; refine qNc ?_) | (refine iIa ?_; refine qIa ?_) | (refine iCv ?_; refine qCv ?_) | (refine iBi ?_; refine qBi ?_) | (refine iUn ?_; refine qUn ?_) | (refine iFl ?_; refine qFl ?_) | (refine iLu ?_; refine qLu ?_) | (refine iBu ?_; refine qBu ?_) | (refine iSl ?_; refine qSl ?_) | (refine iMf ?_; refine qMf ?_) | (refine iMi ?_; refine qMi ?_) | (refine iTa ?_; refine qTa ?_) | (refine iSt ?_; refine qSt ?_) | (refine iAl ?_; first | refine qAlA (fun _ => ?_) | refine qAlS (fun _ => ?_)) | (refine iBx ?_; first | refine qBxA (fun _ => ?_) | refine qBxS (fun _ => ?_)) | (refine iMm ?_; refine qMm (fun _ => ?_)) | (refine iBs ?_; refine qBs (fun _ => ?_)) | (refine i_gd ?_; first | refine qWant ?_ | refine qSkip ?_ | refine qSkip0 ?_ | refine qSkipU ?_)) | refine tl_nil ?_ | refine tc_seq ?_ | refine tc_region ?_ | refine te_seq ?_ | (refine i_cond ?_; first | refine qCt ?_ | refine qCf ?_) | refine tc_block ?_ | refine te_block_normal ?_ | refine te_block_ret ?_ | refine te_then_ret ?_ | refine te_block_hit ?_ | (refine i_miss ?_; refine qMiss ?_) | refine te_then_exit ?_ | refine tc_exit ?_ | refine tc_ret ?_ | refine tc_skip ?_)
    exact qE ⟨rfl, _, sp, rfl, h2, rfl⟩
end Go.Proofs.E

namespace Go.Proofs.E
open Go
set_option linter.unusedVariables false
set_option linter.unusedSimpArgs false

/-! ## loops: what turns is named, what stays is found -/
theorem lk_append (A B : Env) (t : Nat) : lk (A ++ B) t = (lk A t).or (lk B t) := by
  induction A with
  | nil => simp [lk]
  | cons p r ih =>
    obtain ⟨k, v⟩ := p
    simp only [List.cons_append, lk]
    split
    · simp
    · exact ih
theorem EnvLe.app {A B E : Env} (h : EnvLe A E) (k : EnvLe B E) : EnvLe (A ++ B) E := fun t v hv => by
  rw [lk_append] at hv
  cases ha : lk A t with
  | some x => rw [ha] at hv; simp only [Option.some_or, Option.some.injEq] at hv; rw [← hv]; exact h t x ha
  | none => rw [ha] at hv; simp only [Option.none_or] at hv; exact k t v hv
section
variable {x : Cx} {Q : Exit → Act → World → Prop} {E : Env} {ρ : Hp} {L : SH}
def KRG (x : Cx) {Y : Type} (C : Env) (M : Y → Env) (ρf : Y → Hp) (Lf : Y → SH) (R : SH) (I : Y → Prop) (μ : Y → Nat) (y : Y) : Act → World → Prop := KR x (fun y => ⟨M y ++ C, ρf y, Lf y ++ R⟩) I μ y
theorem tc_loop_g {Y : Type} {c : Code} {R : SH} (C : Env) (M : Y → Env) (ρf : Y → Hp) (Lf : Y → SH) (I : Y → Prop) (μ : Y → Nat) (y0 : Y) (h0 : I y0) (hM : EnvLe (M y0) E) (hC : EnvLe C E) (hρ : ρf y0 = ρ) (k : Take L (Lf y0) R)
    (round : ∀ y, I y → TC x c (Exit.then (KRG x C M ρf Lf R I μ y) Q) (M y ++ C) (ρf y) (Lf y ++ R)) : TC x (.loop c) Q E ρ L :=
  tc_loop (fun y => ⟨M y ++ C, ρf y, Lf y ++ R⟩) I μ y0 h0 (hM.app hC) hρ k.out round
theorem te_round_g {Y : Type} {C : Env} {M : Y → Env} {ρf : Y → Hp} {Lf : Y → SH} {R G : SH} {I : Y → Prop} {μ : Y → Nat} {y : Y} (y' : Y) (hI : I y') (hM : EnvLe (M y') E) (hC : EnvLe C E) (hρ : ρf y' = ρ) (k : Take L (Lf y') G) (e : Ends G R) (hμ : μ y' < μ y) :
    TE x .normal (Exit.then (KRG x C M ρf Lf R I μ y) Q) E ρ L :=
  te_round_e (S := fun y => ⟨M y ++ C, ρf y, Lf y ++ R⟩) (Lm := Lf y') (R := R) y' rfl hI (hM.app hC) hρ k e hμ
/-- a cut of the same make -/
def KCG (x : Cx) {Y : Type} (C : Env) (M : Y → Env) (ρf : Y → Hp) (Lf : Y → SH) (R : SH) (I : Y → Prop) : Act → World → Prop := fun a w => ∃ y', Ok x.D x.N (M y' ++ C) a ∧ Sat x.u (ρf y') (Lf y' ++ R) w ∧ I y'
theorem tc_cut_g {y z : Code} {Y : Type} {R : SH} (C : Env) (M : Y → Env) (ρf : Y → Hp) (Lf : Y → SH) (I : Y → Prop) (R : SH)
    (h : TC x y (Exit.then (KCG x C M ρf Lf R I) Q) E ρ L)
    (k : ∀ y', I y' → TC x z Q (M y' ++ C) (ρf y') (Lf y' ++ R)) : TC x (.seq y z) Q E ρ L :=
  tc_cut (S := fun y => ⟨M y ++ C, ρf y, Lf y ++ R⟩) (I := I) h k
theorem te_cut_g {Y : Type} {C : Env} {M : Y → Env} {ρf : Y → Hp} {Lf : Y → SH} {R G : SH} {I : Y → Prop} (y' : Y) (hI : I y') (hM : EnvLe (M y') E) (hC : EnvLe C E) (hρ : ρf y' = ρ) (k : Take L (Lf y') G) (e : Ends G R) :
    TE x .normal (Exit.then (KCG x C M ρf Lf R I) Q) E ρ L :=
  te_cut_e (S := fun y => ⟨M y ++ C, ρf y, Lf y ++ R⟩) (Lm := Lf y') (R := R) y' rfl hI (hM.app hC) hρ k e
end
end Go.Proofs.E

namespace Go.Proofs.E
open Go
set_option linter.unusedVariables false
set_option linter.unusedSimpArgs false
set_option linter.unusedSectionVars false
set_option maxRecDepth 4000
set_option maxHeartbeats 1000000
attribute [local irreducible] Yl TL TC TE Spec YSpec R1 Hp.le EnvLe TS TR YS Stays
/-! ## the reference's disk: a value; its sectors never turn -/
def secV (p : Blk × Option Blk) : List Value := p.1.map u8c ++ ((p.2.getD zblk).map u8c ++ [.bool p.2.isSome])
def secC (s : Secs) : List Value := (s.map secV).flatten
structure RefIn (ρ : Hp) (a : Option Addr) (cap : Nat) (s : Secs) : Prop where
  ok : SecsOk s
  out : ∃ b sp T, a = some ⟨b, 0, none⟩ ∧ ρ b = some (.cells ⟨secC s ++ sp⟩ T (0, 0))
theorem RefIn.mono {ρ ρ' : Hp} {a cap s} (h : RefIn ρ a cap s) (hle : ρ.le ρ') : RefIn ρ' a cap s := by
  obtain ⟨b, sp, T, h1, h2⟩ := h.out
  exact ⟨h.ok, b, sp, T, h1, Hp.le_get hle h2⟩
def refV (D : DS) (a : Option Addr) (cap : Nat) : List Value := [.slice a D.secs.length cap, .int .i64 D.ops, .int .i64 D.armed, .int .i64 D.failing, .bool D.dead]
theorem secV_len {p : Blk × Option Blk} (h1 : p.1.length = 64) (h2 : ∀ c, p.2 = some c → c.length = 64) : (secV p).length = 129 := by
  have : (p.2.getD zblk).length = 64 := by
    cases hp : p.2 with
    | none => rfl
    | some c => exact h2 c hp
  simp [secV, h1, this]
theorem secC_length {s : Secs} (h : SecsOk s) : (secC s).length = s.length * 129 := by
  have : ∀ (l : Secs), (∀ p ∈ l, (secV p).length = 129) → ((l.map secV).flatten).length = l.length * 129 := by
    intro l
    induction l with
    | nil => intro _; rfl
    | cons p r ih =>
      intro hl
      have := ih (fun q hq => hl q (by simp [hq]))
      have h1 := hl p (by simp)
      simp only [List.map_cons, List.flatten_cons, List.length_append, List.length_cons]
      omega
  exact this s (fun p hp => secV_len (h.held p hp) (h.cached p hp))
theorem flat_get {α : Type} (f : α → List Value) (n : Nat) : ∀ (l : List α) (i : Nat) (h : i < l.length) (sp : List Value), (∀ p ∈ l, (f p).length = n) → (((l.map f).flatten ++ sp).drop (i * n)).take n = f l[i]
  | [], i, h, _, _ => by simp at h
  | p :: r, 0, h, sp, hl => by
    have h1 := hl p (by simp)
    simp only [List.map_cons, List.flatten_cons, Nat.zero_mul, List.drop_zero, List.getElem_cons_zero, List.append_assoc]
    rw [List.take_append_of_le_length (by omega), List.take_of_length_le (by omega)]
  | p :: r, i + 1, h, sp, hl => by
    have h1 := hl p (by simp)
    have ih := flat_get f n r i (by simpa using h) sp (fun q hq => hl q (by simp [hq]))
    simp only [List.map_cons, List.flatten_cons, List.getElem_cons_succ, List.append_assoc]
    have e : (i + 1) * n = (f p).length + i * n := by rw [h1, Nat.add_mul]; omega
    rw [e, ← List.drop_drop, List.drop_left]
    exact ih
theorem flat_set {α : Type} (f : α → List Value) (n : Nat) : ∀ (l : List α) (i : Nat) (h : i < l.length) (sp : List Value) (q : α), (∀ p ∈ l, (f p).length = n) → (f q).length = n → stc ((l.map f).flatten ++ sp) (i * n) (f q) = ((l.set i q).map f).flatten ++ sp
  | [], i, h, _, _, _, _ => by simp at h
  | p :: r, 0, h, sp, q, hl, hq => by
    have h1 := hl p (by simp)
    simp only [stc, List.map_cons, List.flatten_cons, Nat.zero_mul, List.take_zero, List.nil_append, Nat.zero_add, List.set_cons_zero, List.append_assoc]
    congr 1
    rw [hq, ← h1, List.drop_left]
  | p :: r, i + 1, h, sp, q, hl, hq => by
    have h1 := hl p (by simp)
    have ih := flat_set f n r i (by simpa using h) sp q (fun q hq => hl q (by simp [hq])) hq
    simp only [stc, List.map_cons, List.flatten_cons, List.set_cons_succ, List.append_assoc] at ih ⊢
    have e : (i + 1) * n = (f p).length + i * n := by rw [h1, Nat.add_mul]; omega
    rw [e, List.take_length_add_append, Nat.add_assoc, ← List.drop_drop, List.drop_left, ← ih]
    simp
end Go.Proofs.E

namespace Go.Proofs.E
open Go
set_option linter.unusedVariables false
set_option linter.unusedSimpArgs false
set_option linter.unusedSectionVars false
set_option maxRecDepth 4000
set_option maxHeartbeats 1000000
attribute [local irreducible] Yl TL TC TE Spec YSpec R1 Hp.le EnvLe TS TR YS Stays
theorem there_spec (ρ : Hp) (D : DS) (a : Option Addr) (cap : Nat) (i : Int) : Spec Try.prog 59 [.agg ⟨refV D a cap⟩, .int .i64 i] ρ [] (fun v ρ' L' => v = .bool (decide (0 ≤ i ∧ i < D.secs.length)) ∧ ρ' = ρ ∧ L' = []) := by
  refine spec_enter Try.func59 rfl rfl rfl fun u R => ?_
  simp only [argsE, List.cons_append, List.nil_append, refV]
  by_cases h0 : 0 ≤ i
  · by_cases h1 : i < D.secs.length
    · have hd : decide (0 ≤ i ∧ i < D.secs.length) = true := by simp [h0, h1]
      rw [hd]
      repeat' (first | (refine i_op ?_; first | (refine iMv ?_; refine qMv ?_) | (refine iLd ?_; refine qLd ?_) | (refine iFa ?_; refine qFa ?_) | (refine iAd ?_; refine qAd ?_) | (refine iSb ?_; refine qSb ?_) | (refine iMl ?_; refine qMl ?_) | (refine iRm ?_; refine qRm ?_) | (refine iQu ?_; refine qQu ?_) | (refine iSr ?_; refine qSr ?_) | (refine iSh ?_; refine qSh ?_) | (refine iCm ?_; refine qCm ?_) | (refine iEx ?_; refine qEx ?_) | (refine iAs ?_; refine qAs ?_) | (refine iPk ?_; refine qPk ?_) | (refine iNc ?_; refine qNc ?_) | (refine iIa ?_; refine qIa ?_) | (refine iCv ?_; refine qCv ?_) | (refine iBi ?_; refine qBi ?_) | (refine iUn ?_; refine qUn ?_) | (refine iFl ?_; refine qFl ?_) | (refine iLu ?_; refine qLu ?_) | (refine iBu ?_; refine qBu ?_) | (refine iSl ?_; refine qSl ?_) | (refine iMf ?_; refine qMf ?_) | (refine iMi ?_; refine qMi ?_) | (refine iTa ?_; refine qTa ?_) | (refine iSt ?_; refine qSt ?_) | (refine iAl ?_; first | refine qAlA (fun _ => ?_) | refine qAlS (fun _ => ?_)) | (refine iBx ?_; first | refine qBxA (fun _ => ?_) | refine qBxS (fun _ => ?_)) | (refine iMm ?_; refine qMm (fun _ => ?_)) | (refine iBs ?_; refine qBs (fun _ => ?_)) | (refine i_gd ?_; first | refine qWant ?_ | refine qSkip ?_ | refine qSkip0 ?_ | refine qSkipU ?_)) | refine tl_nil ?_ | refine tc_seq ?_ | refine tc_region ?_ | refine te_seq ?_ | (refine i_cond ?_; first | refine qCt ?_ | refine qCf ?_) | refine tc_block ?_ | refine te_block_normal ?_ | refine te_block_ret ?_ | refine te_then_ret ?_ | refine te_block_hit ?_ | (refine i_miss ?_; refine qMiss ?_) | refine te_then_exit ?_ | refine tc_exit ?_ | refine tc_ret ?_ | refine tc_skip ?_)
      exact qE ⟨rfl, rfl, rfl⟩
    · have hd : decide (0 ≤ i ∧ i < D.secs.length) = false := by simp [h0]; omega
      rw [hd]
      repeat' (first | (refine i_op ?_; first | (refine iMv ?_; refine qMv ?_) | (refine iLd ?_; refine qLd ?_) | (refine iFa ?_; refine qFa ?_) | (refine iAd ?_; refine qAd ?_) | (refine iSb ?_; refine qSb ?_) | (refine iMl ?_; refine qMl ?_) | (refine iRm ?_; refine qRm ?_) | (refine iQu ?_; refine qQu ?_) | (refine iSr ?_; refine qSr ?_) | (refine iSh ?_; refine qSh ?_) | (refine iCm ?_; refine qCm ?_) | (refine iEx ?_; refine qEx ?_) | (refine iAs ?_; refine qAs ?_) | (refine iPk ?_; refine qPk ?_) | (refine iNc ?_; refine qNc ?_) | (refine iIa ?_; refine qIa ?_) | (refine iCv ?_; refine qCv ?_) | (refine iBi ?_; refine qBi ?_) | (refine iUn ?_; refine qUn ?_) | (refine iFl ?_; refine qFl ?_) | (refine iLu ?_; refine qLu ?_) | (refine iBu ?_; refine qBu ?_) | (refine iSl ?_; refine qSl ?_) | (refine iMf ?_; refine qMf ?_) | (refine iMi ?_; refine qMi ?_) | (refine iTa ?_; refine qTa ?_) | (refine iSt ?_; refine qSt ?_) | (refine iAl ?_; first | refine qAlA (fun _ => ?_) | refine qAlS (fun _ => ?_)) | (refine iBx ?_; first | refine qBxA (fun _ => ?_) | refine qBxS (fun _ => ?_)) | (refine iMm ?_; refine qMm (fun _ => ?_)) | (refine iBs ?_; refine qBs (fun _ => ?_)) | (refine i_gd ?_; first | refine qWant ?_ | refine qSkip ?_ | refine qSkip0 ?_ | refine qSkipU ?_)) | refine tl_nil ?_ | refine tc_seq ?_ | refine tc_region ?_ | refine te_seq ?_ | (refine i_cond ?_; first | refine qCt ?_ | refine qCf ?_) | refine tc_block ?_ | refine te_block_normal ?_ | refine te_block_ret ?_ | refine te_then_ret ?_ | refine te_block_hit ?_ | (refine i_miss ?_; refine qMiss ?_) | refine te_then_exit ?_ | refine tc_exit ?_ | refine tc_ret ?_ | refine tc_skip ?_)
      exact qE ⟨rfl, rfl, rfl⟩
  · have hd : decide (0 ≤ i ∧ i < D.secs.length) = false := by simp [h0]
    rw [hd]
    repeat' (first | (refine i_op ?_; first | (refine iMv ?_; refine qMv ?_) | (refine iLd ?_; refine qLd ?_) | (refine iFa ?_; refine qFa ?_) | (refine iAd ?_; refine qAd ?_) | (refine iSb ?_; refine qSb ?_) | (refine iMl ?_; refine qMl ?_) | (refine iRm ?_; refine qRm ?_) | (refine iQu ?_; refine qQu ?_) | (refine iSr ?_; refine qSr ?_) | (refine iSh ?_; refine qSh ?_) | (refine iCm ?_; refine qCm ?_) | (refine iEx ?_; refine qEx ?_) | (refine iAs ?_; refine qAs ?_) | (refine iPk ?_; refine qPk ?_) | (refine iNc ?_; refine qNc ?_) | (refine iIa ?_; refine qIa ?_) | (refine iCv ?_; refine qCv ?_) | (refine iBi ?_; refine qBi ?_) | (refine iUn ?_; refine qUn ?_) | (refine iFl ?_; refine qFl ?_) | (refine iLu ?_; refine qLu ?_) | (refine iBu ?_; refine qBu ?_) | (refine iSl ?_; refine qSl ?_) | (refine iMf ?_; refine qMf ?_) | (refine iMi ?_; refine qMi ?_) | (refine iTa ?_; refine qTa ?_) | (refine iSt ?_; refine qSt ?_) | (refine iAl ?_; first | refine qAlA (fun _ => ?_) | refine qAlS (fun _ => ?_)) | (refine iBx ?_; first | refine qBxA (fun _ => ?_) | refine qBxS (fun _ => ?_)) | (refine iMm ?_; refine qMm (fun _ => ?_)) | (refine iBs ?_; refine qBs (fun _ => ?_)) | (refine i_gd ?_; first | refine qWant ?_ | refine qSkip ?_ | refine qSkip0 ?_ | refine qSkipU ?_)) | refine tl_nil ?_ | refine tc_seq ?_ | refine tc_region ?_ | refine te_seq ?_ | (refine i_cond ?_; first | refine qCt ?_ | refine qCf ?_) | refine tc_block ?_ | refine te_block_normal ?_ | refine te_block_ret ?_ | refine te_then_ret ?_ | refine te_block_hit ?_ | (refine i_miss ?_; refine qMiss ?_) | refine te_then_exit ?_ | refine tc_exit ?_ | refine tc_ret ?_ | refine tc_skip ?_)
    exact qE ⟨rfl, rfl, rfl⟩
def DS.begin (D : DS) (reads : Bool) : DS × Int :=
  if reads = false ∧ D.armed = 0 then ({ D.tick with dead := true }, 9)
  else if D.failing = 0 then (D.tick, 8)
  else if reads = false then ({ D.tick with armed := cnt D.armed }, 0)
  else (D.tick, 0)
theorem begin_spec (ρ : Hp) (D : DS) (hD : D.Ok) (a : Option Addr) (cap : Nat) (reads : Bool) : Spec Try.prog 60 [.agg ⟨refV D a cap⟩, .bool reads] ρ []
    (fun v ρ' L' => v = .tuple ⟨[.agg ⟨refV (D.begin reads).1 a cap⟩, .int .i64 (D.begin reads).2]⟩ ∧ ρ' = ρ ∧ L' = []) := by
  obtain ⟨s, ops, armed, failing, dead⟩ := D
  have a1 := hD.a1
  have a2 := hD.a2
  have f1 := hD.f1
  have f2 := hD.f2
  dsimp only at a1 a2 f1 f2
  have hf : (failing = -1 ∧ cnt failing = failing) ∨ (failing = 0 ∧ cnt failing = failing - 1) ∨ (0 < failing ∧ cnt failing = failing - 1) := by unfold cnt; omega
  have ha : (armed = -1 ∧ cnt armed = armed) ∨ (armed = 0 ∧ cnt armed = armed - 1) ∨ (0 < armed ∧ cnt armed = armed - 1) := by unfold cnt; omega
  generalize hr : DS.begin ⟨s, ops, armed, failing, dead⟩ reads = r
  refine spec_enter Try.func60 rfl rfl rfl fun u R => ?_
  simp only [argsE, List.cons_append, List.nil_append, refV]
  have n0 : ¬ ((-1 : Int) = 0) := by decide
  cases reads
  · rcases hf with ⟨rfl, hcf⟩ | ⟨rfl, hcf⟩ | ⟨hf0, hcf⟩ <;> rcases ha with ⟨rfl, hca⟩ | ⟨rfl, hca⟩ | ⟨ha0, hca⟩
    all_goals first | have n1 : ¬ armed = 0 := by omega | have n1 := n0
    all_goals first | have n2 : ¬ failing = 0 := by omega | have n2 := n0
    all_goals simp only [DS.begin, DS.tick, hcf, hca, n0, n1, n2, if_true, if_false, true_and, and_self, and_false, and_true] at hr
    all_goals subst hr
    all_goals (repeat' (first | (refine i_op ?_; first | (refine iMv ?_; refine qMv ?_) | (refine iLd ?_; refine qLd ?_) | (refine iFa ?_; refine qFa ?_) | (refine iAd ?_; refine qAd ?_) | (refine iSb ?_; refine qSb ?_) | (refine iMl ?_; refine qMl ?_) | (refine iRm ?_; refine qRm ?_) | (refine iQu ?_; refine qQu ?_) | (refine iSr ?_; refine qSr ?_) | (refine iSh ?_; refine qSh ?_) | (refine iCm ?_; refine qCm ?_) | (refine iEx ?_; refine qEx ?_) | (refine iAs ?_; refine qAs ?_) | (refine iPk ?_; refine qPk ?_) | (refine iNc ?_; refine qNc ?_) | (refine iIa ?_; refine qIa ?_) | (refine iCv ?_; refine qCv ?_) | (refine iBi ?_; refine qBi ?_) | (refine iUn ?_; refine qUn ?_) | (refine iFl ?_; refine qFl ?_) | (refine iLu ?_; refine qLu ?_) | (refine iBu ?_; refine qBu ?_) | (refine iSl ?_; refine qSl ?_) | (refine iMf ?_; refine qMf ?_) | (refine iMi ?_; refine qMi ?_) | (refine iTa ?_; refine qTa ?_) | (refine iSt ?_; refine qSt ?_) | (refine iAl ?_; first | refine qAlA (fun _ => ?_) | refine qAlS (fun _ => ?_)) | (refine iBx ?_; first | refine qBxA (fun _ => ?_) | refine qBxS (fun _ => ?_)) | (refine iMm ?_; refine qMm (fun _ => ?_)) | (refine iBs ?_; refine qBs (fun _ => ?_)) | (refine i_gd ?_; first | refine qWant ?_ | refine qSkip ?_ | refine qSkip0 ?_ | refine qSkipU ?_)) | refine tl_nil ?_ | refine tc_seq ?_ | refine tc_region ?_ | refine te_seq ?_ | (refine i_cond ?_; first | refine qCt ?_ | refine qCf ?_) | refine tc_block ?_ | refine te_block_normal ?_ | refine te_block_ret ?_ | refine te_then_ret ?_ | refine te_block_hit ?_ | (refine i_miss ?_; refine qMiss ?_) | refine te_then_exit ?_ | refine tc_exit ?_ | refine tc_ret ?_ | refine tc_skip ?_))
    all_goals exact qE ⟨rfl, rfl, rfl⟩
  · rcases hf with ⟨rfl, hcf⟩ | ⟨rfl, hcf⟩ | ⟨hf0, hcf⟩
    all_goals first | have n2 : ¬ failing = 0 := by omega | have n2 := n0
    all_goals simp only [DS.begin, DS.tick, hcf, n0, n2, if_true, if_false, false_and, Bool.true_eq_false] at hr
    all_goals subst hr
    all_goals (repeat' (first | (refine i_op ?_; first | (refine iMv ?_; refine qMv ?_) | (refine iLd ?_; refine qLd ?_) | (refine iFa ?_; refine qFa ?_) | (refine iAd ?_; refine qAd ?_) | (refine iSb ?_; refine qSb ?_) | (refine iMl ?_; refine qMl ?_) | (refine iRm ?_; refine qRm ?_) | (refine iQu ?_; refine qQu ?_) | (refine iSr ?_; refine qSr ?_) | (refine iSh ?_; refine qSh ?_) | (refine iCm ?_; refine qCm ?_) | (refine iEx ?_; refine qEx ?_) | (refine iAs ?_; refine qAs ?_) | (refine iPk ?_; refine qPk ?_) | (refine iNc ?_; refine qNc ?_) | (refine iIa ?_; refine qIa ?_) | (refine iCv ?_; refine qCv ?_) | (refine iBi ?_; refine qBi ?_) | (refine iUn ?_; refine qUn ?_) | (refine iFl ?_; refine qFl ?_) | (refine iLu ?_; refine qLu ?_) | (refine iBu ?_; refine qBu ?_) | (refine iSl ?_; refine qSl ?_) | (refine iMf ?_; refine qMf ?_) | (refine iMi ?_; refine qMi ?_) | (refine iTa ?_; refine qTa ?_) | (refine iSt ?_; refine qSt ?_) | (refine iAl ?_; first | refine qAlA (fun _ => ?_) | refine qAlS (fun _ => ?_)) | (refine iBx ?_; first | refine qBxA (fun _ => ?_) | refine qBxS (fun _ => ?_)) | (refine iMm ?_; refine qMm (fun _ => ?_)) | (refine iBs ?_; refine qBs (fun _ => ?_)) | (refine i_gd ?_; first | refine qWant ?_ | refine qSkip ?_ | refine qSkip0 ?_ | refine qSkipU ?_)) | refine tl_nil ?_ | refine tc_seq ?_ | refine tc_region ?_ | refine te_seq ?_ | (refine i_cond ?_; first | refine qCt ?_ | refine qCf ?_) | refine tc_block ?_ | refine te_block_normal ?_ | refine te_block_ret ?_ | refine te_then_ret ?_ | refine te_block_hit ?_ | (refine i_miss ?_; refine qMiss ?_) | refine te_then_exit ?_ | refine tc_exit ?_ | refine tc_ret ?_ | refine tc_skip ?_))
    all_goals exact qE ⟨rfl, rfl, rfl⟩
end Go.Proofs.E

namespace Go.Proofs.E
open Go
set_option linter.unusedVariables false
set_option linter.unusedSimpArgs false
set_option linter.unusedSectionVars false
set_option maxRecDepth 4000
set_option maxHeartbeats 1000000
attribute [local irreducible] Yl TL TC TE Spec YSpec R1 Hp.le EnvLe TS TR YS Stays
theorem secV_is {p : Blk × Option Blk} (h1 : p.1.length = 64) (h2 : ∀ c, p.2 = some c → c.length = 64) : (secV p)[128]? = some (.bool p.2.isSome) := by
  have : (p.2.getD zblk).length = 64 := by
    cases hp : p.2 with
    | none => rfl
    | some c => exact h2 c hp
  unfold secV
  rw [List.getElem?_append_right (by simp [h1]), List.getElem?_append_right (by simp [h1, this])]
  simp [h1, this]
theorem secV_held {p : Blk × Option Blk} (h1 : p.1.length = 64) : ((secV p).drop 0).take 64 = p.1.map u8c := by
  unfold secV
  rw [List.drop_zero, List.take_left' (by simp [h1])]
theorem secV_cached {p : Blk × Option Blk} (h1 : p.1.length = 64) (h2 : ∀ c, p.2 = some c → c.length = 64) : ((secV p).drop 64).take 64 = (p.2.getD zblk).map u8c := by
  have : (p.2.getD zblk).length = 64 := by
    cases hp : p.2 with
    | none => rfl
    | some c => exact h2 c hp
  unfold secV
  rw [List.drop_left' (by simp [h1]), List.take_left' (by simp [this])]
theorem saysR_spec (ρ : Hp) (p : Blk × Option Blk) (h1 : p.1.length = 64) (h2 : ∀ c, p.2 = some c → c.length = 64) : Spec Try.prog 61 [.agg ⟨secV p⟩] ρ [] (fun v ρ' L' => v = bv (says1 p) ∧ ρ' = ρ ∧ L' = []) := by
  have e1 := secV_is h1 h2
  have e2 := secV_held h1
  have e3 := secV_cached h1 h2
  have hl := secV_len h1 h2
  have hs : (says1 p).length = 64 := by
    unfold says1
    cases hp : p.2 with
    | none => exact h1
    | some c => exact h2 c hp
  have hsl : ((says1 p).map u8c).length = 64 := by simpa using hs
  have hso := u8c_one (says1 p)
  refine spec_enter Try.func61 rfl rfl rfl fun u R => ?_
  simp only [argsE, List.cons_append, List.nil_append, bv]
  generalize secV p = S at *
  cases hp : p.2 with
  | none =>
    have hsay : says1 p = p.1 := by simp [says1, hp]
    rw [hp] at e1
    simp only [Option.isSome_none] at e1
    rw [← hsay] at e2
    repeat' (first | (refine i_op ?_; first | (refine iMv ?_; refine qMv ?_) | (refine iLd ?_; refine qLd ?_) | (refine iFa ?_; refine qFa ?_) | (refine iAd ?_; refine qAd ?_) | (refine iSb ?_; refine qSb ?_) | (refine iMl ?_; refine qMl ?_) | (refine iRm ?_; refine qRm ?_) | (refine iQu ?_; refine qQu ?_) | (refine iSr ?_; refine qSr ?_) | (refine iSh ?_; refine qSh ?_) | (refine iCm ?_; refine qCm ?_) | (refine iEx ?_; refine qEx ?_) | (refine iAs ?_; refine qAs ?_) | (refine iPk ?_; refine qPk ?_) | (refine iNc ?_; refine qNc ?_) | (refine iIa ?_; refine qIa ?_) | (refine iCv ?_; refine qCv ?_) | (refine iBi ?_; refine qBi ?_) | (refine iUn ?_; refine qUn ?_) | (refine iFl ?_; refine qFl ?_) | (refine iLu ?_; refine qLu ?_) | (refine iBu ?_; refine qBu ?_) | (refine iSl ?_; refine qSl ?_) | (refine iMf ?_; refine qMf ?_) | (refine iMi ?_; refine qMi ?_) | (refine iTa ?_; refine qTa ?_) | (refine iSt ?_; refine qSt ?_) | (refine iAl ?_; first | refine qAlA (fun _ => ?_) | refine qAlS (fun _ => ?_)) | (refine iBx ?_; first | refine qBxA (fun _ => ?_) | refine qBxS (fun _ => ?_)) | (refine iMm ?_; refine qMm (fun _ => ?_)) | (refine iBs ?_; refine qBs (fun _ => ?_)) | (refine i_gd ?_; first | refine qWant ?_ | refine qSkip ?_ | refine qSkip0 ?_ | refine qSkipU ?_)) | refine tl_nil ?_ | refine tc_seq ?_ | refine tc_region ?_ | refine te_seq ?_ | (refine i_cond ?_; first | refine qCt ?_ | refine qCf ?_) | refine tc_block ?_ | refine te_block_normal ?_ | refine te_block_ret ?_ | refine te_then_ret ?_ | refine te_block_hit ?_ | (refine i_miss ?_; refine qMiss ?_) | refine te_then_exit ?_ | refine tc_exit ?_ | refine tc_ret ?_ | refine tc_skip ?_)
    exact qE ⟨rfl, rfl, rfl⟩
  | some c =>
    have hsay : says1 p = c := by simp [says1, hp]
    rw [hp] at e1 e3
    simp only [Option.isSome_some, Option.getD_some] at e1 e3
    rw [← hsay] at e3
    repeat' (first | (refine i_op ?_; first | (refine iMv ?_; refine qMv ?_) | (refine iLd ?_; refine qLd ?_) | (refine iFa ?_; refine qFa ?_) | (refine iAd ?_; refine qAd ?_) | (refine iSb ?_; refine qSb ?_) | (refine iMl ?_; refine qMl ?_) | (refine iRm ?_; refine qRm ?_) | (refine iQu ?_; refine qQu ?_) | (refine iSr ?_; refine qSr ?_) | (refine iSh ?_; refine qSh ?_) | (refine iCm ?_; refine qCm ?_) | (refine iEx ?_; refine qEx ?_) | (refine iAs ?_; refine qAs ?_) | (refine iPk ?_; refine qPk ?_) | (refine iNc ?_; refine qNc ?_) | (refine iIa ?_; refine qIa ?_) | (refine iCv ?_; refine qCv ?_) | (refine iBi ?_; refine qBi ?_) | (refine iUn ?_; refine qUn ?_) | (refine iFl ?_; refine qFl ?_) | (refine iLu ?_; refine qLu ?_) | (refine iBu ?_; refine qBu ?_) | (refine iSl ?_; refine qSl ?_) | (refine iMf ?_; refine qMf ?_) | (refine iMi ?_; refine qMi ?_) | (refine iTa ?_; refine qTa ?_) | (refine iSt ?_; refine qSt ?_) | (refine iAl ?_; first | refine qAlA (fun _ => ?_) | refine qAlS (fun _ => ?_)) | (refine iBx ?_; first | refine qBxA (fun _ => ?_) | refine qBxS (fun _ => ?_)) | (refine iMm ?_; refine qMm (fun _ => ?_)) | (refine iBs ?_; refine qBs (fun _ => ?_)) | (refine i_gd ?_; first | refine qWant ?_ | refine qSkip ?_ | refine qSkip0 ?_ | refine qSkipU ?_)) | refine tl_nil ?_ | refine tc_seq ?_ | refine tc_region ?_ | refine te_seq ?_ | (refine i_cond ?_; first | refine qCt ?_ | refine qCf ?_) | refine tc_block ?_ | refine te_block_normal ?_ | refine te_block_ret ?_ | refine te_then_ret ?_ | refine te_block_hit ?_ | (refine i_miss ?_; refine qMiss ?_) | refine te_then_exit ?_ | refine tc_exit ?_ | refine tc_ret ?_ | refine tc_skip ?_)
    exact qE ⟨rfl, rfl, rfl⟩
end Go.Proofs.E

namespace Go.Proofs.E
open Go
set_option linter.unusedVariables false
set_option linter.unusedSimpArgs false
set_option linter.unusedSectionVars false
set_option maxRecDepth 4000
set_option maxHeartbeats 1000000
attribute [local irreducible] Yl TL TC TE Spec YSpec R1 Hp.le EnvLe TS TR YS Stays
theorem secV_one (p : Blk × Option Blk) : (secV p).all (·.oneCell') = true := by
  unfold secV
  rw [List.all_append, List.all_append, u8c_one, u8c_one]; rfl
theorem secC_one (s : Secs) : (secC s).all (·.oneCell') = true := by
  unfold secC
  rw [List.all_flatten, List.all_map, List.all_eq_true]
  intro p _
  exact secV_one p
theorem secC_set {s : Secs} (h : SecsOk s) {i : Nat} (hi : i < s.length) (sp : List Value) (q : Blk × Option Blk) (h1 : q.1.length = 64) (h2 : ∀ c, q.2 = some c → c.length = 64) : stc (secC s ++ sp) (0 + i * 129) (secV q) = secC (s.set i q) ++ sp := by
  rw [Nat.zero_add]
  exact flat_set secV 129 s i hi sp q (fun p hp => secV_len (h.held p hp) (h.cached p hp)) (secV_len h1 h2)
theorem secC_get {s : Secs} (h : SecsOk s) {i : Nat} (hi : i < s.length) (sp : List Value) : ((secC s ++ sp).drop (0 + i * 129)).take 129 = secV s[i] := by
  rw [Nat.zero_add]
  exact flat_get secV 129 s i hi sp (fun p hp => secV_len (h.held p hp) (h.cached p hp))
theorem SecsOk.set {s : Secs} (h : SecsOk s) {i : Nat} {q : Blk × Option Blk} (h1 : q.1.length = 64) (h2 : ∀ c, q.2 = some c → c.length = 64) : SecsOk (s.set i q) := by
  have hm : ∀ p ∈ s.set i q, p ∈ s ∨ p = q := fun p hp => List.mem_or_eq_of_mem_set hp
  refine ⟨by rw [List.length_set]; exact h.len, by rw [List.length_set]; exact h.pos, fun p hp => ?_, fun p hp c hc => ?_⟩
  · rcases hm p hp with hp | rfl
    · exact h.held p hp
    · exact h1
  · rcases hm p hp with hp | rfl
    · exact h.cached p hp c hc
    · exact h2 c hc
theorem with_spec (ρ : Hp) (D : DS) (a : Option Addr) (cap : Nat) (hR : RefIn ρ a cap D.secs) (i : Nat) (hi : i < D.secs.length) (q : Blk × Option Blk) (h1 : q.1.length = 64) (h2 : ∀ c, q.2 = some c → c.length = 64) :
    Spec Try.prog 62 [.agg ⟨refV D a cap⟩, .int .i64 i, .agg ⟨secV q⟩] ρ []
      (fun v ρ' L' => ρ.le ρ' ∧ ∃ a' cap', v = .agg ⟨refV { D with secs := D.secs.set i q } a' cap'⟩ ∧ RefIn ρ' a' cap' (D.secs.set i q) ∧ L' = []) := by
  obtain ⟨s, ops, armed, failing, dead⟩ := D
  obtain ⟨hs, b, sp, T, rfl, hb⟩ := hR
  dsimp only at hs hb hi ⊢
  have hlen := hs.len
  have hpos := hs.pos
  have hcl := secC_length hs
  have hql := secV_len h1 h2
  have hqo := secV_one q
  have hsrc : ((secC s ++ sp).drop 0).take (s.length * 129) = secC s := by rw [List.drop_zero, List.take_left' hcl]
  refine spec_enter Try.func62 rfl rfl rfl fun u R => ?_
  simp only [argsE, List.cons_append, List.nil_append, refV, List.length_set]
  repeat' (first | (refine i_op ?_; first | (refine iMv ?_; refine qMv ?_) | (refine iLd ?_; refine qLd ?_) | (refine iFa ?_; refine qFa ?_) | (refine iAd ?_; refine qAd ?_) | (refine iSb ?_; refine qSb ?_) | (refine iMl ?_; refine qMl ?_) | (refine iRm ?_; refine qRm ?_) | (refine iQu ?_; refine qQu ?_) | (refine iSr ?_; refine qSr ?_) | (refine iSh ?_; refine qSh ?_) | (refine iCm ?_; refine qCm ?_) | (refine iEx ?_; refine qEx ?_) | (refine iAs ?_; refine qAs ?_) | (refine iPk ?_; refine qPk ?_) | (refine iNc ?_; refine qNc ?_) | (refine iIa ?_; refine qIa ?_) | (refine iCv ?_; refine qCv ?_) | (refine iBi ?_; refine qBi ?_) | (refine iUn ?_; refine qUn ?_) | (refine iFl ?_; refine qFl ?_) | (refine iLu ?_; refine qLu ?_) | (refine iBu ?_; refine qBu ?_) | (refine iSl ?_; refine qSl ?_) | (refine iMf ?_; refine qMf ?_) | (refine iMi ?_; refine qMi ?_) | (refine iTa ?_; refine qTa ?_) | (refine iSt ?_; refine qSt ?_) | (refine iAl ?_; first | refine qAlA (fun _ => ?_) | refine qAlS (fun _ => ?_)) | (refine iBx ?_; first | refine qBxA (fun _ => ?_) | refine qBxS (fun _ => ?_)) | (refine iMm ?_; refine qMm (fun _ => ?_)) | (refine iBs ?_; refine qBs (fun _ => ?_)) | (refine i_gd ?_; first | refine qWant ?_ | refine qSkip ?_ | refine qSkip0 ?_ | refine qSkipU ?_)) | refine tl_nil ?_ | refine tc_seq ?_ | refine tc_region ?_ | refine te_seq ?_ | (refine i_cond ?_; first | refine qCt ?_ | refine qCf ?_) | refine tc_block ?_ | refine te_block_normal ?_ | refine te_block_ret ?_ | refine te_then_ret ?_ | refine te_block_hit ?_ | (refine i_miss ?_; refine qMiss ?_) | refine te_then_exit ?_ | refine tc_exit ?_ | refine tc_ret ?_ | refine tc_skip ?_)
  refine tl_append (n := 0) (xs := []) (sp := []) (ys := secC s) rfl rfl (OwnS.zero _ 129) (hR := rem_here') (Src.imm (n := s.length * 129) hb hsrc) hcl (secC_one s) hpos rfl (by omega) (by omega) rfl (fun v' sp' hown' => ?_)
  simp only [Nat.zero_add, List.nil_append] at hown' ⊢
  obtain ⟨b', cap', rfl⟩ := hown'.pos hpos
  simp only [ownC]
  have hst := secC_set hs hi sp' q h1 h2
  have hfl : (secC s ++ sp').length = s.length * 129 + sp'.length := by rw [List.length_append, hcl]
  generalize hSV : secV q = SV at *
  repeat' (first | (refine i_op ?_; first | (refine iMv ?_; refine qMv ?_) | (refine iLd ?_; refine qLd ?_) | (refine iFa ?_; refine qFa ?_) | (refine iAd ?_; refine qAd ?_) | (refine iSb ?_; refine qSb ?_) | (refine iMl ?_; refine qMl ?_) | (refine iRm ?_; refine qRm ?_) | (refine iQu ?_; refine qQu ?_) | (refine iSr ?_; refine qSr ?_) | (refine iSh ?_; refine qSh ?_) | (refine iCm ?_; refine qCm ?_) | (refine iEx ?_; refine qEx ?_) | (refine iAs ?_; refine qAs ?_) | (refine iPk ?_; refine qPk ?_) | (refine iNc ?_; refine qNc ?_) | (refine iIa ?_; refine qIa ?_) | (refine iCv ?_; refine qCv ?_) | (refine iBi ?_; refine qBi ?_) | (refine iUn ?_; refine qUn ?_) | (refine iFl ?_; refine qFl ?_) | (refine iLu ?_; refine qLu ?_) | (refine iBu ?_; refine qBu ?_) | (refine iSl ?_; refine qSl ?_) | (refine iMf ?_; refine qMf ?_) | (refine iMi ?_; refine qMi ?_) | (refine iTa ?_; refine qTa ?_) | (refine iSt ?_; refine qSt ?_) | (refine iAl ?_; first | refine qAlA (fun _ => ?_) | refine qAlS (fun _ => ?_)) | (refine iBx ?_; first | refine qBxA (fun _ => ?_) | refine qBxS (fun _ => ?_)) | (refine iMm ?_; refine qMm (fun _ => ?_)) | (refine iBs ?_; refine qBs (fun _ => ?_)) | (refine i_gd ?_; first | refine qWant ?_ | refine qSkip ?_ | refine qSkip0 ?_ | refine qSkipU ?_)) | refine tl_nil ?_ | refine tc_seq ?_ | refine tc_region ?_ | refine te_seq ?_ | (refine i_cond ?_; first | refine qCt ?_ | refine qCf ?_) | refine tc_block ?_ | refine te_block_normal ?_ | refine te_block_ret ?_ | refine te_then_ret ?_ | refine te_block_hit ?_ | (refine i_miss ?_; refine qMiss ?_) | refine te_then_exit ?_ | refine tc_exit ?_ | refine tc_ret ?_ | refine tc_skip ?_)
  rw [hst]
  refine te_freeze [(b', .cells ⟨secC (s.set i q) ++ sp'⟩ 67 (0, 0))] (fun ρ' hle hfz => ?_)
  have hb' := hfz _ (List.mem_singleton.2 rfl)
  exact qE (L' := []) ⟨hle, some ⟨b', 0, none⟩, cap', rfl, ⟨hs.set h1 h2, b', sp', 67, rfl, hb'⟩, rfl⟩
end Go.Proofs.E

namespace Go.Proofs.E
open Go
set_option linter.unusedVariables false
set_option linter.unusedSimpArgs false
set_option linter.unusedSectionVars false
set_option maxRecDepth 4000
set_option maxHeartbeats 1000000
attribute [local irreducible] Yl TL TC TE Spec YSpec R1 Hp.le EnvLe TS TR YS Stays
theorem refV_one (D : DS) (a : Option Addr) (cap : Nat) : (refV D a cap).all (·.oneCell') = true := by rfl
theorem refV_len (D : DS) (a : Option Addr) (cap : Nat) : (refV D a cap).length = 5 := by rfl
theorem readR_spec (ρ : Hp) (D : DS) (hD : D.Ok) (a : Option Addr) (cap : Nat) (hR : RefIn ρ a cap D.secs) (i : Int) :
    Spec Try.prog 48 [.agg ⟨refV D a cap⟩, .int .i64 i] ρ [] (fun v ρ' L' => v = .tuple ⟨[.agg ⟨refV (D.read i).1 a cap⟩, bv (D.read i).2.1, .int .i64 (D.read i).2.2]⟩ ∧ ρ' = ρ ∧ L' = []) := by
  have hz0 : (List.replicate 64 (Value.int .u8 0)).length = 64 := by rfl
  have hz64 : (List.replicate 64 (Value.int .u8 0)).all (·.oneCell') = true := by rfl
  have hth := there_spec ρ D a cap i
  have hbg := begin_spec ρ D hD a cap true
  by_cases hd : D.dead = true
  · have he : D.read i = (D, zblk, 9) := by simp [DS.read, hd]
    rw [he]
    simp only [bv, ← zblk_cells]
    obtain ⟨s, ops, armed, failing, dead⟩ := D
    dsimp only at hd
    subst hd
    refine spec_enter Try.func48 rfl rfl rfl fun u R => ?_
    simp only [argsE, List.cons_append, List.nil_append, refV]
    repeat' (first | (refine tl_y (y_build (cells := ⟨List.replicate 64 (.int .u8 0)⟩) rfl rfl) rfl rfl ?_) | (refine i_op ?_; first | (refine iMv ?_; refine qMv ?_) | (refine iLd ?_; refine qLd ?_) | (refine iFa ?_; refine qFa ?_) | (refine iAd ?_; refine qAd ?_) | (refine iSb ?_; refine qSb ?_) | (refine iMl ?_; refine qMl ?_) | (refine iRm ?_; refine qRm ?_) | (refine iQu ?_; refine qQu ?_) | (refine iSr ?_; refine qSr ?_) | (refine iSh ?_; refine qSh ?_) | (refine iCm ?_; refine qCm ?_) | (refine iEx ?_; refine qEx ?_) | (refine iAs ?_; refine qAs ?_) | (refine iPk ?_; refine qPk ?_) | (refine iNc ?_; refine qNc ?_) | (refine iIa ?_; refine qIa ?_) | (refine iCv ?_; refine qCv ?_) | (refine iBi ?_; refine qBi ?_) | (refine iUn ?_; refine qUn ?_) | (refine iFl ?_; refine qFl ?_) | (refine iLu ?_; refine qLu ?_) | (refine iBu ?_; refine qBu ?_) | (refine iSl ?_; refine qSl ?_) | (refine iMf ?_; refine qMf ?_) | (refine iMi ?_; refine qMi ?_) | (refine iTa ?_; refine qTa ?_) | (refine iSt ?_; refine qSt ?_) | (refine iAl ?_; first | refine qAlA (fun _ => ?_) | refine qAlS (fun _ => ?_)) | (refine iBx ?_; first | refine qBxA (fun _ => ?_) | refine qBxS (fun _ => ?_)) | (refine iMm ?_; refine qMm (fun _ => ?_)) | (refine iBs ?_; refine qBs (fun _ => ?_)) | (refine i_gd ?_; first | refine qWant ?_ | refine qSkip ?_ | refine qSkip0 ?_ | refine qSkipU ?_)) | refine tl_nil ?_ | refine tc_seq ?_ | refine tc_region ?_ | refine te_seq ?_ | (refine i_cond ?_; first | refine qCt ?_ | refine qCf ?_) | refine tc_block ?_ | refine te_block_normal ?_ | refine te_block_ret ?_ | refine te_then_ret ?_ | refine te_block_hit ?_ | (refine i_miss ?_; refine qMiss ?_) | refine te_then_exit ?_ | refine tc_exit ?_ | refine tc_ret ?_ | refine tc_skip ?_)
    exact qE ⟨rfl, rfl, rfl⟩
  · have hd' : D.dead = false := by simpa using hd
    by_cases hr : 0 ≤ i ∧ i < D.secs.length
    · obtain ⟨k, rfl⟩ : ∃ k : Nat, i = k := ⟨i.toNat, by omega⟩
      have hk : k < D.secs.length := by omega
      have hn : ¬ ((k : Int) < 0 ∨ (D.secs.length : Int) ≤ k) := by omega
      have hdt : decide (0 ≤ (k : Int) ∧ (k : Int) < D.secs.length) = true := by simp [hk]
      rw [hdt] at hth
      by_cases hf : D.failing = 0
      · have he : D.read k = (D.tick, zblk, 8) := by simp only [DS.read, hd', Bool.false_eq_true, if_false, hn, hf, if_true]
        have hb : D.begin true = (D.tick, 8) := by simp [DS.begin, hf]
        rw [he]
        rw [hb] at hbg
        simp only [bv, ← zblk_cells]
        obtain ⟨s, ops, armed, failing, dead⟩ := D
        dsimp only at hd'
        subst hd'
        refine spec_enter Try.func48 rfl rfl rfl fun u R => ?_
        simp only [argsE, List.cons_append, List.nil_append, refV, DS.tick] at hth hbg ⊢
        repeat' (first | (refine tl_y (y_build (cells := ⟨List.replicate 64 (.int .u8 0)⟩) rfl rfl) rfl rfl ?_) | (refine tl_is (.func 59) ?_; refine qC rfl rfl (hth) ?_; rintro v ρ' L' hle ⟨rfl, rfl, rfl⟩ <;> (try simp only [List.cons_append, List.nil_append, List.append_eq])) | (refine tl_is (.func 60) ?_; refine qC rfl rfl (hbg) ?_; rintro v ρ' L' hle ⟨rfl, rfl, rfl⟩ <;> (try simp only [List.cons_append, List.nil_append, List.append_eq])) | (refine i_op ?_; first | (refine iMv ?_; refine qMv ?_) | (refine iLd ?_; refine qLd ?_) | (refine iFa ?_; refine qFa ?_) | (refine iAd ?_; refine qAd ?_) | (refine iSb ?_; refine qSb ?_) | (refine iMl ?_; refine qMl ?_) | (refine iRm ?_; refine qRm ?_) | (refine iQu ?_; refine qQu ?_) | (refine iSr ?_; refine qSr ?_) | (refine iSh ?_; refine qSh ?_) | (refine iCm ?_; refine qCm ?_) | (refine iEx ?_; refine qEx ?_) | (refine iAs ?_; refine qAs ?_) | (refine iPk ?_; refine qPk ?_) | (refine iNc ?_; refine qNc ?_) | (refine iIa ?_; refine qIa ?_) | (refine iCv ?_; refine qCv ?_) | (refine iBi ?_; refine qBi ?_) | (refine iUn ?_; refine qUn ?_) | (refine iFl ?_; refine qFl ?_) | (refine iLu ?_; refine qLu ?_) | (refine iBu ?_; refine qBu ?_) | (refine iSl ?_; refine qSl ?_) | (refine iMf ?_; refine qMf ?_) | (refine iMi ?_; refine qMi ?_) | (refine iTa ?_; refine qTa ?_) | (refine iSt ?_; refine qSt ?_) | (refine iAl ?_; first | refine qAlA (fun _ => ?_) | refine qAlS (fun _ => ?_)) | (refine iBx ?_; first | refine qBxA (fun _ => ?_) | refine qBxS (fun _ => ?_)) | (refine iMm ?_; refine qMm (fun _ => ?_)) | (refine iBs ?_; refine qBs (fun _ => ?_)) | (refine i_gd ?_; first | refine qWant ?_ | refine qSkip ?_ | refine qSkip0 ?_ | refine qSkipU ?_)) | refine tl_nil ?_ | refine tc_seq ?_ | refine tc_region ?_ | refine te_seq ?_ | (refine i_cond ?_; first | refine qCt ?_ | refine qCf ?_) | refine tc_block ?_ | refine te_block_normal ?_ | refine te_block_ret ?_ | refine te_then_ret ?_ | refine te_block_hit ?_ | (refine i_miss ?_; refine qMiss ?_) | refine te_then_exit ?_ | refine tc_exit ?_ | refine tc_ret ?_ | refine tc_skip ?_)
        exact qE ⟨rfl, rfl, rfl⟩
      · have he : D.read k = (D.tick, says1 D.secs[k], 0) := by simp only [DS.read, hd', Bool.false_eq_true, if_false, hn, hf, Int.toNat_natCast, List.getElem?_eq_getElem hk, Option.getD_some]
        have hb : D.begin true = (D.tick, 0) := by simp [DS.begin, hf]
        rw [he]
        rw [hb] at hbg
        obtain ⟨hs, rb, sp, T, rfl, hrb⟩ := hR
        have hsl := says_len hs hk
        have hsl' : ((says1 D.secs[k]).map u8c).length = 64 := by simpa using hsl
        have hso := u8c_one (says1 D.secs[k])
        have hcl : (secC D.secs ++ sp).length = D.secs.length * 129 + sp.length := by rw [List.length_append, secC_length hs]
        have hget := secC_get hs hk sp
        have hsy := fun ρ => saysR_spec ρ D.secs[k] (hs.held _ (List.getElem_mem hk)) (hs.cached _ (List.getElem_mem hk))
        generalize secC D.secs ++ sp = SC at *
        generalize secV D.secs[k] = SV at *
        generalize says1 D.secs[k] = W at *
        obtain ⟨s, ops, armed, failing, dead⟩ := D
        dsimp only at hd' hcl hk
        subst hd'
        refine spec_enter Try.func48 rfl rfl rfl fun u R => ?_
        simp only [argsE, List.cons_append, List.nil_append, refV, DS.tick, bv] at hth hbg hsy ⊢
        refine tc_seq ?_; refine tc_region ?_; refine qBxA (fun b2 => ?_)
        repeat' (first | (refine tl_is (.func 59) ?_; refine qC rfl rfl (hth) ?_; rintro v ρ' L' hle ⟨rfl, rfl, rfl⟩ <;> (try simp only [List.cons_append, List.nil_append, List.append_eq])) | (refine tl_is (.func 60) ?_; refine qC rfl rfl (hbg) ?_; rintro v ρ' L' hle ⟨rfl, rfl, rfl⟩ <;> (try simp only [List.cons_append, List.nil_append, List.append_eq])) | (refine i_op ?_; first | (refine iMv ?_; refine qMv ?_) | (refine iLd ?_; refine qLd ?_) | (refine iFa ?_; refine qFa ?_) | (refine iAd ?_; refine qAd ?_) | (refine iSb ?_; refine qSb ?_) | (refine iMl ?_; refine qMl ?_) | (refine iRm ?_; refine qRm ?_) | (refine iQu ?_; refine qQu ?_) | (refine iSr ?_; refine qSr ?_) | (refine iSh ?_; refine qSh ?_) | (refine iCm ?_; refine qCm ?_) | (refine iEx ?_; refine qEx ?_) | (refine iAs ?_; refine qAs ?_) | (refine iPk ?_; refine qPk ?_) | (refine iNc ?_; refine qNc ?_) | (refine iIa ?_; refine qIa ?_) | (refine iCv ?_; refine qCv ?_) | (refine iBi ?_; refine qBi ?_) | (refine iUn ?_; refine qUn ?_) | (refine iFl ?_; refine qFl ?_) | (refine iLu ?_; refine qLu ?_) | (refine iBu ?_; refine qBu ?_) | (refine iSl ?_; refine qSl ?_) | (refine iMf ?_; refine qMf ?_) | (refine iMi ?_; refine qMi ?_) | (refine iTa ?_; refine qTa ?_) | (refine iSt ?_; refine qSt ?_) | (refine iAl ?_; first | refine qAlA (fun _ => ?_) | refine qAlS (fun _ => ?_)) | (refine iBx ?_; first | refine qBxA (fun _ => ?_) | refine qBxS (fun _ => ?_)) | (refine iMm ?_; refine qMm (fun _ => ?_)) | (refine iBs ?_; refine qBs (fun _ => ?_)) | (refine i_gd ?_; first | refine qWant ?_ | refine qSkip ?_ | refine qSkip0 ?_ | refine qSkipU ?_)) | refine tl_nil ?_ | refine tc_seq ?_ | refine tc_region ?_ | refine te_seq ?_ | (refine i_cond ?_; first | refine qCt ?_ | refine qCf ?_) | refine tc_block ?_ | refine te_block_normal ?_ | refine te_block_ret ?_ | refine te_then_ret ?_ | refine te_block_hit ?_ | (refine i_miss ?_; refine qMiss ?_) | refine te_then_exit ?_ | refine tc_exit ?_ | refine tc_ret ?_ | refine tc_skip ?_)
        refine tc_any (Stays _ _ ([[(b2, .cells ⟨[.slice (some ⟨rb, 0, none⟩) s.length cap, .int .i64 (IntKind.i64.wrap (ops + 1)), .int .i64 armed, .int .i64 (cnt failing), .bool false]⟩ 60 (0, 0))]])) (stays_of (Hp.le_refl _)) ?_
        all_goals refine rLd 0 ?_
        all_goals refine rFa 1 ?_
        all_goals refine rLd 2 ?_
        all_goals refine rMv 3 ?_
        all_goals refine rIa 4 ?_
        all_goals refine rLd 5 ?_
        all_goals refine rMv 7 ?_
        all_goals (refine rStep (i := 6) ?_; ((try refine qWant ?_); (first | (refine tl_is (.func 61) ?_; refine qC rfl rfl (hsy _) ?_; rintro v ρ' L' hle ⟨rfl, rfl, rfl⟩ <;> (try simp only [List.cons_append, List.nil_append, List.append_eq])) | (refine iSt ?_; refine qSt ?_) | (refine iAl ?_; first | refine qAlA (fun _ => ?_) | refine qAlS (fun _ => ?_)) | (refine iBx ?_; first | refine qBxA (fun _ => ?_) | refine qBxS (fun _ => ?_)) | (refine iMm ?_; refine qMm (fun _ => ?_)) | (refine iBs ?_; refine qBs (fun _ => ?_))); (try simp only [List.cons_append, List.nil_append, List.append_eq]); refine tl_nil ?_; refine rNext ?_))
        all_goals (refine rStep (i := 8) ?_; ((try refine qWant ?_); (first | (refine tl_is (.func 61) ?_; refine qC rfl rfl (hsy _) ?_; rintro v ρ' L' hle ⟨rfl, rfl, rfl⟩ <;> (try simp only [List.cons_append, List.nil_append, List.append_eq])) | (refine iSt ?_; refine qSt ?_) | (refine iAl ?_; first | refine qAlA (fun _ => ?_) | refine qAlS (fun _ => ?_)) | (refine iBx ?_; first | refine qBxA (fun _ => ?_) | refine qBxS (fun _ => ?_)) | (refine iMm ?_; refine qMm (fun _ => ?_)) | (refine iBs ?_; refine qBs (fun _ => ?_))); (try simp only [List.cons_append, List.nil_append, List.append_eq]); refine tl_nil ?_; refine rNext ?_))
        all_goals (refine rStep (i := 9) ?_; ((try refine qWant ?_); (first | (refine tl_is (.func 61) ?_; refine qC rfl rfl (hsy _) ?_; rintro v ρ' L' hle ⟨rfl, rfl, rfl⟩ <;> (try simp only [List.cons_append, List.nil_append, List.append_eq])) | (refine iSt ?_; refine qSt ?_) | (refine iAl ?_; first | refine qAlA (fun _ => ?_) | refine qAlS (fun _ => ?_)) | (refine iBx ?_; first | refine qBxA (fun _ => ?_) | refine qBxS (fun _ => ?_)) | (refine iMm ?_; refine qMm (fun _ => ?_)) | (refine iBs ?_; refine qBs (fun _ => ?_))); (try simp only [List.cons_append, List.nil_append, List.append_eq]); refine tl_nil ?_; refine rNext ?_))
        all_goals refine rFull ?_
        all_goals refine rAs 10 ?_
        all_goals refine rDone ?_
        repeat' (first | (refine i_op ?_; first | (refine iMv ?_; refine qMv ?_) | (refine iLd ?_; refine qLd ?_) | (refine iFa ?_; refine qFa ?_) | (refine iAd ?_; refine qAd ?_) | (refine iSb ?_; refine qSb ?_) | (refine iMl ?_; refine qMl ?_) | (refine iRm ?_; refine qRm ?_) | (refine iQu ?_; refine qQu ?_) | (refine iSr ?_; refine qSr ?_) | (refine iSh ?_; refine qSh ?_) | (refine iCm ?_; refine qCm ?_) | (refine iEx ?_; refine qEx ?_) | (refine iAs ?_; refine qAs ?_) | (refine iPk ?_; refine qPk ?_) | (refine iNc ?_; refine qNc ?_) | (refine iIa ?_; refine qIa ?_) | (refine iCv ?_; refine qCv ?_) | (refine iBi ?_; refine qBi ?_) | (refine iUn ?_; refine qUn ?_) | (refine iFl ?_; refine qFl ?_) | (refine iLu ?_; refine qLu ?_) | (refine iBu ?_; refine qBu ?_) | (refine iSl ?_; refine qSl ?_) | (refine iMf ?_; refine qMf ?_) | (refine iMi ?_; refine qMi ?_) | (refine iTa ?_; refine qTa ?_) | (refine iSt ?_; refine qSt ?_) | (refine iAl ?_; first | refine qAlA (fun _ => ?_) | refine qAlS (fun _ => ?_)) | (refine iBx ?_; first | refine qBxA (fun _ => ?_) | refine qBxS (fun _ => ?_)) | (refine iMm ?_; refine qMm (fun _ => ?_)) | (refine iBs ?_; refine qBs (fun _ => ?_)) | (refine i_gd ?_; first | refine qWant ?_ | refine qSkip ?_ | refine qSkip0 ?_ | refine qSkipU ?_)) | refine tl_nil ?_ | refine tc_seq ?_ | refine tc_region ?_ | refine te_seq ?_ | (refine i_cond ?_; first | refine qCt ?_ | refine qCf ?_) | refine tc_block ?_ | refine te_block_normal ?_ | refine te_block_ret ?_ | refine te_then_ret ?_ | refine te_block_hit ?_ | (refine i_miss ?_; refine qMiss ?_) | refine te_then_exit ?_ | refine tc_exit ?_ | refine tc_ret ?_ | refine tc_skip ?_)
        exact qE ⟨rfl, rfl, rfl⟩
    · have hn : i < 0 ∨ (D.secs.length : Int) ≤ i := by omega
      have hdt : decide (0 ≤ i ∧ i < D.secs.length) = false := by simpa using hr
      rw [hdt] at hth
      have he : D.read i = (D, zblk, 2) := by simp only [DS.read, hd', Bool.false_eq_true, if_false, hn, if_true]
      rw [he]
      simp only [bv, ← zblk_cells]
      obtain ⟨s, ops, armed, failing, dead⟩ := D
      dsimp only at hd'
      subst hd'
      refine spec_enter Try.func48 rfl rfl rfl fun u R => ?_
      simp only [argsE, List.cons_append, List.nil_append, refV] at hth ⊢
      repeat' (first | (refine tl_y (y_build (cells := ⟨List.replicate 64 (.int .u8 0)⟩) rfl rfl) rfl rfl ?_) | (refine tl_is (.func 59) ?_; refine qC rfl rfl (hth) ?_; rintro v ρ' L' hle ⟨rfl, rfl, rfl⟩ <;> (try simp only [List.cons_append, List.nil_append, List.append_eq])) | (refine i_op ?_; first | (refine iMv ?_; refine qMv ?_) | (refine iLd ?_; refine qLd ?_) | (refine iFa ?_; refine qFa ?_) | (refine iAd ?_; refine qAd ?_) | (refine iSb ?_; refine qSb ?_) | (refine iMl ?_; refine qMl ?_) | (refine iRm ?_; refine qRm ?_) | (refine iQu ?_; refine qQu ?_) | (refine iSr ?_; refine qSr ?_) | (refine iSh ?_; refine qSh ?_) | (refine iCm ?_; refine qCm ?_) | (refine iEx ?_; refine qEx ?_) | (refine iAs ?_; refine qAs ?_) | (refine iPk ?_; refine qPk ?_) | (refine iNc ?_; refine qNc ?_) | (refine iIa ?_; refine qIa ?_) | (refine iCv ?_; refine qCv ?_) | (refine iBi ?_; refine qBi ?_) | (refine iUn ?_; refine qUn ?_) | (refine iFl ?_; refine qFl ?_) | (refine iLu ?_; refine qLu ?_) | (refine iBu ?_; refine qBu ?_) | (refine iSl ?_; refine qSl ?_) | (refine iMf ?_; refine qMf ?_) | (refine iMi ?_; refine qMi ?_) | (refine iTa ?_; refine qTa ?_) | (refine iSt ?_; refine qSt ?_) | (refine iAl ?_; first | refine qAlA (fun _ => ?_) | refine qAlS (fun _ => ?_)) | (refine iBx ?_; first | refine qBxA (fun _ => ?_) | refine qBxS (fun _ => ?_)) | (refine iMm ?_; refine qMm (fun _ => ?_)) | (refine iBs ?_; refine qBs (fun _ => ?_)) | (refine i_gd ?_; first | refine qWant ?_ | refine qSkip ?_ | refine qSkip0 ?_ | refine qSkipU ?_)) | refine tl_nil ?_ | refine tc_seq ?_ | refine tc_region ?_ | refine te_seq ?_ | (refine i_cond ?_; first | refine qCt ?_ | refine qCf ?_) | refine tc_block ?_ | refine te_block_normal ?_ | refine te_block_ret ?_ | refine te_then_ret ?_ | refine te_block_hit ?_ | (refine i_miss ?_; refine qMiss ?_) | refine te_then_exit ?_ | refine tc_exit ?_ | refine tc_ret ?_ | refine tc_skip ?_)
      exact qE ⟨rfl, rfl, rfl⟩
end Go.Proofs.E

namespace Go.Proofs.E
open Go
set_option linter.unusedVariables false
set_option linter.unusedSimpArgs false
set_option linter.unusedSectionVars false
set_option maxRecDepth 4000
set_option maxHeartbeats 1000000
attribute [local irreducible] Yl TL TC TE Spec YSpec R1 Hp.le EnvLe TS TR YS Stays
theorem secZero_len : (List.replicate 128 (Value.int .u8 0) ++ [Value.bool false]).length = 129 := by rfl
theorem build_sec (A B : List Value) (hA : A.length = 64) (hB : B.length = 64) (f : Bool) :
    Instr.fill (([(0, 64), (64, 64), (128, 1)] : List (Nat × Nat))[·]?) ⟨List.replicate 128 (Value.int .u8 0) ++ [Value.bool false]⟩ [(0, .agg ⟨A⟩), (1, .agg ⟨B⟩), (2, .bool f)] = some ⟨A ++ (B ++ [.bool f])⟩ := by
  rw [fill_cons (off := 0) (size := 64) (cs := A) rfl rfl hA (by simp)]
  have e1 : stc (List.replicate 128 (Value.int .u8 0) ++ [Value.bool false]) 0 A = A ++ (List.replicate 64 (Value.int .u8 0) ++ [Value.bool false]) := by
    simp only [stc, List.take_zero, List.nil_append, Nat.zero_add, hA]; rfl
  rw [e1, fill_cons (off := 64) (size := 64) (cs := B) rfl rfl hB (by simp [hA])]
  have e2 : stc (A ++ (List.replicate 64 (Value.int .u8 0) ++ [Value.bool false])) 64 B = A ++ (B ++ [Value.bool false]) := by
    simp only [stc]
    rw [List.take_left' hA, hB, ← List.drop_drop, List.drop_left' hA, List.drop_left' (by simp)]
    simp
  rw [e2, fill_cons (off := 128) (size := 1) (cs := [.bool f]) rfl rfl rfl (by simp [hA, hB])]
  have e3 : stc (A ++ (B ++ [Value.bool false])) 128 [.bool f] = A ++ (B ++ [.bool f]) := by
    have hAB : (A ++ B).length = 128 := by simp [hA, hB]
    simp only [stc]
    rw [← List.append_assoc, List.take_left' hAB, ← List.append_assoc]
    rw [List.drop_eq_nil_of_le (by simp [hA, hB])]
    simp
  rw [e3]; rfl
theorem build_held (A : List Value) (hA : A.length = 64) :
    Instr.fill (([(0, 64), (64, 64), (128, 1)] : List (Nat × Nat))[·]?) ⟨List.replicate 128 (Value.int .u8 0) ++ [Value.bool false]⟩ [(0, .agg ⟨A⟩)] = some ⟨A ++ (List.replicate 64 (Value.int .u8 0) ++ [.bool false])⟩ := by
  rw [fill_cons (off := 0) (size := 64) (cs := A) rfl rfl hA (by simp)]
  have e1 : stc (List.replicate 128 (Value.int .u8 0) ++ [Value.bool false]) 0 A = A ++ (List.replicate 64 (Value.int .u8 0) ++ [Value.bool false]) := by
    simp only [stc, List.take_zero, List.nil_append, Nat.zero_add, hA]; rfl
  rw [e1]; rfl
end Go.Proofs.E

namespace Go.Proofs.E
open Go
set_option linter.unusedVariables false
set_option linter.unusedSimpArgs false
set_option linter.unusedSectionVars false
set_option maxRecDepth 4000
set_option maxHeartbeats 1000000
attribute [local irreducible] Yl TL TC TE Spec YSpec R1 Hp.le EnvLe TS TR YS Stays
theorem secV_some (h b : Blk) : secV (h, some b) = h.map u8c ++ (b.map u8c ++ [.bool true]) := rfl
theorem putC_set {s : Secs} {i : Nat} (hi : i < s.length) (b : Blk) : putC s i b = s.set i (s[i].1, some b) := by simp [putC, hi]
theorem writeR_spec (ρ : Hp) (D : DS) (hD : D.Ok) (a : Option Addr) (cap : Nat) (hR : RefIn ρ a cap D.secs) (i : Int) (blk : Blk) (hb64 : blk.length = 64) :
    Spec Try.prog 50 [.agg ⟨refV D a cap⟩, .int .i64 i, bv blk] ρ [] (fun v ρ' L' => ρ.le ρ' ∧ ∃ a' cap', v = .tuple ⟨[.agg ⟨refV (D.write i blk).1 a' cap'⟩, .int .i64 (D.write i blk).2]⟩ ∧ RefIn ρ' a' cap' (D.write i blk).1.secs ∧ L' = []) := by
  have hbl : (blk.map u8c).length = 64 := by simpa using hb64
  have hbo := u8c_one blk
  have hth := there_spec ρ D a cap i
  have hbg := begin_spec ρ D hD a cap false
  by_cases hd : D.dead = true
  · have he : D.write i blk = (D, 9) := by simp [DS.write, hd]
    rw [he]
    obtain ⟨s, ops, armed, failing, dead⟩ := D
    dsimp only at hd
    subst hd
    refine spec_enter Try.func50 rfl rfl rfl fun u R => ?_
    simp only [argsE, List.cons_append, List.nil_append, refV, bv]
    repeat' (first | (refine i_op ?_; first | (refine iMv ?_; refine qMv ?_) | (refine iLd ?_; refine qLd ?_) | (refine iFa ?_; refine qFa ?_) | (refine iAd ?_; refine qAd ?_) | (refine iSb ?_; refine qSb ?_) | (refine iMl ?_; refine qMl ?_) | (refine iRm ?_; refine qRm ?_) | (refine iQu ?_; refine qQu ?_) | (refine iSr ?_; refine qSr ?_) | (refine iSh ?_; refine qSh ?_) | (refine iCm ?_; refine qCm ?_) | (refine iEx ?_; refine qEx ?_) | (refine iAs ?_; refine qAs ?_) | (refine iPk ?_; refine qPk ?_) | (refine iNc ?_; refine qNc ?_) | (refine iIa ?_; refine qIa ?_) | (refine iCv ?_; refine qCv ?_) | (refine iBi ?_; refine qBi ?_) | (refine iUn ?_; refine qUn ?_) | (refine iFl ?_; refine qFl ?_) | (refine iLu ?_; refine qLu ?_) | (refine iBu ?_; refine qBu ?_) | (refine iSl ?_; refine qSl ?_) | (refine iMf ?_; refine qMf ?_) | (refine iMi ?_; refine qMi ?_) | (refine iTa ?_; refine qTa ?_) | (refine iSt ?_; refine qSt ?_) | (refine iAl ?_; first | refine qAlA (fun _ => ?_) | refine qAlS (fun _ => ?_)) | (refine iBx ?_; first | refine qBxA (fun _ => ?_) | refine qBxS (fun _ => ?_)) | (refine iMm ?_; refine qMm (fun _ => ?_)) | (refine iBs ?_; refine qBs (fun _ => ?_)) | (refine i_gd ?_; first | refine qWant ?_ | refine qSkip ?_ | refine qSkip0 ?_ | refine qSkipU ?_)) | refine tl_nil ?_ | refine tc_seq ?_ | refine tc_region ?_ | refine te_seq ?_ | (refine i_cond ?_; first | refine qCt ?_ | refine qCf ?_) | refine tc_block ?_ | refine te_block_normal ?_ | refine te_block_ret ?_ | refine te_then_ret ?_ | refine te_block_hit ?_ | (refine i_miss ?_; refine qMiss ?_) | refine te_then_exit ?_ | refine tc_exit ?_ | refine tc_ret ?_ | refine tc_skip ?_)
    exact qE ⟨Hp.le_refl _, a, cap, rfl, hR, rfl⟩
  · have hd' : D.dead = false := by simpa using hd
    by_cases hr : 0 ≤ i ∧ i < D.secs.length
    · obtain ⟨k, rfl⟩ : ∃ k : Nat, i = k := ⟨i.toNat, by omega⟩
      have hk : k < D.secs.length := by omega
      have hn : ¬ ((k : Int) < 0 ∨ (D.secs.length : Int) ≤ k) := by omega
      have hdt : decide (0 ≤ (k : Int) ∧ (k : Int) < D.secs.length) = true := by simp [hk]
      rw [hdt] at hth
      have hs := hR.ok
      have hheld := hs.held D.secs[k] (List.getElem_mem hk)
      have hhl : (D.secs[k].1.map u8c).length = 64 := by simpa using hheld
      have hbuild := build_sec (D.secs[k].1.map u8c) (blk.map u8c) hhl hbl true
      have hsec : D.secs[k].1.map u8c ++ (blk.map u8c ++ [.bool true]) = secV (D.secs[k].1, some blk) := rfl
      rw [hsec] at hbuild
      have hget := fun sp => secC_get hs hk sp
      have hgh := secV_held hheld
      by_cases hf : D.armed ≠ 0 ∧ D.failing = 0
      · obtain ⟨ha, hf⟩ := hf
        have he : D.write k blk = (D.tick, 8) := by simp only [DS.write, hd', Bool.false_eq_true, if_false, hn, ha, hf, if_true]
        have hb : D.begin false = (D.tick, 8) := by simp [DS.begin, hf, ha]
        rw [he]
        rw [hb] at hbg
        obtain ⟨s, ops, armed, failing, dead⟩ := D
        dsimp only at hd'
        subst hd'
        refine spec_enter Try.func50 rfl rfl rfl fun u R => ?_
        simp only [argsE, List.cons_append, List.nil_append, refV, DS.tick, bv] at hth hbg ⊢
        repeat' (first | (refine tl_is (.func 59) ?_; refine qC rfl rfl (hth) ?_; rintro v ρ' L' hle ⟨rfl, rfl, rfl⟩ <;> (try simp only [List.cons_append, List.nil_append, List.append_eq])) | (refine tl_is (.func 60) ?_; refine qC rfl rfl (hbg) ?_; rintro v ρ' L' hle ⟨rfl, rfl, rfl⟩ <;> (try simp only [List.cons_append, List.nil_append, List.append_eq])) | (refine i_op ?_; first | (refine iMv ?_; refine qMv ?_) | (refine iLd ?_; refine qLd ?_) | (refine iFa ?_; refine qFa ?_) | (refine iAd ?_; refine qAd ?_) | (refine iSb ?_; refine qSb ?_) | (refine iMl ?_; refine qMl ?_) | (refine iRm ?_; refine qRm ?_) | (refine iQu ?_; refine qQu ?_) | (refine iSr ?_; refine qSr ?_) | (refine iSh ?_; refine qSh ?_) | (refine iCm ?_; refine qCm ?_) | (refine iEx ?_; refine qEx ?_) | (refine iAs ?_; refine qAs ?_) | (refine iPk ?_; refine qPk ?_) | (refine iNc ?_; refine qNc ?_) | (refine iIa ?_; refine qIa ?_) | (refine iCv ?_; refine qCv ?_) | (refine iBi ?_; refine qBi ?_) | (refine iUn ?_; refine qUn ?_) | (refine iFl ?_; refine qFl ?_) | (refine iLu ?_; refine qLu ?_) | (refine iBu ?_; refine qBu ?_) | (refine iSl ?_; refine qSl ?_) | (refine iMf ?_; refine qMf ?_) | (refine iMi ?_; refine qMi ?_) | (refine iTa ?_; refine qTa ?_) | (refine iSt ?_; refine qSt ?_) | (refine iAl ?_; first | refine qAlA (fun _ => ?_) | refine qAlS (fun _ => ?_)) | (refine iBx ?_; first | refine qBxA (fun _ => ?_) | refine qBxS (fun _ => ?_)) | (refine iMm ?_; refine qMm (fun _ => ?_)) | (refine iBs ?_; refine qBs (fun _ => ?_)) | (refine i_gd ?_; first | refine qWant ?_ | refine qSkip ?_ | refine qSkip0 ?_ | refine qSkipU ?_)) | refine tl_nil ?_ | refine tc_seq ?_ | refine tc_region ?_ | refine te_seq ?_ | (refine i_cond ?_; first | refine qCt ?_ | refine qCf ?_) | refine tc_block ?_ | refine te_block_normal ?_ | refine te_block_ret ?_ | refine te_then_ret ?_ | refine te_block_hit ?_ | (refine i_miss ?_; refine qMiss ?_) | refine te_then_exit ?_ | refine tc_exit ?_ | refine tc_ret ?_ | refine tc_skip ?_)
        exact qE ⟨Hp.le_refl _, a, cap, rfl, hR, rfl⟩
      · have key : ∃ o1 a1 f1 d1 e, D.begin false = (⟨D.secs, o1, a1, f1, d1⟩, e) ∧ D.write k blk = (⟨D.secs.set k (D.secs[k].1, some blk), o1, a1, f1, d1⟩, e) ∧ (e = 9 ∨ e = 0) := by
          by_cases ha : D.armed = 0
          · refine ⟨D.tick.ops, D.tick.armed, D.tick.failing, true, 9, ?_, ?_, .inl rfl⟩
            · simp [DS.begin, ha, DS.tick]
            · simp only [DS.write, hd', Bool.false_eq_true, if_false, hn, ha, if_true, Int.toNat_natCast, putC_set hk]
          · have hf' : ¬ D.failing = 0 := fun h => hf ⟨ha, h⟩
            refine ⟨D.tick.ops, cnt D.armed, D.tick.failing, D.dead, 0, ?_, ?_, .inr rfl⟩
            · simp [DS.begin, ha, hf', DS.tick]
            · simp only [DS.write, hd', Bool.false_eq_true, if_false, hn, ha, hf', Int.toNat_natCast, putC_set hk, DS.tick]
        obtain ⟨o1, a1, f1, d1, e, hb, hw, hecase⟩ := key
        rw [hw]
        rw [hb] at hbg
        obtain ⟨_, rb, sp, T, rfl, hrb⟩ := hR
        have hwith := fun ρ' hR' => with_spec ρ' ⟨D.secs, o1, a1, f1, d1⟩ (some ⟨rb, 0, none⟩) cap hR' k hk (D.secs[k].1, some blk) hheld (by intro c hc; simp only [Option.some.injEq] at hc; subst hc; exact hb64)
        have hR0 : RefIn ρ (some ⟨rb, 0, none⟩) cap D.secs := ⟨hs, rb, sp, T, rfl, hrb⟩
        have hcl : (secC D.secs ++ sp).length = D.secs.length * 129 + sp.length := by rw [List.length_append, secC_length hs]
        have hg2 : ((secC D.secs ++ sp).drop (0 + k * 129 + 0)).take 64 = D.secs[k].1.map u8c := by
          rw [← hgh, ← hget sp, Nat.add_zero, List.drop_zero, List.take_take]; rfl
        have hho := u8c_one D.secs[k].1
        generalize secV (D.secs[k].1, some blk) = SV at *
        generalize secC D.secs ++ sp = SC at *
        obtain ⟨s, ops, armed, failing, dead⟩ := D
        dsimp only at hd' hcl hk hg2 hho hR0 hhl
        subst hd'
        refine spec_enter Try.func50 rfl rfl rfl fun u R => ?_
        simp only [argsE, List.cons_append, List.nil_append, refV, bv] at hth hbg hwith hbuild ⊢
        refine tc_seq ?_; refine tc_region ?_; refine qBxA (fun b3 => ?_); refine qBxA (fun b5 => ?_)
        rcases hecase with rfl | rfl
        all_goals (repeat' (first | (refine tl_is (.func 59) ?_; refine qC rfl rfl (hth) ?_; rintro v ρ' L' hle ⟨rfl, rfl, rfl⟩ <;> (try simp only [List.cons_append, List.nil_append, List.append_eq])) | (refine tl_is (.func 60) ?_; refine qC rfl rfl (hbg) ?_; rintro v ρ' L' hle ⟨rfl, rfl, rfl⟩ <;> (try simp only [List.cons_append, List.nil_append, List.append_eq])) | (refine i_op ?_; first | (refine iMv ?_; refine qMv ?_) | (refine iLd ?_; refine qLd ?_) | (refine iFa ?_; refine qFa ?_) | (refine iAd ?_; refine qAd ?_) | (refine iSb ?_; refine qSb ?_) | (refine iMl ?_; refine qMl ?_) | (refine iRm ?_; refine qRm ?_) | (refine iQu ?_; refine qQu ?_) | (refine iSr ?_; refine qSr ?_) | (refine iSh ?_; refine qSh ?_) | (refine iCm ?_; refine qCm ?_) | (refine iEx ?_; refine qEx ?_) | (refine iAs ?_; refine qAs ?_) | (refine iPk ?_; refine qPk ?_) | (refine iNc ?_; refine qNc ?_) | (refine iIa ?_; refine qIa ?_) | (refine iCv ?_; refine qCv ?_) | (refine iBi ?_; refine qBi ?_) | (refine iUn ?_; refine qUn ?_) | (refine iFl ?_; refine qFl ?_) | (refine iLu ?_; refine qLu ?_) | (refine iBu ?_; refine qBu ?_) | (refine iSl ?_; refine qSl ?_) | (refine iMf ?_; refine qMf ?_) | (refine iMi ?_; refine qMi ?_) | (refine iTa ?_; refine qTa ?_) | (refine iSt ?_; refine qSt ?_) | (refine iAl ?_; first | refine qAlA (fun _ => ?_) | refine qAlS (fun _ => ?_)) | (refine iBx ?_; first | refine qBxA (fun _ => ?_) | refine qBxS (fun _ => ?_)) | (refine iMm ?_; refine qMm (fun _ => ?_)) | (refine iBs ?_; refine qBs (fun _ => ?_)) | (refine i_gd ?_; first | refine qWant ?_ | refine qSkip ?_ | refine qSkip0 ?_ | refine qSkipU ?_)) | refine tl_nil ?_ | refine tc_seq ?_ | refine tc_region ?_ | refine te_seq ?_ | (refine i_cond ?_; first | refine qCt ?_ | refine qCf ?_) | refine tc_block ?_ | refine te_block_normal ?_ | refine te_block_ret ?_ | refine te_then_ret ?_ | refine te_block_hit ?_ | (refine i_miss ?_; refine qMiss ?_) | refine te_then_exit ?_ | refine tc_exit ?_ | refine tc_ret ?_ | refine tc_skip ?_))
        · refine tc_any (Stays _ _ ([[(b3, .cells ⟨[.slice (some ⟨rb, 0, none⟩) s.length cap, .int .i64 o1, .int .i64 a1, .int .i64 f1, .bool d1]⟩ 60 (0, 0))],[(b5, .cells ⟨blk.map u8c⟩ 34 (0, 0))]])) (stays_of (Hp.le_refl _)) ?_
          all_goals refine rLd 0 ?_
          all_goals refine rMv 1 ?_
          all_goals refine rFa 2 ?_
          all_goals refine rLd 3 ?_
          all_goals refine rMv 4 ?_
          all_goals refine rIa 5 ?_
          all_goals refine rFa 6 ?_
          all_goals refine rLd 7 ?_
          all_goals refine rLd 8 ?_
          all_goals refine rBu 9 ?_
          all_goals refine rMv 11 ?_
          all_goals (refine rStep (i := 10) ?_; ((try refine qWant ?_); (first | (refine tl_is (.func 62) ?_; refine qC rfl rfl (hwith _ hR0) ?_; rintro v ρ' L' hle ⟨hle, a', cap', rfl, hR', rfl⟩ <;> (try simp only [List.cons_append, List.nil_append, List.append_eq])) | (refine iSt ?_; refine qSt ?_) | (refine iAl ?_; first | refine qAlA (fun _ => ?_) | refine qAlS (fun _ => ?_)) | (refine iBx ?_; first | refine qBxA (fun _ => ?_) | refine qBxS (fun _ => ?_)) | (refine iMm ?_; refine qMm (fun _ => ?_)) | (refine iBs ?_; refine qBs (fun _ => ?_))); (try simp only [List.cons_append, List.nil_append, List.append_eq]); refine tl_nil ?_; refine rNext ?_))
          all_goals (refine rStep (i := 12) ?_; ((try refine qWant ?_); (first | (refine tl_is (.func 62) ?_; refine qC rfl rfl (hwith _ hR0) ?_; rintro v ρ' L' hle ⟨hle, a', cap', rfl, hR', rfl⟩ <;> (try simp only [List.cons_append, List.nil_append, List.append_eq])) | (refine iSt ?_; refine qSt ?_) | (refine iAl ?_; first | refine qAlA (fun _ => ?_) | refine qAlS (fun _ => ?_)) | (refine iBx ?_; first | refine qBxA (fun _ => ?_) | refine qBxS (fun _ => ?_)) | (refine iMm ?_; refine qMm (fun _ => ?_)) | (refine iBs ?_; refine qBs (fun _ => ?_))); (try simp only [List.cons_append, List.nil_append, List.append_eq]); refine tl_nil ?_; refine rNext ?_))
          all_goals refine rFull ?_
          all_goals refine rAs 13 ?_
          all_goals refine rDone ?_
          repeat' (first | (refine i_op ?_; first | (refine iMv ?_; refine qMv ?_) | (refine iLd ?_; refine qLd ?_) | (refine iFa ?_; refine qFa ?_) | (refine iAd ?_; refine qAd ?_) | (refine iSb ?_; refine qSb ?_) | (refine iMl ?_; refine qMl ?_) | (refine iRm ?_; refine qRm ?_) | (refine iQu ?_; refine qQu ?_) | (refine iSr ?_; refine qSr ?_) | (refine iSh ?_; refine qSh ?_) | (refine iCm ?_; refine qCm ?_) | (refine iEx ?_; refine qEx ?_) | (refine iAs ?_; refine qAs ?_) | (refine iPk ?_; refine qPk ?_) | (refine iNc ?_; refine qNc ?_) | (refine iIa ?_; refine qIa ?_) | (refine iCv ?_; refine qCv ?_) | (refine iBi ?_; refine qBi ?_) | (refine iUn ?_; refine qUn ?_) | (refine iFl ?_; refine qFl ?_) | (refine iLu ?_; refine qLu ?_) | (refine iBu ?_; refine qBu ?_) | (refine iSl ?_; refine qSl ?_) | (refine iMf ?_; refine qMf ?_) | (refine iMi ?_; refine qMi ?_) | (refine iTa ?_; refine qTa ?_) | (refine iSt ?_; refine qSt ?_) | (refine iAl ?_; first | refine qAlA (fun _ => ?_) | refine qAlS (fun _ => ?_)) | (refine iBx ?_; first | refine qBxA (fun _ => ?_) | refine qBxS (fun _ => ?_)) | (refine iMm ?_; refine qMm (fun _ => ?_)) | (refine iBs ?_; refine qBs (fun _ => ?_)) | (refine i_gd ?_; first | refine qWant ?_ | refine qSkip ?_ | refine qSkip0 ?_ | refine qSkipU ?_)) | refine tl_nil ?_ | refine tc_seq ?_ | refine tc_region ?_ | refine te_seq ?_ | (refine i_cond ?_; first | refine qCt ?_ | refine qCf ?_) | refine tc_block ?_ | refine te_block_normal ?_ | refine te_block_ret ?_ | refine te_then_ret ?_ | refine te_block_hit ?_ | (refine i_miss ?_; refine qMiss ?_) | refine te_then_exit ?_ | refine tc_exit ?_ | refine tc_ret ?_ | refine tc_skip ?_)
          exact qE ⟨hle, a', cap', rfl, hR', rfl⟩
        · refine tc_any (Stays _ _ ([[(b3, .cells ⟨[.slice (some ⟨rb, 0, none⟩) s.length cap, .int .i64 o1, .int .i64 a1, .int .i64 f1, .bool d1]⟩ 60 (0, 0))],[(b5, .cells ⟨blk.map u8c⟩ 34 (0, 0))]])) (stays_of (Hp.le_refl _)) ?_
          all_goals refine rLd 0 ?_
          all_goals refine rMv 1 ?_
          all_goals refine rFa 2 ?_
          all_goals refine rLd 3 ?_
          all_goals refine rMv 4 ?_
          all_goals refine rIa 5 ?_
          all_goals refine rFa 6 ?_
          all_goals refine rLd 7 ?_
          all_goals refine rLd 8 ?_
          all_goals refine rBu 9 ?_
          all_goals refine rMv 11 ?_
          all_goals (refine rStep (i := 10) ?_; ((try refine qWant ?_); (first | (refine tl_is (.func 62) ?_; refine qC rfl rfl (hwith _ hR0) ?_; rintro v ρ' L' hle ⟨hle, a', cap', rfl, hR', rfl⟩ <;> (try simp only [List.cons_append, List.nil_append, List.append_eq])) | (refine iSt ?_; refine qSt ?_) | (refine iAl ?_; first | refine qAlA (fun _ => ?_) | refine qAlS (fun _ => ?_)) | (refine iBx ?_; first | refine qBxA (fun _ => ?_) | refine qBxS (fun _ => ?_)) | (refine iMm ?_; refine qMm (fun _ => ?_)) | (refine iBs ?_; refine qBs (fun _ => ?_))); (try simp only [List.cons_append, List.nil_append, List.append_eq]); refine tl_nil ?_; refine rNext ?_))
          all_goals (refine rStep (i := 12) ?_; ((try refine qWant ?_); (first | (refine tl_is (.func 62) ?_; refine qC rfl rfl (hwith _ hR0) ?_; rintro v ρ' L' hle ⟨hle, a', cap', rfl, hR', rfl⟩ <;> (try simp only [List.cons_append, List.nil_append, List.append_eq])) | (refine iSt ?_; refine qSt ?_) | (refine iAl ?_; first | refine qAlA (fun _ => ?_) | refine qAlS (fun _ => ?_)) | (refine iBx ?_; first | refine qBxA (fun _ => ?_) | refine qBxS (fun _ => ?_)) | (refine iMm ?_; refine qMm (fun _ => ?_)) | (refine iBs ?_; refine qBs (fun _ => ?_))); (try simp only [List.cons_append, List.nil_append, List.append_eq]); refine tl_nil ?_; refine rNext ?_))
          all_goals refine rFull ?_
          all_goals refine rAs 13 ?_
          all_goals refine rDone ?_
          repeat' (first | (refine i_op ?_; first | (refine iMv ?_; refine qMv ?_) | (refine iLd ?_; refine qLd ?_) | (refine iFa ?_; refine qFa ?_) | (refine iAd ?_; refine qAd ?_) | (refine iSb ?_; refine qSb ?_) | (refine iMl ?_; refine qMl ?_) | (refine iRm ?_; refine qRm ?_) | (refine iQu ?_; refine qQu ?_) | (refine iSr ?_; refine qSr ?_) | (refine iSh ?_; refine qSh ?_) | (refine iCm ?_; refine qCm ?_) | (refine iEx ?_; refine qEx ?_) | (refine iAs ?_; refine qAs ?_) | (refine iPk ?_; refine qPk ?_) | (refine iNc ?_; refine qNc ?_) | (refine iIa ?_; refine qIa ?_) | (refine iCv ?_; refine qCv ?_) | (refine iBi ?_; refine qBi ?_) | (refine iUn ?_; refine qUn ?_) | (refine iFl ?_; refine qFl ?_) | (refine iLu ?_; refine qLu ?_) | (refine iBu ?_; refine qBu ?_) | (refine iSl ?_; refine qSl ?_) | (refine iMf ?_; refine qMf ?_) | (refine iMi ?_; refine qMi ?_) | (refine iTa ?_; refine qTa ?_) | (refine iSt ?_; refine qSt ?_) | (refine iAl ?_; first | refine qAlA (fun _ => ?_) | refine qAlS (fun _ => ?_)) | (refine iBx ?_; first | refine qBxA (fun _ => ?_) | refine qBxS (fun _ => ?_)) | (refine iMm ?_; refine qMm (fun _ => ?_)) | (refine iBs ?_; refine qBs (fun _ => ?_)) | (refine i_gd ?_; first | refine qWant ?_ | refine qSkip ?_ | refine qSkip0 ?_ | refine qSkipU ?_)) | refine tl_nil ?_ | refine tc_seq ?_ | refine tc_region ?_ | refine te_seq ?_ | (refine i_cond ?_; first | refine qCt ?_ | refine qCf ?_) | refine tc_block ?_ | refine te_block_normal ?_ | refine te_block_ret ?_ | refine te_then_ret ?_ | refine te_block_hit ?_ | (refine i_miss ?_; refine qMiss ?_) | refine te_then_exit ?_ | refine tc_exit ?_ | refine tc_ret ?_ | refine tc_skip ?_)
          exact qE ⟨hle, a', cap', rfl, hR', rfl⟩
    · have hn : i < 0 ∨ (D.secs.length : Int) ≤ i := by omega
      have hdt : decide (0 ≤ i ∧ i < D.secs.length) = false := by simpa using hr
      rw [hdt] at hth
      have he : D.write i blk = (D, 2) := by simp only [DS.write, hd', Bool.false_eq_true, if_false, hn, if_true]
      rw [he]
      obtain ⟨s, ops, armed, failing, dead⟩ := D
      dsimp only at hd'
      subst hd'
      refine spec_enter Try.func50 rfl rfl rfl fun u R => ?_
      simp only [argsE, List.cons_append, List.nil_append, refV, bv] at hth ⊢
      repeat' (first | (refine tl_is (.func 59) ?_; refine qC rfl rfl (hth) ?_; rintro v ρ' L' hle ⟨rfl, rfl, rfl⟩ <;> (try simp only [List.cons_append, List.nil_append, List.append_eq])) | (refine i_op ?_; first | (refine iMv ?_; refine qMv ?_) | (refine iLd ?_; refine qLd ?_) | (refine iFa ?_; refine qFa ?_) | (refine iAd ?_; refine qAd ?_) | (refine iSb ?_; refine qSb ?_) | (refine iMl ?_; refine qMl ?_) | (refine iRm ?_; refine qRm ?_) | (refine iQu ?_; refine qQu ?_) | (refine iSr ?_; refine qSr ?_) | (refine iSh ?_; refine qSh ?_) | (refine iCm ?_; refine qCm ?_) | (refine iEx ?_; refine qEx ?_) | (refine iAs ?_; refine qAs ?_) | (refine iPk ?_; refine qPk ?_) | (refine iNc ?_; refine qNc ?_) | (refine iIa ?_; refine qIa ?_) | (refine iCv ?_; refine qCv ?_) | (refine iBi ?_; refine qBi ?_) | (refine iUn ?_; refine qUn ?_) | (refine iFl ?_; refine qFl ?_) | (refine iLu ?_; refine qLu ?_) | (refine iBu ?_; refine qBu ?_) | (refine iSl ?_; refine qSl ?_) | (refine iMf ?_; refine qMf ?_) | (refine iMi ?_; refine qMi ?_) | (refine iTa ?_; refine qTa ?_) | (refine iSt ?_; refine qSt ?_) | (refine iAl ?_; first | refine qAlA (fun _ => ?_) | refine qAlS (fun _ => ?_)) | (refine iBx ?_; first | refine qBxA (fun _ => ?_) | refine qBxS (fun _ => ?_)) | (refine iMm ?_; refine qMm (fun _ => ?_)) | (refine iBs ?_; refine qBs (fun _ => ?_)) | (refine i_gd ?_; first | refine qWant ?_ | refine qSkip ?_ | refine qSkip0 ?_ | refine qSkipU ?_)) | refine tl_nil ?_ | refine tc_seq ?_ | refine tc_region ?_ | refine te_seq ?_ | (refine i_cond ?_; first | refine qCt ?_ | refine qCf ?_) | refine tc_block ?_ | refine te_block_normal ?_ | refine te_block_ret ?_ | refine te_then_ret ?_ | refine te_block_hit ?_ | (refine i_miss ?_; refine qMiss ?_) | refine te_then_exit ?_ | refine tc_exit ?_ | refine tc_ret ?_ | refine tc_skip ?_)
      exact qE ⟨Hp.le_refl _, a, cap, rfl, hR, rfl⟩
end Go.Proofs.E

namespace Go.Proofs.E
open Go
set_option linter.unusedVariables false
set_option linter.unusedSimpArgs false
set_option linter.unusedSectionVars false
set_option maxRecDepth 4000
set_option maxHeartbeats 1000000
attribute [local irreducible] Yl TL TC TE Spec YSpec R1 Hp.le EnvLe TS TR YS Stays
theorem stc_stc {C A B : List Value} {o j : Nat} (h1 : o + A.length ≤ C.length) (h2 : j + B.length ≤ A.length) : stc (stc C o A) (o + j) B = stc C o (stc A j B) := by
  have h3 : (C.take o).length = o := by simp; omega
  have hl : (stc A j B).length = A.length := by simp [stc]; omega
  unfold stc at hl ⊢
  rw [hl]
  have e1 : List.take (o + j) (List.take o C ++ A ++ List.drop (o + A.length) C) = List.take o C ++ List.take j A := by
    rw [List.append_assoc, List.take_append, h3, List.take_of_length_le (by omega), Nat.add_sub_cancel_left, List.take_append_of_le_length (by omega)]
  have e2 : List.drop (o + j + B.length) (List.take o C ++ A ++ List.drop (o + A.length) C) = List.drop (j + B.length) A ++ List.drop (o + A.length) C := by
    rw [List.append_assoc, List.drop_append, h3, List.drop_eq_nil_of_le (by omega), List.nil_append, show o + j + B.length - o = j + B.length by omega, List.drop_append_of_le_length (by omega)]
  rw [e1, e2]
  simp
/-- the sectors of which the first k are settled -/
def midS (keep : Nat → Bool) (s : Secs) (k : Nat) : Secs := (settled keep s).take k ++ s.drop k
theorem midS_zero {keep s} : midS keep s 0 = s := by simp [midS]
theorem midS_all {keep s} : midS keep s s.length = settled keep s := by
  unfold midS
  rw [List.take_of_length_le (by rw [settled_length]; exact Nat.le_refl _), List.drop_length, List.append_nil]
theorem midS_length {keep s} {k : Nat} (hk : k ≤ s.length) : (midS keep s k).length = s.length := by
  simp only [midS, List.length_append, List.length_take, List.length_drop, settled_length]; omega
theorem midS_get {keep s} {k : Nat} (hk : k < s.length) (h' : k < (midS keep s k).length) : (midS keep s k)[k] = s[k] := by
  have hl : ((settled keep s).take k).length = k := by rw [List.length_take, settled_length]; omega
  have e : (midS keep s k)[k]? = some s[k] := by
    unfold midS
    rw [List.getElem?_append_right (by omega), hl, Nat.sub_self]
    simp [hk]
  exact (List.getElem?_eq_some_iff.1 e).2
theorem midS_succ {keep s} {k : Nat} (hk : k < s.length) : midS keep s (k + 1) = (midS keep s k).set k ((settled keep s)[k]'(by rw [settled_length]; exact hk)) := by
  have hs : k < (settled keep s).length := by rw [settled_length]; exact hk
  have hl : ((settled keep s).take k).length = k := by rw [List.length_take]; omega
  unfold midS
  rw [List.set_append_right _ _ (by omega), hl, Nat.sub_self, List.take_succ_eq_append_getElem hs, List.drop_eq_getElem_cons hk, List.set_cons_zero, List.append_assoc]
  rfl
theorem midS_ok {keep s} {k : Nat} (h : SecsOk s) (hk : k ≤ s.length) : SecsOk (midS keep s k) := by
  have hm : ∀ p ∈ midS keep s k, p ∈ settled keep s ∨ p ∈ s := fun p hp => by
    rcases List.mem_append.1 hp with hp | hp
    · exact .inl (List.mem_of_mem_take hp)
    · exact .inr (List.mem_of_mem_drop hp)
  refine ⟨by rw [midS_length hk]; exact h.len, by rw [midS_length hk]; exact h.pos, fun p hp => ?_, fun p hp c hc => ?_⟩
  · rcases hm p hp with hp | hp
    · exact h.settled.held p hp
    · exact h.held p hp
  · rcases hm p hp with hp | hp
    · exact h.settled.cached p hp c hc
    · exact h.cached p hp c hc
end Go.Proofs.E

namespace Go.Proofs.E
open Go
set_option linter.unusedVariables false
set_option linter.unusedSimpArgs false
set_option linter.unusedSectionVars false
set_option maxRecDepth 4000
set_option maxHeartbeats 1000000
attribute [local irreducible] Yl TL TC TE Spec YSpec R1 Hp.le EnvLe TS TR YS Stays
structure FlagsR (ρ : Hp) (all : Bool) (ka : Option Addr) (kn : Nat) (keep : Nat → Bool) : Prop where
  yes : all = true → ∀ n, keep n = true
  no : all = false → ∀ n, kn ≤ n → keep n = false
  at' : all = false → ∀ n, n < kn → ∃ kb off C T fr, ka = some ⟨kb, off, none⟩ ∧ ρ kb = some (.cells ⟨C⟩ T fr) ∧ C[off + n * 1]? = some (.bool (keep n))
theorem zcells : (List.replicate 64 (Value.int .u8 0) ++ [Value.bool false]) = ((none : Option Blk).getD zblk).map u8c ++ [.bool (none : Option Blk).isSome] := by rfl
theorem settledR_spec (ρ : Hp) (D : DS) (a : Option Addr) (cap : Nat) (hR : RefIn ρ a cap D.secs) (all : Bool) (ka : Option Addr) (kn kp : Nat) (hkn : kn ≤ 1000000) (keep : Nat → Bool) (hF : FlagsR ρ all ka kn keep) :
    Spec Try.prog 52 [.agg ⟨refV D a cap⟩, .bool all, .slice ka kn kp] ρ []
      (fun v ρ' L' => ρ.le ρ' ∧ ∃ a' cap', v = .agg ⟨refV { D with secs := settled keep D.secs } a' cap'⟩ ∧ RefIn ρ' a' cap' (settled keep D.secs) ∧ L' = []) := by
  obtain ⟨s, ops, armed, failing, dead⟩ := D
  obtain ⟨hs, b, sp, T, rfl, hb⟩ := hR
  dsimp only at hs hb ⊢
  have hlen := hs.len
  have hpos := hs.pos
  have hcl := secC_length hs
  have hsrc : ((secC s ++ sp).drop 0).take (s.length * 129) = secC s := by rw [List.drop_zero, List.take_left' hcl]
  refine spec_enter Try.func52 rfl rfl rfl fun u R => ?_
  simp only [argsE, List.cons_append, List.nil_append, refV, settled_length]
  repeat' (first | (refine i_op ?_; first | (refine iMv ?_; refine qMv ?_) | (refine iLd ?_; refine qLd ?_) | (refine iFa ?_; refine qFa ?_) | (refine iAd ?_; refine qAd ?_) | (refine iSb ?_; refine qSb ?_) | (refine iMl ?_; refine qMl ?_) | (refine iRm ?_; refine qRm ?_) | (refine iQu ?_; refine qQu ?_) | (refine iSr ?_; refine qSr ?_) | (refine iSh ?_; refine qSh ?_) | (refine iCm ?_; refine qCm ?_) | (refine iEx ?_; refine qEx ?_) | (refine iAs ?_; refine qAs ?_) | (refine iPk ?_; refine qPk ?_) | (refine iNc ?_; refine qNc ?_) | (refine iIa ?_; refine qIa ?_) | (refine iCv ?_; refine qCv ?_) | (refine iBi ?_; refine qBi ?_) | (refine iUn ?_; refine qUn ?_) | (refine iFl ?_; refine qFl ?_) | (refine iLu ?_; refine qLu ?_) | (refine iBu ?_; refine qBu ?_) | (refine iSl ?_; refine qSl ?_) | (refine iMf ?_; refine qMf ?_) | (refine iMi ?_; refine qMi ?_) | (refine iTa ?_; refine qTa ?_) | (refine iSt ?_; refine qSt ?_) | (refine iAl ?_; first | refine qAlA (fun _ => ?_) | refine qAlS (fun _ => ?_)) | (refine iBx ?_; first | refine qBxA (fun _ => ?_) | refine qBxS (fun _ => ?_)) | (refine iMm ?_; refine qMm (fun _ => ?_)) | (refine iBs ?_; refine qBs (fun _ => ?_)) | (refine i_gd ?_; first | refine qWant ?_ | refine qSkip ?_ | refine qSkip0 ?_ | refine qSkipU ?_)) | refine tl_nil ?_ | refine tc_seq ?_ | refine tc_region ?_ | refine te_seq ?_ | (refine i_cond ?_; first | refine qCt ?_ | refine qCf ?_) | refine tc_block ?_ | refine te_block_normal ?_ | refine te_block_ret ?_ | refine te_then_ret ?_ | refine te_block_hit ?_ | (refine i_miss ?_; refine qMiss ?_) | refine te_then_exit ?_ | refine tc_exit ?_ | refine tc_ret ?_ | refine tc_skip ?_)
  refine tl_append (n := 0) (xs := []) (sp := []) (ys := secC s) rfl rfl (OwnS.zero _ 129) (hR := rem_here') (Src.imm (n := s.length * 129) hb hsrc) hcl (secC_one s) hpos rfl (by omega) (by omega) rfl (fun v' sp' hown' => ?_)
  simp only [Nat.zero_add, List.nil_append] at hown' ⊢
  obtain ⟨b', cap', rfl⟩ := hown'.pos hpos
  simp only [ownC]
  repeat' (first | (refine i_op ?_; first | (refine iMv ?_; refine qMv ?_) | (refine iLd ?_; refine qLd ?_) | (refine iFa ?_; refine qFa ?_) | (refine iAd ?_; refine qAd ?_) | (refine iSb ?_; refine qSb ?_) | (refine iMl ?_; refine qMl ?_) | (refine iRm ?_; refine qRm ?_) | (refine iQu ?_; refine qQu ?_) | (refine iSr ?_; refine qSr ?_) | (refine iSh ?_; refine qSh ?_) | (refine iCm ?_; refine qCm ?_) | (refine iEx ?_; refine qEx ?_) | (refine iAs ?_; refine qAs ?_) | (refine iPk ?_; refine qPk ?_) | (refine iNc ?_; refine qNc ?_) | (refine iIa ?_; refine qIa ?_) | (refine iCv ?_; refine qCv ?_) | (refine iBi ?_; refine qBi ?_) | (refine iUn ?_; refine qUn ?_) | (refine iFl ?_; refine qFl ?_) | (refine iLu ?_; refine qLu ?_) | (refine iBu ?_; refine qBu ?_) | (refine iSl ?_; refine qSl ?_) | (refine iMf ?_; refine qMf ?_) | (refine iMi ?_; refine qMi ?_) | (refine iTa ?_; refine qTa ?_) | (refine iSt ?_; refine qSt ?_) | (refine iAl ?_; first | refine qAlA (fun _ => ?_) | refine qAlS (fun _ => ?_)) | (refine iBx ?_; first | refine qBxA (fun _ => ?_) | refine qBxS (fun _ => ?_)) | (refine iMm ?_; refine qMm (fun _ => ?_)) | (refine iBs ?_; refine qBs (fun _ => ?_)) | (refine i_gd ?_; first | refine qWant ?_ | refine qSkip ?_ | refine qSkip0 ?_ | refine qSkipU ?_)) | refine tl_nil ?_ | refine tc_seq ?_ | refine tc_region ?_ | refine te_seq ?_ | (refine i_cond ?_; first | refine qCt ?_ | refine qCf ?_) | refine tc_block ?_ | refine te_block_normal ?_ | refine te_block_ret ?_ | refine te_then_ret ?_ | refine te_block_hit ?_ | (refine i_miss ?_; refine qMiss ?_) | refine te_then_exit ?_ | refine tc_exit ?_ | refine tc_ret ?_ | refine tc_skip ?_)
  rename_i b3 b6 _
  refine tc_loop_e (fun (k : Nat) => ⟨[(17, .int .i64 k), (16, .int .i64 s.length), (15, .slice (some ⟨b', 0, none⟩) s.length cap'), (8, .int .i64 ((pendTo s k).length : Nat)), (7, .slice (some ⟨b', 0, none⟩) s.length cap'), (6, .pointer (some ⟨b6, 0, none⟩)), (3, .pointer (some ⟨b3, 0, none⟩)), (1, .bool all), (2, .slice ka kn kp)], ρ,
      [[(b', .cells ⟨secC (midS keep s k) ++ sp'⟩ 67 (0, 0))], [(b6, .cells ⟨[.slice none 0 0, .int .i64 0, .int .i64 0, .int .i64 0, .bool false]⟩ 60 (0, 0))], [(b3, .cells ⟨[.slice (some ⟨b, 0, none⟩) s.length cap, .int .i64 ops, .int .i64 armed, .int .i64 failing, .bool dead]⟩ 60 (0, 0))]] ++ R⟩)
    (fun k => k ≤ s.length) (fun k => s.length - k) 0 rfl (by omega) ev_le rfl (by rw [midS_zero]; exact tk) inferInstance ?_
  intro k hk
  simp only [List.cons_append, List.nil_append]
  have hmo := midS_ok (keep := keep) hs hk
  have hml := midS_length (keep := keep) hk
  have hcl' : (secC (midS keep s k) ++ sp').length = s.length * 129 + sp'.length := by rw [List.length_append, secC_length hmo, hml]
  by_cases hlt : k < s.length
  · have hkm : k < (midS keep s k).length := by omega
    have hget := secC_get hmo hkm sp'
    rw [midS_get hlt] at hget
    have hmem := List.getElem_mem hlt
    have hheld := hs.held s[k] hmem
    have hcached := hs.cached s[k] hmem
    have e1 := secV_is hheld hcached
    have e2 := secV_held hheld
    have e3 := secV_cached hheld hcached
    have hvl := secV_len hheld hcached
    have hvo := secV_one s[k]
    have hsucc := midS_succ (keep := keep) hlt
    rw [settled_at hlt] at hsucc
    have hst := fun q h1 h2 => secC_set hmo hkm sp' q h1 h2
    have hpl := pendTo_length s k
    cases hc : s[k].2 with
    | none =>
      have hp : isP s k = false := by simp [isP, hlt, hc]
      have hps := pendTo_succ_f hp
      rw [hp] at hsucc
      simp only [Bool.false_and, Bool.false_eq_true, if_false] at hsucc
      have hself : (s[k].1, (none : Option Blk)) = (midS keep s k)[k] := by rw [midS_get hlt, ← hc]
      rw [hself, List.set_getElem_self] at hsucc
      rw [hc] at e1
      simp only [Option.isSome_none] at e1
      generalize secV s[k] = SV at *
      rw [← hps]
      rw [← hsucc] at hget hcl' ⊢
      clear hsucc hst hmo
      generalize hSC : secC (midS keep s (k + 1)) ++ sp' = SC at *
      repeat' (first | (refine i_op ?_; first | (refine iMv ?_; refine qMv ?_) | (refine iLd ?_; refine qLd ?_) | (refine iFa ?_; refine qFa ?_) | (refine iAd ?_; refine qAd ?_) | (refine iSb ?_; refine qSb ?_) | (refine iMl ?_; refine qMl ?_) | (refine iRm ?_; refine qRm ?_) | (refine iQu ?_; refine qQu ?_) | (refine iSr ?_; refine qSr ?_) | (refine iSh ?_; refine qSh ?_) | (refine iCm ?_; refine qCm ?_) | (refine iEx ?_; refine qEx ?_) | (refine iAs ?_; refine qAs ?_) | (refine iPk ?_; refine qPk ?_) | (refine iNc ?_; refine qNc ?_) | (refine iIa ?_; refine qIa ?_) | (refine iCv ?_; refine qCv ?_) | (refine iBi ?_; refine qBi ?_) | (refine iUn ?_; refine qUn ?_) | (refine iFl ?_; refine qFl ?_) | (refine iLu ?_; refine qLu ?_) | (refine iBu ?_; refine qBu ?_) | (refine iSl ?_; refine qSl ?_) | (refine iMf ?_; refine qMf ?_) | (refine iMi ?_; refine qMi ?_) | (refine iTa ?_; refine qTa ?_) | (refine iSt ?_; refine qSt ?_) | (refine iAl ?_; first | refine qAlA (fun _ => ?_) | refine qAlS (fun _ => ?_)) | (refine iBx ?_; first | refine qBxA (fun _ => ?_) | refine qBxS (fun _ => ?_)) | (refine iMm ?_; refine qMm (fun _ => ?_)) | (refine iBs ?_; refine qBs (fun _ => ?_)) | (refine i_gd ?_; first | refine qWant ?_ | refine qSkip ?_ | refine qSkip0 ?_ | refine qSkipU ?_)) | refine tl_nil ?_ | refine tc_seq ?_ | refine tc_region ?_ | refine te_seq ?_ | (refine i_cond ?_; first | refine qCt ?_ | refine qCf ?_) | refine tc_block ?_ | refine te_block_normal ?_ | refine te_block_ret ?_ | refine te_then_ret ?_ | refine te_block_hit ?_ | (refine i_miss ?_; refine qMiss ?_) | refine te_then_exit ?_ | refine tc_exit ?_ | refine tc_ret ?_ | refine tc_skip ?_)
      refine te_round_e (Lm := [_, _, _]) (R := R) (k + 1) rfl (by omega) ev_le rfl (by rw [hSC]; exact tk) inferInstance (by omega)
    | some c =>
      have hp : isP s k = true := by simp [isP, hlt, hc]
      have hps := pendTo_succ_t hp
      rw [hp, hc] at hsucc
      simp only [Bool.true_and, Option.getD_some] at hsucc
      rw [hc] at e1 e3
      simp only [Option.isSome_some, Option.getD_some] at e1 e3
      have hc64 := hcached c hc
      have hpl2 : (pendTo s (k + 1)).length = (pendTo s k).length + 1 := by rw [hps]; simp
      have hh64 : (s[k].1.map u8c).length = 64 := by simpa using hheld
      have hcc64 : (c.map u8c).length = 64 := by simpa using hc64
      have hho := u8c_one s[k].1
      have hco := u8c_one c
      have hbuild := build_held (s[k].1.map u8c) hh64
      have hq1 : s[k].1.map u8c ++ (List.replicate 64 (Value.int .u8 0) ++ [Value.bool false]) = secV (s[k].1, none) := by rfl
      have hq2 : stc (secV (s[k].1, none)) 0 (c.map u8c) = secV (c, none) := by
        unfold secV stc
        rw [List.take_zero, List.nil_append, Nat.zero_add, hcc64, List.drop_left' hh64]
      have ht1 := hst (s[k].1, none) hheld (by intro x hx; cases hx)
      have ht2 := hst (c, none) hc64 (by intro x hx; cases hx)
      have hq3 : (secV (s[k].1, none)).length = 129 := secV_len hheld (by intro x hx; cases hx)
      have hqo := secV_one (s[k].1, none)
      have ht3 : stc (secC ((midS keep s k).set k (s[k].1, none)) ++ sp') (0 + k * 129 + 0) (c.map u8c) = secC ((midS keep s k).set k (c, none)) ++ sp' := by
        rw [← ht1, stc_stc (by rw [hcl', hq3]; omega) (by rw [hq3, hcc64]; omega), hq2, ht2]
      have hcl2 : (secC ((midS keep s k).set k (s[k].1, none)) ++ sp').length = s.length * 129 + sp'.length := by
        rw [← ht1]; simp only [stc, List.length_append, List.length_take, List.length_drop]; rw [List.length_append] at hcl'; omega
      rw [hq1] at hbuild
      generalize hSC : secC (midS keep s k) ++ sp' = SC at *
      generalize secV s[k] = SV at *
      generalize secV (s[k].1, none) = SN at *
      repeat' (first | (refine i_op ?_; first | (refine iMv ?_; refine qMv ?_) | (refine iLd ?_; refine qLd ?_) | (refine iFa ?_; refine qFa ?_) | (refine iAd ?_; refine qAd ?_) | (refine iSb ?_; refine qSb ?_) | (refine iMl ?_; refine qMl ?_) | (refine iRm ?_; refine qRm ?_) | (refine iQu ?_; refine qQu ?_) | (refine iSr ?_; refine qSr ?_) | (refine iSh ?_; refine qSh ?_) | (refine iCm ?_; refine qCm ?_) | (refine iEx ?_; refine qEx ?_) | (refine iAs ?_; refine qAs ?_) | (refine iPk ?_; refine qPk ?_) | (refine iNc ?_; refine qNc ?_) | (refine iIa ?_; refine qIa ?_) | (refine iCv ?_; refine qCv ?_) | (refine iBi ?_; refine qBi ?_) | (refine iUn ?_; refine qUn ?_) | (refine iFl ?_; refine qFl ?_) | (refine iLu ?_; refine qLu ?_) | (refine iBu ?_; refine qBu ?_) | (refine iSl ?_; refine qSl ?_) | (refine iMf ?_; refine qMf ?_) | (refine iMi ?_; refine qMi ?_) | (refine iTa ?_; refine qTa ?_) | (refine iSt ?_; refine qSt ?_) | (refine iAl ?_; first | refine qAlA (fun _ => ?_) | refine qAlS (fun _ => ?_)) | (refine iBx ?_; first | refine qBxA (fun _ => ?_) | refine qBxS (fun _ => ?_)) | (refine iMm ?_; refine qMm (fun _ => ?_)) | (refine iBs ?_; refine qBs (fun _ => ?_)) | (refine i_gd ?_; first | refine qWant ?_ | refine qSkip ?_ | refine qSkip0 ?_ | refine qSkipU ?_)) | refine tl_nil ?_ | refine tc_seq ?_ | refine tc_region ?_ | refine te_seq ?_ | (refine i_cond ?_; first | refine qCt ?_ | refine qCf ?_) | refine tc_block ?_ | refine te_block_normal ?_ | refine te_block_ret ?_ | refine te_then_ret ?_ | refine te_block_hit ?_ | (refine i_miss ?_; refine qMiss ?_) | refine te_then_exit ?_ | refine tc_exit ?_ | refine tc_ret ?_ | refine tc_skip ?_)
      rw [ht1]
      generalize hM1 : secC ((midS keep s k).set k (s[k].1, none)) ++ sp' = C1 at *
      generalize hnth : (pendTo s k).length = nth at *
      have hy := hF.yes
      have hn := hF.no
      have ha := hF.at'
      have r2 : keep nth = true → secC (midS keep s (k + 1)) ++ sp' = stc C1 (0 + k * 129 + 0) (c.map u8c) := fun h => by
        rw [hsucc, h, if_pos rfl, ht3]
      have r1 : keep nth = false → secC (midS keep s (k + 1)) ++ sp' = C1 := fun h => by
        rw [hsucc, h, if_neg (by decide), hM1]
      clear hsucc ht3 ht1 hst hbuild hmo hml hq2
      cases hall : all with
      | true =>
        have r := r2 (hy hall nth)
        repeat' (first | (refine i_op ?_; first | (refine iMv ?_; refine qMv ?_) | (refine iLd ?_; refine qLd ?_) | (refine iFa ?_; refine qFa ?_) | (refine iAd ?_; refine qAd ?_) | (refine iSb ?_; refine qSb ?_) | (refine iMl ?_; refine qMl ?_) | (refine iRm ?_; refine qRm ?_) | (refine iQu ?_; refine qQu ?_) | (refine iSr ?_; refine qSr ?_) | (refine iSh ?_; refine qSh ?_) | (refine iCm ?_; refine qCm ?_) | (refine iEx ?_; refine qEx ?_) | (refine iAs ?_; refine qAs ?_) | (refine iPk ?_; refine qPk ?_) | (refine iNc ?_; refine qNc ?_) | (refine iIa ?_; refine qIa ?_) | (refine iCv ?_; refine qCv ?_) | (refine iBi ?_; refine qBi ?_) | (refine iUn ?_; refine qUn ?_) | (refine iFl ?_; refine qFl ?_) | (refine iLu ?_; refine qLu ?_) | (refine iBu ?_; refine qBu ?_) | (refine iSl ?_; refine qSl ?_) | (refine iMf ?_; refine qMf ?_) | (refine iMi ?_; refine qMi ?_) | (refine iTa ?_; refine qTa ?_) | (refine iSt ?_; refine qSt ?_) | (refine iAl ?_; first | refine qAlA (fun _ => ?_) | refine qAlS (fun _ => ?_)) | (refine iBx ?_; first | refine qBxA (fun _ => ?_) | refine qBxS (fun _ => ?_)) | (refine iMm ?_; refine qMm (fun _ => ?_)) | (refine iBs ?_; refine qBs (fun _ => ?_)) | (refine i_gd ?_; first | refine qWant ?_ | refine qSkip ?_ | refine qSkip0 ?_ | refine qSkipU ?_)) | refine tl_nil ?_ | refine tc_seq ?_ | refine tc_region ?_ | refine te_seq ?_ | (refine i_cond ?_; first | refine qCt ?_ | refine qCf ?_) | refine tc_block ?_ | refine te_block_normal ?_ | refine te_block_ret ?_ | refine te_then_ret ?_ | refine te_block_hit ?_ | (refine i_miss ?_; refine qMiss ?_) | refine te_then_exit ?_ | refine tc_exit ?_ | refine tc_ret ?_ | refine tc_skip ?_)
        refine te_round_e (Lm := [_, _, _]) (R := R) (k + 1) rfl (by omega) (by rw [hpl2]; exact ev_le) rfl (by rw [r]; exact tk) inferInstance (by omega)
      | false =>
        by_cases hlt2 : nth < kn
        · obtain ⟨kb, off, C, T, fr, rfl, hC, hCi⟩ := ha hall nth hlt2
          cases hkp : keep nth with
          | true =>
            have r := r2 hkp
            rw [hkp] at hCi
            repeat' (first | (refine i_op ?_; first | (refine iMv ?_; refine qMv ?_) | (refine iLd ?_; refine qLd ?_) | (refine iFa ?_; refine qFa ?_) | (refine iAd ?_; refine qAd ?_) | (refine iSb ?_; refine qSb ?_) | (refine iMl ?_; refine qMl ?_) | (refine iRm ?_; refine qRm ?_) | (refine iQu ?_; refine qQu ?_) | (refine iSr ?_; refine qSr ?_) | (refine iSh ?_; refine qSh ?_) | (refine iCm ?_; refine qCm ?_) | (refine iEx ?_; refine qEx ?_) | (refine iAs ?_; refine qAs ?_) | (refine iPk ?_; refine qPk ?_) | (refine iNc ?_; refine qNc ?_) | (refine iIa ?_; refine qIa ?_) | (refine iCv ?_; refine qCv ?_) | (refine iBi ?_; refine qBi ?_) | (refine iUn ?_; refine qUn ?_) | (refine iFl ?_; refine qFl ?_) | (refine iLu ?_; refine qLu ?_) | (refine iBu ?_; refine qBu ?_) | (refine iSl ?_; refine qSl ?_) | (refine iMf ?_; refine qMf ?_) | (refine iMi ?_; refine qMi ?_) | (refine iTa ?_; refine qTa ?_) | (refine iSt ?_; refine qSt ?_) | (refine iAl ?_; first | refine qAlA (fun _ => ?_) | refine qAlS (fun _ => ?_)) | (refine iBx ?_; first | refine qBxA (fun _ => ?_) | refine qBxS (fun _ => ?_)) | (refine iMm ?_; refine qMm (fun _ => ?_)) | (refine iBs ?_; refine qBs (fun _ => ?_)) | (refine i_gd ?_; first | refine qWant ?_ | refine qSkip ?_ | refine qSkip0 ?_ | refine qSkipU ?_)) | refine tl_nil ?_ | refine tc_seq ?_ | refine tc_region ?_ | refine te_seq ?_ | (refine i_cond ?_; first | refine qCt ?_ | refine qCf ?_) | refine tc_block ?_ | refine te_block_normal ?_ | refine te_block_ret ?_ | refine te_then_ret ?_ | refine te_block_hit ?_ | (refine i_miss ?_; refine qMiss ?_) | refine te_then_exit ?_ | refine tc_exit ?_ | refine tc_ret ?_ | refine tc_skip ?_)
            refine te_round_e (Lm := [_, _, _]) (R := R) (k + 1) rfl (by omega) (by rw [hpl2]; exact ev_le) rfl (by rw [r]; exact tk) inferInstance (by omega)
          | false =>
            have r := r1 hkp
            rw [hkp] at hCi
            repeat' (first | (refine i_op ?_; first | (refine iMv ?_; refine qMv ?_) | (refine iLd ?_; refine qLd ?_) | (refine iFa ?_; refine qFa ?_) | (refine iAd ?_; refine qAd ?_) | (refine iSb ?_; refine qSb ?_) | (refine iMl ?_; refine qMl ?_) | (refine iRm ?_; refine qRm ?_) | (refine iQu ?_; refine qQu ?_) | (refine iSr ?_; refine qSr ?_) | (refine iSh ?_; refine qSh ?_) | (refine iCm ?_; refine qCm ?_) | (refine iEx ?_; refine qEx ?_) | (refine iAs ?_; refine qAs ?_) | (refine iPk ?_; refine qPk ?_) | (refine iNc ?_; refine qNc ?_) | (refine iIa ?_; refine qIa ?_) | (refine iCv ?_; refine qCv ?_) | (refine iBi ?_; refine qBi ?_) | (refine iUn ?_; refine qUn ?_) | (refine iFl ?_; refine qFl ?_) | (refine iLu ?_; refine qLu ?_) | (refine iBu ?_; refine qBu ?_) | (refine iSl ?_; refine qSl ?_) | (refine iMf ?_; refine qMf ?_) | (refine iMi ?_; refine qMi ?_) | (refine iTa ?_; refine qTa ?_) | (refine iSt ?_; refine qSt ?_) | (refine iAl ?_; first | refine qAlA (fun _ => ?_) | refine qAlS (fun _ => ?_)) | (refine iBx ?_; first | refine qBxA (fun _ => ?_) | refine qBxS (fun _ => ?_)) | (refine iMm ?_; refine qMm (fun _ => ?_)) | (refine iBs ?_; refine qBs (fun _ => ?_)) | (refine i_gd ?_; first | refine qWant ?_ | refine qSkip ?_ | refine qSkip0 ?_ | refine qSkipU ?_)) | refine tl_nil ?_ | refine tc_seq ?_ | refine tc_region ?_ | refine te_seq ?_ | (refine i_cond ?_; first | refine qCt ?_ | refine qCf ?_) | refine tc_block ?_ | refine te_block_normal ?_ | refine te_block_ret ?_ | refine te_then_ret ?_ | refine te_block_hit ?_ | (refine i_miss ?_; refine qMiss ?_) | refine te_then_exit ?_ | refine tc_exit ?_ | refine tc_ret ?_ | refine tc_skip ?_)
            refine te_round_e (Lm := [_, _, _]) (R := R) (k + 1) rfl (by omega) (by rw [hpl2]; exact ev_le) rfl (by rw [r]; exact tk) inferInstance (by omega)
        · have r := r1 (hn hall nth (by omega))
          repeat' (first | (refine i_op ?_; first | (refine iMv ?_; refine qMv ?_) | (refine iLd ?_; refine qLd ?_) | (refine iFa ?_; refine qFa ?_) | (refine iAd ?_; refine qAd ?_) | (refine iSb ?_; refine qSb ?_) | (refine iMl ?_; refine qMl ?_) | (refine iRm ?_; refine qRm ?_) | (refine iQu ?_; refine qQu ?_) | (refine iSr ?_; refine qSr ?_) | (refine iSh ?_; refine qSh ?_) | (refine iCm ?_; refine qCm ?_) | (refine iEx ?_; refine qEx ?_) | (refine iAs ?_; refine qAs ?_) | (refine iPk ?_; refine qPk ?_) | (refine iNc ?_; refine qNc ?_) | (refine iIa ?_; refine qIa ?_) | (refine iCv ?_; refine qCv ?_) | (refine iBi ?_; refine qBi ?_) | (refine iUn ?_; refine qUn ?_) | (refine iFl ?_; refine qFl ?_) | (refine iLu ?_; refine qLu ?_) | (refine iBu ?_; refine qBu ?_) | (refine iSl ?_; refine qSl ?_) | (refine iMf ?_; refine qMf ?_) | (refine iMi ?_; refine qMi ?_) | (refine iTa ?_; refine qTa ?_) | (refine iSt ?_; refine qSt ?_) | (refine iAl ?_; first | refine qAlA (fun _ => ?_) | refine qAlS (fun _ => ?_)) | (refine iBx ?_; first | refine qBxA (fun _ => ?_) | refine qBxS (fun _ => ?_)) | (refine iMm ?_; refine qMm (fun _ => ?_)) | (refine iBs ?_; refine qBs (fun _ => ?_)) | (refine i_gd ?_; first | refine qWant ?_ | refine qSkip ?_ | refine qSkip0 ?_ | refine qSkipU ?_)) | refine tl_nil ?_ | refine tc_seq ?_ | refine tc_region ?_ | refine te_seq ?_ | (refine i_cond ?_; first | refine qCt ?_ | refine qCf ?_) | refine tc_block ?_ | refine te_block_normal ?_ | refine te_block_ret ?_ | refine te_then_ret ?_ | refine te_block_hit ?_ | (refine i_miss ?_; refine qMiss ?_) | refine te_then_exit ?_ | refine tc_exit ?_ | refine tc_ret ?_ | refine tc_skip ?_)
          refine te_round_e (Lm := [_, _, _]) (R := R) (k + 1) rfl (by omega) (by rw [hpl2]; exact ev_le) rfl (by rw [r]; exact tk) inferInstance (by omega)
  · have hkn : k = s.length := by omega
    subst hkn
    rw [midS_all] at hcl' ⊢
    repeat' (first | (refine i_op ?_; first | (refine iMv ?_; refine qMv ?_) | (refine iLd ?_; refine qLd ?_) | (refine iFa ?_; refine qFa ?_) | (refine iAd ?_; refine qAd ?_) | (refine iSb ?_; refine qSb ?_) | (refine iMl ?_; refine qMl ?_) | (refine iRm ?_; refine qRm ?_) | (refine iQu ?_; refine qQu ?_) | (refine iSr ?_; refine qSr ?_) | (refine iSh ?_; refine qSh ?_) | (refine iCm ?_; refine qCm ?_) | (refine iEx ?_; refine qEx ?_) | (refine iAs ?_; refine qAs ?_) | (refine iPk ?_; refine qPk ?_) | (refine iNc ?_; refine qNc ?_) | (refine iIa ?_; refine qIa ?_) | (refine iCv ?_; refine qCv ?_) | (refine iBi ?_; refine qBi ?_) | (refine iUn ?_; refine qUn ?_) | (refine iFl ?_; refine qFl ?_) | (refine iLu ?_; refine qLu ?_) | (refine iBu ?_; refine qBu ?_) | (refine iSl ?_; refine qSl ?_) | (refine iMf ?_; refine qMf ?_) | (refine iMi ?_; refine qMi ?_) | (refine iTa ?_; refine qTa ?_) | (refine iSt ?_; refine qSt ?_) | (refine iAl ?_; first | refine qAlA (fun _ => ?_) | refine qAlS (fun _ => ?_)) | (refine iBx ?_; first | refine qBxA (fun _ => ?_) | refine qBxS (fun _ => ?_)) | (refine iMm ?_; refine qMm (fun _ => ?_)) | (refine iBs ?_; refine qBs (fun _ => ?_)) | (refine i_gd ?_; first | refine qWant ?_ | refine qSkip ?_ | refine qSkip0 ?_ | refine qSkipU ?_)) | refine tl_nil ?_ | refine tc_seq ?_ | refine tc_region ?_ | refine te_seq ?_ | (refine i_cond ?_; first | refine qCt ?_ | refine qCf ?_) | refine tc_block ?_ | refine te_block_normal ?_ | refine te_block_ret ?_ | refine te_then_ret ?_ | refine te_block_hit ?_ | (refine i_miss ?_; refine qMiss ?_) | refine te_then_exit ?_ | refine tc_exit ?_ | refine tc_ret ?_ | refine tc_skip ?_)
    refine te_freeze [(b', .cells ⟨secC (settled keep s) ++ sp'⟩ 67 (0, 0))] (fun ρ' hle hfz => ?_)
    have hb' := hfz _ (List.mem_singleton.2 rfl)
    exact qE (L' := []) ⟨hle, some ⟨b', 0, none⟩, cap', rfl, ⟨hs.settled, b', sp', 67, rfl, hb'⟩, rfl⟩
end Go.Proofs.E

namespace Go.Proofs.E
open Go
set_option linter.unusedVariables false
set_option linter.unusedSimpArgs false
set_option linter.unusedSectionVars false
set_option maxRecDepth 4000
set_option maxHeartbeats 1000000
attribute [local irreducible] Yl TL TC TE Spec YSpec R1 Hp.le EnvLe TS TR YS Stays
theorem syncR_spec (ρ : Hp) (D : DS) (hD : D.Ok) (a : Option Addr) (cap : Nat) (hR : RefIn ρ a cap D.secs) :
    Spec Try.prog 49 [.agg ⟨refV D a cap⟩] ρ [] (fun v ρ' L' => ρ.le ρ' ∧ ∃ a' cap', v = .tuple ⟨[.agg ⟨refV D.sync.1 a' cap'⟩, .int .i64 D.sync.2]⟩ ∧ RefIn ρ' a' cap' D.sync.1.secs ∧ L' = []) := by
  have hbg := begin_spec ρ D hD a cap false
  have hse := fun (D' : DS) (h : D'.secs = D.secs) => settledR_spec ρ D' a cap (by rw [h]; exact hR) true none 0 0 (by omega) (fun _ => true) ⟨fun _ _ => rfl, (by intro h; cases h), (by intro h; cases h)⟩
  by_cases hd : D.dead = true
  · have he : D.sync = (D, 9) := by simp [DS.sync, hd]
    rw [he]
    obtain ⟨s, ops, armed, failing, dead⟩ := D
    dsimp only at hd
    subst hd
    refine spec_enter Try.func49 rfl rfl rfl fun u R => ?_
    simp only [argsE, List.cons_append, List.nil_append, refV]
    repeat' (first | (refine i_op ?_; first | (refine iMv ?_; refine qMv ?_) | (refine iLd ?_; refine qLd ?_) | (refine iFa ?_; refine qFa ?_) | (refine iAd ?_; refine qAd ?_) | (refine iSb ?_; refine qSb ?_) | (refine iMl ?_; refine qMl ?_) | (refine iRm ?_; refine qRm ?_) | (refine iQu ?_; refine qQu ?_) | (refine iSr ?_; refine qSr ?_) | (refine iSh ?_; refine qSh ?_) | (refine iCm ?_; refine qCm ?_) | (refine iEx ?_; refine qEx ?_) | (refine iAs ?_; refine qAs ?_) | (refine iPk ?_; refine qPk ?_) | (refine iNc ?_; refine qNc ?_) | (refine iIa ?_; refine qIa ?_) | (refine iCv ?_; refine qCv ?_) | (refine iBi ?_; refine qBi ?_) | (refine iUn ?_; refine qUn ?_) | (refine iFl ?_; refine qFl ?_) | (refine iLu ?_; refine qLu ?_) | (refine iBu ?_; refine qBu ?_) | (refine iSl ?_; refine qSl ?_) | (refine iMf ?_; refine qMf ?_) | (refine iMi ?_; refine qMi ?_) | (refine iTa ?_; refine qTa ?_) | (refine iSt ?_; refine qSt ?_) | (refine iAl ?_; first | refine qAlA (fun _ => ?_) | refine qAlS (fun _ => ?_)) | (refine iBx ?_; first | refine qBxA (fun _ => ?_) | refine qBxS (fun _ => ?_)) | (refine iMm ?_; refine qMm (fun _ => ?_)) | (refine iBs ?_; refine qBs (fun _ => ?_)) | (refine i_gd ?_; first | refine qWant ?_ | refine qSkip ?_ | refine qSkip0 ?_ | refine qSkipU ?_)) | refine tl_nil ?_ | refine tc_seq ?_ | refine tc_region ?_ | refine te_seq ?_ | (refine i_cond ?_; first | refine qCt ?_ | refine qCf ?_) | refine tc_block ?_ | refine te_block_normal ?_ | refine te_block_ret ?_ | refine te_then_ret ?_ | refine te_block_hit ?_ | (refine i_miss ?_; refine qMiss ?_) | refine te_then_exit ?_ | refine tc_exit ?_ | refine tc_ret ?_ | refine tc_skip ?_)
    exact qE ⟨Hp.le_refl _, a, cap, rfl, hR, rfl⟩
  · have hd' : D.dead = false := by simpa using hd
    have key : (∃ o1 a1 f1 d1 e, D.begin false = (⟨D.secs, o1, a1, f1, d1⟩, e) ∧ D.sync = (⟨D.secs, o1, a1, f1, d1⟩, e) ∧ (e = 9 ∨ e = 8)) ∨ (∃ o1 a1 f1 d1, D.begin false = (⟨D.secs, o1, a1, f1, d1⟩, 0) ∧ D.sync = (⟨settled (fun _ => true) D.secs, o1, a1, f1, d1⟩, 0)) := by
      by_cases ha : D.armed = 0
      · refine .inl ⟨D.tick.ops, D.tick.armed, D.tick.failing, true, 9, ?_, ?_, .inl rfl⟩
        · simp [DS.begin, ha, DS.tick]
        · simp [DS.sync, hd', ha, DS.tick]
      · by_cases hf : D.failing = 0
        · refine .inl ⟨D.tick.ops, D.tick.armed, D.tick.failing, D.tick.dead, 8, ?_, ?_, .inr rfl⟩
          · simp [DS.begin, ha, hf, DS.tick]
          · simp [DS.sync, hd', ha, hf, DS.tick]
        · refine .inr ⟨D.tick.ops, cnt D.armed, D.tick.failing, D.tick.dead, ?_, ?_⟩
          · simp [DS.begin, ha, hf, DS.tick]
          · simp [DS.sync, hd', ha, hf, DS.tick]
    rcases key with ⟨o1, a1, f1, d1, e, hb, hs, hcase⟩ | ⟨o1, a1, f1, d1, hb, hs⟩
    · rw [hs]
      rw [hb] at hbg
      obtain ⟨s, ops, armed, failing, dead⟩ := D
      dsimp only at hd'
      subst hd'
      refine spec_enter Try.func49 rfl rfl rfl fun u R => ?_
      simp only [argsE, List.cons_append, List.nil_append, refV] at hbg ⊢
      rcases hcase with rfl | rfl
      all_goals (repeat' (first | (refine tl_is (.func 60) ?_; refine qC rfl rfl (hbg) ?_; rintro v ρ' L' hle ⟨rfl, rfl, rfl⟩ <;> (try simp only [List.cons_append, List.nil_append, List.append_eq])) | (refine i_op ?_; first | (refine iMv ?_; refine qMv ?_) | (refine iLd ?_; refine qLd ?_) | (refine iFa ?_; refine qFa ?_) | (refine iAd ?_; refine qAd ?_) | (refine iSb ?_; refine qSb ?_) | (refine iMl ?_; refine qMl ?_) | (refine iRm ?_; refine qRm ?_) | (refine iQu ?_; refine qQu ?_) | (refine iSr ?_; refine qSr ?_) | (refine iSh ?_; refine qSh ?_) | (refine iCm ?_; refine qCm ?_) | (refine iEx ?_; refine qEx ?_) | (refine iAs ?_; refine qAs ?_) | (refine iPk ?_; refine qPk ?_) | (refine iNc ?_; refine qNc ?_) | (refine iIa ?_; refine qIa ?_) | (refine iCv ?_; refine qCv ?_) | (refine iBi ?_; refine qBi ?_) | (refine iUn ?_; refine qUn ?_) | (refine iFl ?_; refine qFl ?_) | (refine iLu ?_; refine qLu ?_) | (refine iBu ?_; refine qBu ?_) | (refine iSl ?_; refine qSl ?_) | (refine iMf ?_; refine qMf ?_) | (refine iMi ?_; refine qMi ?_) | (refine iTa ?_; refine qTa ?_) | (refine iSt ?_; refine qSt ?_) | (refine iAl ?_; first | refine qAlA (fun _ => ?_) | refine qAlS (fun _ => ?_)) | (refine iBx ?_; first | refine qBxA (fun _ => ?_) | refine qBxS (fun _ => ?_)) | (refine iMm ?_; refine qMm (fun _ => ?_)) | (refine iBs ?_; refine qBs (fun _ => ?_)) | (refine i_gd ?_; first | refine qWant ?_ | refine qSkip ?_ | refine qSkip0 ?_ | refine qSkipU ?_)) | refine tl_nil ?_ | refine tc_seq ?_ | refine tc_region ?_ | refine te_seq ?_ | (refine i_cond ?_; first | refine qCt ?_ | refine qCf ?_) | refine tc_block ?_ | refine te_block_normal ?_ | refine te_block_ret ?_ | refine te_then_ret ?_ | refine te_block_hit ?_ | (refine i_miss ?_; refine qMiss ?_) | refine te_then_exit ?_ | refine tc_exit ?_ | refine tc_ret ?_ | refine tc_skip ?_))
      all_goals exact qE ⟨Hp.le_refl _, a, cap, rfl, hR, rfl⟩
    · rw [hs]
      rw [hb] at hbg
      replace hse := hse ⟨D.secs, o1, a1, f1, d1⟩ rfl
      obtain ⟨s, ops, armed, failing, dead⟩ := D
      dsimp only at hd'
      subst hd'
      refine spec_enter Try.func49 rfl rfl rfl fun u R => ?_
      simp only [argsE, List.cons_append, List.nil_append, refV] at hbg hse ⊢
      repeat' (first | (refine tl_is (.func 60) ?_; refine qC rfl rfl (hbg) ?_; rintro v ρ' L' hle ⟨rfl, rfl, rfl⟩ <;> (try simp only [List.cons_append, List.nil_append, List.append_eq])) | (refine tl_is (.func 52) ?_; refine qC rfl rfl (hse) ?_; rintro v ρ' L' hle ⟨hle, a', cap', rfl, hR', rfl⟩ <;> (try simp only [List.cons_append, List.nil_append, List.append_eq])) | (refine i_op ?_; first | (refine iMv ?_; refine qMv ?_) | (refine iLd ?_; refine qLd ?_) | (refine iFa ?_; refine qFa ?_) | (refine iAd ?_; refine qAd ?_) | (refine iSb ?_; refine qSb ?_) | (refine iMl ?_; refine qMl ?_) | (refine iRm ?_; refine qRm ?_) | (refine iQu ?_; refine qQu ?_) | (refine iSr ?_; refine qSr ?_) | (refine iSh ?_; refine qSh ?_) | (refine iCm ?_; refine qCm ?_) | (refine iEx ?_; refine qEx ?_) | (refine iAs ?_; refine qAs ?_) | (refine iPk ?_; refine qPk ?_) | (refine iNc ?_; refine qNc ?_) | (refine iIa ?_; refine qIa ?_) | (refine iCv ?_; refine qCv ?_) | (refine iBi ?_; refine qBi ?_) | (refine iUn ?_; refine qUn ?_) | (refine iFl ?_; refine qFl ?_) | (refine iLu ?_; refine qLu ?_) | (refine iBu ?_; refine qBu ?_) | (refine iSl ?_; refine qSl ?_) | (refine iMf ?_; refine qMf ?_) | (refine iMi ?_; refine qMi ?_) | (refine iTa ?_; refine qTa ?_) | (refine iSt ?_; refine qSt ?_) | (refine iAl ?_; first | refine qAlA (fun _ => ?_) | refine qAlS (fun _ => ?_)) | (refine iBx ?_; first | refine qBxA (fun _ => ?_) | refine qBxS (fun _ => ?_)) | (refine iMm ?_; refine qMm (fun _ => ?_)) | (refine iBs ?_; refine qBs (fun _ => ?_)) | (refine i_gd ?_; first | refine qWant ?_ | refine qSkip ?_ | refine qSkip0 ?_ | refine qSkipU ?_)) | refine tl_nil ?_ | refine tc_seq ?_ | refine tc_region ?_ | refine te_seq ?_ | (refine i_cond ?_; first | refine qCt ?_ | refine qCf ?_) | refine tc_block ?_ | refine te_block_normal ?_ | refine te_block_ret ?_ | refine te_then_ret ?_ | refine te_block_hit ?_ | (refine i_miss ?_; refine qMiss ?_) | refine te_then_exit ?_ | refine tc_exit ?_ | refine tc_ret ?_ | refine tc_skip ?_)
      exact qE ⟨hle, a', cap', rfl, hR', rfl⟩
theorem crashR_spec (ρ : Hp) (D : DS) (a : Option Addr) (cap : Nat) (hR : RefIn ρ a cap D.secs) (ka : Option Addr) (kn kp : Nat) (hkn : kn ≤ 1000000) (keep : Nat → Bool) (hF : FlagsR ρ false ka kn keep) :
    Spec Try.prog 31 [.agg ⟨refV D a cap⟩, .slice ka kn kp] ρ [] (fun v ρ' L' => ρ.le ρ' ∧ ∃ a' cap', v = .agg ⟨refV (D.crash keep) a' cap'⟩ ∧ RefIn ρ' a' cap' (D.crash keep).secs ∧ L' = []) := by
  have hse := settledR_spec ρ D a cap hR false ka kn kp hkn keep hF
  obtain ⟨s, ops, armed, failing, dead⟩ := D
  refine spec_enter Try.func31 rfl rfl rfl fun u R => ?_
  simp only [argsE, List.cons_append, List.nil_append, refV, DS.crash] at hse ⊢
  repeat' (first | (refine tl_is (.func 52) ?_; refine qC rfl rfl (hse) ?_; rintro v ρ' L' hle ⟨hle, a', cap', rfl, hR', rfl⟩ <;> (try simp only [List.cons_append, List.nil_append, List.append_eq])) | (refine i_op ?_; first | (refine iMv ?_; refine qMv ?_) | (refine iLd ?_; refine qLd ?_) | (refine iFa ?_; refine qFa ?_) | (refine iAd ?_; refine qAd ?_) | (refine iSb ?_; refine qSb ?_) | (refine iMl ?_; refine qMl ?_) | (refine iRm ?_; refine qRm ?_) | (refine iQu ?_; refine qQu ?_) | (refine iSr ?_; refine qSr ?_) | (refine iSh ?_; refine qSh ?_) | (refine iCm ?_; refine qCm ?_) | (refine iEx ?_; refine qEx ?_) | (refine iAs ?_; refine qAs ?_) | (refine iPk ?_; refine qPk ?_) | (refine iNc ?_; refine qNc ?_) | (refine iIa ?_; refine qIa ?_) | (refine iCv ?_; refine qCv ?_) | (refine iBi ?_; refine qBi ?_) | (refine iUn ?_; refine qUn ?_) | (refine iFl ?_; refine qFl ?_) | (refine iLu ?_; refine qLu ?_) | (refine iBu ?_; refine qBu ?_) | (refine iSl ?_; refine qSl ?_) | (refine iMf ?_; refine qMf ?_) | (refine iMi ?_; refine qMi ?_) | (refine iTa ?_; refine qTa ?_) | (refine iSt ?_; refine qSt ?_) | (refine iAl ?_; first | refine qAlA (fun _ => ?_) | refine qAlS (fun _ => ?_)) | (refine iBx ?_; first | refine qBxA (fun _ => ?_) | refine qBxS (fun _ => ?_)) | (refine iMm ?_; refine qMm (fun _ => ?_)) | (refine iBs ?_; refine qBs (fun _ => ?_)) | (refine i_gd ?_; first | refine qWant ?_ | refine qSkip ?_ | refine qSkip0 ?_ | refine qSkipU ?_)) | refine tl_nil ?_ | refine tc_seq ?_ | refine tc_region ?_ | refine te_seq ?_ | (refine i_cond ?_; first | refine qCt ?_ | refine qCf ?_) | refine tc_block ?_ | refine te_block_normal ?_ | refine te_block_ret ?_ | refine te_then_ret ?_ | refine te_block_hit ?_ | (refine i_miss ?_; refine qMiss ?_) | refine te_then_exit ?_ | refine tc_exit ?_ | refine tc_ret ?_ | refine tc_skip ?_)
  exact qE ⟨hle, a', cap', rfl, hR', rfl⟩
end Go.Proofs.E

namespace Go.Proofs.E
open Go
set_option linter.unusedVariables false
set_option linter.unusedSimpArgs false
set_option linter.unusedSectionVars false
set_option maxRecDepth 4000
set_option maxHeartbeats 1000000
attribute [local irreducible] Yl TL TC TE Spec YSpec R1 Hp.le EnvLe TS TR YS Stays
theorem flat_rep_get {z : List Value} : ∀ (n i : Nat), i < n * z.length → ((List.replicate n z).flatten)[i]? = z[i % z.length]?
  | 0, i, h => by omega
  | n + 1, i, h => by
    rw [List.replicate_succ, List.flatten_cons]
    by_cases hi : i < z.length
    · rw [List.getElem?_append_left hi, Nat.mod_eq_of_lt hi]
    · rw [List.getElem?_append_right (by omega), flat_rep_get n (i - z.length) (by rw [Nat.add_mul] at h; omega), Nat.mod_eq_sub_mod (by omega : i ≥ z.length)]
theorem madeCells_flat (z : List Value) (n : Nat) (hz : 0 < z.length) : madeCells ⟨z⟩ (n * z.length) = ⟨(List.replicate n z).flatten⟩ := by
  apply Array.ext'
  apply List.ext_getElem?
  intro i
  have hl : ((List.replicate n z).flatten).length = n * z.length := by simp
  by_cases hi : i < n * z.length
  · have h3 : i % z.length < z.length := Nat.mod_lt _ hz
    rw [show (⟨(List.replicate n z).flatten⟩ : Array Value).toList = (List.replicate n z).flatten from rfl, flat_rep_get n i hi, List.getElem?_eq_getElem h3]
    simp [madeCells, hi, h3]
  · rw [List.getElem?_eq_none (by simp [madeCells]; omega), List.getElem?_eq_none (by rw [hl]; omega)]
theorem secZero : (List.replicate 128 (Value.int .u8 0) ++ [Value.bool false]) = secV (zblk, none) := by rfl
theorem newR_spec (ρ : Hp) (n : Nat) (h0 : 0 < n) (h1 : n ≤ 2048) : Spec Try.prog 28 [.int .i64 (n : Nat)] ρ [] (fun v ρ' L' => ρ.le ρ' ∧ ∃ a' cap', v = .agg ⟨refV (DS.new n) a' cap'⟩ ∧ RefIn ρ' a' cap' (DS.new n).secs ∧ L' = []) := by
  have hl : (DS.new n).secs.length = n := by simp [DS.new, fresh]
  have hC : (List.replicate n (secV (zblk, none))).flatten = secC (fresh n) := by simp [secC, fresh, List.map_replicate]
  have hz : (secV (zblk, none)).length = 129 := by rfl
  refine spec_enter Try.func28 rfl rfl rfl fun u R => ?_
  simp only [argsE, List.cons_append, List.nil_append, refV, hl]
  have hm : madeCells (Value.agg ⟨List.replicate 128 (Value.int .u8 0) ++ [Value.bool false]⟩).cells (n * 129) = ⟨secC (fresh n) ++ []⟩ := by
    rw [List.append_nil, ← hC, ← madeCells_flat _ n (by rw [hz]; omega), hz]; rfl
  repeat' (first | (refine tl_makeSlice rfl rfl (by omega) (by omega) (by omega) (by omega) rfl (fun hbn => ?_); simp only [Int.toNat_natCast, hm]) | (refine i_op ?_; first | (refine iMv ?_; refine qMv ?_) | (refine iLd ?_; refine qLd ?_) | (refine iFa ?_; refine qFa ?_) | (refine iAd ?_; refine qAd ?_) | (refine iSb ?_; refine qSb ?_) | (refine iMl ?_; refine qMl ?_) | (refine iRm ?_; refine qRm ?_) | (refine iQu ?_; refine qQu ?_) | (refine iSr ?_; refine qSr ?_) | (refine iSh ?_; refine qSh ?_) | (refine iCm ?_; refine qCm ?_) | (refine iEx ?_; refine qEx ?_) | (refine iAs ?_; refine qAs ?_) | (refine iPk ?_; refine qPk ?_) | (refine iNc ?_; refine qNc ?_) | (refine iIa ?_; refine qIa ?_) | (refine iCv ?_; refine qCv ?_) | (refine iBi ?_; refine qBi ?_) | (refine iUn ?_; refine qUn ?_) | (refine iFl ?_; refine qFl ?_) | (refine iLu ?_; refine qLu ?_) | (refine iBu ?_; refine qBu ?_) | (refine iSl ?_; refine qSl ?_) | (refine iMf ?_; refine qMf ?_) | (refine iMi ?_; refine qMi ?_) | (refine iTa ?_; refine qTa ?_) | (refine iSt ?_; refine qSt ?_) | (refine iAl ?_; first | refine qAlA (fun _ => ?_) | refine qAlS (fun _ => ?_)) | (refine iBx ?_; first | refine qBxA (fun _ => ?_) | refine qBxS (fun _ => ?_)) | (refine iMm ?_; refine qMm (fun _ => ?_)) | (refine iBs ?_; refine qBs (fun _ => ?_)) | (refine i_gd ?_; first | refine qWant ?_ | refine qSkip ?_ | refine qSkip0 ?_ | refine qSkipU ?_)) | refine tl_nil ?_ | refine tc_seq ?_ | refine tc_region ?_ | refine te_seq ?_ | (refine i_cond ?_; first | refine qCt ?_ | refine qCf ?_) | refine tc_block ?_ | refine te_block_normal ?_ | refine te_block_ret ?_ | refine te_then_ret ?_ | refine te_block_hit ?_ | (refine i_miss ?_; refine qMiss ?_) | refine te_then_exit ?_ | refine tc_exit ?_ | refine tc_ret ?_ | refine tc_skip ?_)
  rename_i hbn
  refine te_freeze [(hbn, .cells ⟨secC (fresh n) ++ []⟩ 67 (0, 0))] (fun ρ' hle hfz => ?_)
  have hb' := hfz _ (List.mem_singleton.2 rfl)
  exact qE (L' := []) ⟨hle, some ⟨hbn, 0, none⟩, n, rfl, ⟨fresh_ok h0 h1, hbn, [], 67, rfl, hb'⟩, rfl⟩
end Go.Proofs.E

namespace Go.Proofs.E
open Go
set_option linter.unusedVariables false
set_option linter.unusedSimpArgs false
set_option linter.unusedSectionVars false
set_option maxRecDepth 4000
set_option maxHeartbeats 1000000
attribute [local irreducible] Yl TL TC TE Spec YSpec R1 Hp.le EnvLe TS TR YS Stays
theorem flagsR_in {ρ : Hp} {ka : Option Addr} {kn kp : Nat} {ks : List Bool} (h : KeepIn ρ ka kn kp ks) : FlagsR ρ false ka kn (keepB ks) := by
  refine ⟨(fun h => by cases h), fun _ n hn => ?_, fun _ n hn => ?_⟩
  · have : ks[n]? = none := List.getElem?_eq_none (by rw [h.len]; omega)
    simp [keepB, this]
  · obtain ⟨kb, off, C, T, fr, h1, h2, h3⟩ := h.out.resolve_left (by omega)
    refine ⟨kb, off, C, T, fr, h1, h2, ?_⟩
    have h5 : n < ks.length := by rw [h.len]; exact hn
    have := congrArg (fun l : List Value => l[n]?) h3
    rw [List.getElem?_take_of_lt hn, List.getElem?_drop, List.getElem?_map, List.getElem?_eq_getElem h5] at this
    rw [Nat.mul_one, this]
    simp [keepB, bb, h5]
theorem keepIn_own {ρ : Hp} {v : Value} {n : Nat} {ks : List Bool} {sp : List Value} (hn : ks.length = n) (hb : n ≤ 9223372036854775807) (hown : OwnS v n (ks.map bb) sp 1) (hf : ∀ p ∈ ownC v (ks.map bb) sp 4, ρ p.1 = some p.2) :
    ∃ ka kp, v = .slice ka n kp ∧ KeepIn ρ ka n kp ks := by
  rcases hown.out with ⟨rfl, rfl, h2, h3⟩ | ⟨b, c, rfl, h2, h3, h4⟩
  · exact ⟨none, 0, rfl, Nat.le_refl _, hn, hb, .inl rfl⟩
  · refine ⟨some ⟨b, 0, none⟩, c, rfl, h4, hn, hb, .inr ⟨b, 0, _, 4, (0, 0), rfl, hf (b, _) (List.mem_singleton.2 rfl), ?_⟩⟩
    rw [List.drop_zero, List.take_left' (by simpa using hn)]
theorem blockR_at (ρ : Hp) (kind at' m : Int) (fill : UInt8) (ka : Option Addr) (kn kp : Nat) : Spec Try.prog 15 [.agg ⟨[.int .i64 kind, .int .i64 at', .int .i64 m, u8c fill, .slice ka kn kp]⟩] ρ [] (fun v ρ' L' => v = bv (fillB fill) ∧ ρ' = ρ ∧ L' = []) :=
  block_spec ρ ⟨kind, at', m, fill, ka, kn, kp⟩
theorem wants_spec (ρ : Hp) (D : DS) (hD : D.Ok) (a : Option Addr) (cap : Nat) (hR : RefIn ρ a cap D.secs) (o : OpV) (ks : List Bool) (hk : KeepIn ρ o.ka o.kn o.kp ks) :
    Spec Try.prog 29 [o.v, .agg ⟨refV D a cap⟩] ρ []
      (fun v ρ' L' => ρ.le ρ' ∧ ∃ a' cap', v = .tuple ⟨[.agg ⟨refV (D.run o ks).1 a' cap'⟩, bv (D.run o ks).2.1, .int .i64 (D.run o ks).2.2]⟩ ∧ RefIn ρ' a' cap' (D.run o ks).1.secs ∧ L' = []) := by
  obtain ⟨kind, at', n, fill, ka, kn, kp⟩ := o
  have hz0 : (List.replicate 64 (Value.int .u8 0)).length = 64 := by rfl
  have hz64 : (List.replicate 64 (Value.int .u8 0)).all (·.oneCell') = true := by rfl
  generalize hkd : opK ⟨kind, at', n, fill, ka, kn, kp⟩ = kd
  have hkd' := hkd
  simp only [opK] at hkd'
  by_cases h4 : kd = 4
  · subst h4
    have he : D.run ⟨kind, at', n, fill, ka, kn, kp⟩ ks = D.read at' := by simp [DS.run, hkd]
    simp only [he]
    have hrd := readR_spec ρ D hD a cap hR at'
    have hbl : ((D.read at').2.1.map u8c).length = 64 := by simpa using read_len hD at'
    have hone := u8c_one (D.read at').2.1
    have hsec := read_secs (D := D) at'
    have hRr : RefIn ρ a cap (D.read at').1.secs := by rw [hsec]; exact hR
    generalize (D.read at').1 = D2 at *
    generalize (D.read at').2.1 = W at *
    generalize (D.read at').2.2 = e at *
    obtain ⟨s, ops, armed, failing, dead⟩ := D
    obtain ⟨s2, ops2, armed2, failing2, dead2⟩ := D2
    refine spec_enter Try.func29 rfl rfl rfl fun u R => ?_
    simp only [argsE, List.cons_append, List.nil_append, OpV.v, OpV.cells, refV, bv] at hrd ⊢
    repeat' (first | (refine tl_is (.func 48) ?_; refine qC rfl rfl (hrd) ?_; rintro v ρ' L' hle ⟨rfl, rfl, rfl⟩ <;> (try simp only [List.cons_append, List.nil_append, List.append_eq])) | (refine i_op ?_; first | (refine iMv ?_; refine qMv ?_) | (refine iLd ?_; refine qLd ?_) | (refine iFa ?_; refine qFa ?_) | (refine iAd ?_; refine qAd ?_) | (refine iSb ?_; refine qSb ?_) | (refine iMl ?_; refine qMl ?_) | (refine iRm ?_; refine qRm ?_) | (refine iQu ?_; refine qQu ?_) | (refine iSr ?_; refine qSr ?_) | (refine iSh ?_; refine qSh ?_) | (refine iCm ?_; refine qCm ?_) | (refine iEx ?_; refine qEx ?_) | (refine iAs ?_; refine qAs ?_) | (refine iPk ?_; refine qPk ?_) | (refine iNc ?_; refine qNc ?_) | (refine iIa ?_; refine qIa ?_) | (refine iCv ?_; refine qCv ?_) | (refine iBi ?_; refine qBi ?_) | (refine iUn ?_; refine qUn ?_) | (refine iFl ?_; refine qFl ?_) | (refine iLu ?_; refine qLu ?_) | (refine iBu ?_; refine qBu ?_) | (refine iSl ?_; refine qSl ?_) | (refine iMf ?_; refine qMf ?_) | (refine iMi ?_; refine qMi ?_) | (refine iTa ?_; refine qTa ?_) | (refine iSt ?_; refine qSt ?_) | (refine iAl ?_; first | refine qAlA (fun _ => ?_) | refine qAlS (fun _ => ?_)) | (refine iBx ?_; first | refine qBxA (fun _ => ?_) | refine qBxS (fun _ => ?_)) | (refine iMm ?_; refine qMm (fun _ => ?_)) | (refine iBs ?_; refine qBs (fun _ => ?_)) | (refine i_gd ?_; first | refine qWant ?_ | refine qSkip ?_ | refine qSkip0 ?_ | refine qSkipU ?_)) | refine tl_nil ?_ | refine tc_seq ?_ | refine tc_region ?_ | refine te_seq ?_ | (refine i_cond ?_; first | refine qCt ?_ | refine qCf ?_) | refine tc_block ?_ | refine te_block_normal ?_ | refine te_block_ret ?_ | refine te_then_ret ?_ | refine te_block_hit ?_ | (refine i_miss ?_; refine qMiss ?_) | refine te_then_exit ?_ | refine tc_exit ?_ | refine tc_ret ?_ | refine tc_skip ?_)
    exact qE ⟨Hp.le_refl _, a, cap, rfl, hRr, rfl⟩
  · by_cases h5 : kd = 5
    · subst h5
      have he : D.run ⟨kind, at', n, fill, ka, kn, kp⟩ ks = (D.sync.1, zblk, D.sync.2) := by simp [DS.run, hkd]
      simp only [he, bv, ← zblk_cells]
      have hsy := syncR_spec ρ D hD a cap hR
      generalize D.sync = r at *
      obtain ⟨D2, e⟩ := r
      obtain ⟨s, ops, armed, failing, dead⟩ := D
      obtain ⟨s2, ops2, armed2, failing2, dead2⟩ := D2
      refine spec_enter Try.func29 rfl rfl rfl fun u R => ?_
      simp only [argsE, List.cons_append, List.nil_append, OpV.v, OpV.cells, refV] at hsy ⊢
      repeat' (first | (refine tl_is (.func 49) ?_; refine qC rfl rfl (hsy) ?_; rintro v ρ' L' hle ⟨hle, a', cap', rfl, hR', rfl⟩ <;> (try simp only [List.cons_append, List.nil_append, List.append_eq])) | (refine i_op ?_; first | (refine iMv ?_; refine qMv ?_) | (refine iLd ?_; refine qLd ?_) | (refine iFa ?_; refine qFa ?_) | (refine iAd ?_; refine qAd ?_) | (refine iSb ?_; refine qSb ?_) | (refine iMl ?_; refine qMl ?_) | (refine iRm ?_; refine qRm ?_) | (refine iQu ?_; refine qQu ?_) | (refine iSr ?_; refine qSr ?_) | (refine iSh ?_; refine qSh ?_) | (refine iCm ?_; refine qCm ?_) | (refine iEx ?_; refine qEx ?_) | (refine iAs ?_; refine qAs ?_) | (refine iPk ?_; refine qPk ?_) | (refine iNc ?_; refine qNc ?_) | (refine iIa ?_; refine qIa ?_) | (refine iCv ?_; refine qCv ?_) | (refine iBi ?_; refine qBi ?_) | (refine iUn ?_; refine qUn ?_) | (refine iFl ?_; refine qFl ?_) | (refine iLu ?_; refine qLu ?_) | (refine iBu ?_; refine qBu ?_) | (refine iSl ?_; refine qSl ?_) | (refine iMf ?_; refine qMf ?_) | (refine iMi ?_; refine qMi ?_) | (refine iTa ?_; refine qTa ?_) | (refine iSt ?_; refine qSt ?_) | (refine iAl ?_; first | refine qAlA (fun _ => ?_) | refine qAlS (fun _ => ?_)) | (refine iBx ?_; first | refine qBxA (fun _ => ?_) | refine qBxS (fun _ => ?_)) | (refine iMm ?_; refine qMm (fun _ => ?_)) | (refine iBs ?_; refine qBs (fun _ => ?_)) | (refine i_gd ?_; first | refine qWant ?_ | refine qSkip ?_ | refine qSkip0 ?_ | refine qSkipU ?_)) | refine tl_nil ?_ | refine tc_seq ?_ | refine tc_region ?_ | refine te_seq ?_ | (refine i_cond ?_; first | refine qCt ?_ | refine qCf ?_) | refine tc_block ?_ | refine te_block_normal ?_ | refine te_block_ret ?_ | refine te_then_ret ?_ | refine te_block_hit ?_ | (refine i_miss ?_; refine qMiss ?_) | refine te_then_exit ?_ | refine tc_exit ?_ | refine tc_ret ?_ | refine tc_skip ?_)
      rename_i b2 b3 b4 b5 b7 _
      refine tc_any (Stays _ _ ([[(b3, .cells ⟨[.slice a' s2.length cap', .int .i64 ops2, .int .i64 armed2, .int .i64 failing2, .bool dead2]⟩ 60 (0, 0))],[(b7, .cells ⟨List.replicate 64 (.int .u8 0)⟩ 34 (0, 0))]])) (stays_of (Hp.le_refl _)) ?_
      all_goals refine rLd 0 ?_
      all_goals refine rLd 1 ?_
      all_goals refine rMv 2 ?_
      all_goals (refine rStep (i := 3) ?_; ((try refine qWant ?_); (first | (refine iSt ?_; refine qSt ?_) | (refine iAl ?_; first | refine qAlA (fun _ => ?_) | refine qAlS (fun _ => ?_)) | (refine iBx ?_; first | refine qBxA (fun _ => ?_) | refine qBxS (fun _ => ?_)) | (refine iMm ?_; refine qMm (fun _ => ?_)) | (refine iBs ?_; refine qBs (fun _ => ?_))); (try simp only [List.cons_append, List.nil_append, List.append_eq]); refine tl_nil ?_; refine rNext ?_))
      all_goals (refine rStep (i := 4) ?_; ((try refine qWant ?_); (first | (refine iSt ?_; refine qSt ?_) | (refine iAl ?_; first | refine qAlA (fun _ => ?_) | refine qAlS (fun _ => ?_)) | (refine iBx ?_; first | refine qBxA (fun _ => ?_) | refine qBxS (fun _ => ?_)) | (refine iMm ?_; refine qMm (fun _ => ?_)) | (refine iBs ?_; refine qBs (fun _ => ?_))); (try simp only [List.cons_append, List.nil_append, List.append_eq]); refine tl_nil ?_; refine rNext ?_))
      all_goals refine rFull ?_
      all_goals refine rAs 5 ?_
      all_goals refine rDone ?_
      repeat' (first | (refine i_op ?_; first | (refine iMv ?_; refine qMv ?_) | (refine iLd ?_; refine qLd ?_) | (refine iFa ?_; refine qFa ?_) | (refine iAd ?_; refine qAd ?_) | (refine iSb ?_; refine qSb ?_) | (refine iMl ?_; refine qMl ?_) | (refine iRm ?_; refine qRm ?_) | (refine iQu ?_; refine qQu ?_) | (refine iSr ?_; refine qSr ?_) | (refine iSh ?_; refine qSh ?_) | (refine iCm ?_; refine qCm ?_) | (refine iEx ?_; refine qEx ?_) | (refine iAs ?_; refine qAs ?_) | (refine iPk ?_; refine qPk ?_) | (refine iNc ?_; refine qNc ?_) | (refine iIa ?_; refine qIa ?_) | (refine iCv ?_; refine qCv ?_) | (refine iBi ?_; refine qBi ?_) | (refine iUn ?_; refine qUn ?_) | (refine iFl ?_; refine qFl ?_) | (refine iLu ?_; refine qLu ?_) | (refine iBu ?_; refine qBu ?_) | (refine iSl ?_; refine qSl ?_) | (refine iMf ?_; refine qMf ?_) | (refine iMi ?_; refine qMi ?_) | (refine iTa ?_; refine qTa ?_) | (refine iSt ?_; refine qSt ?_) | (refine iAl ?_; first | refine qAlA (fun _ => ?_) | refine qAlS (fun _ => ?_)) | (refine iBx ?_; first | refine qBxA (fun _ => ?_) | refine qBxS (fun _ => ?_)) | (refine iMm ?_; refine qMm (fun _ => ?_)) | (refine iBs ?_; refine qBs (fun _ => ?_)) | (refine i_gd ?_; first | refine qWant ?_ | refine qSkip ?_ | refine qSkip0 ?_ | refine qSkipU ?_)) | refine tl_nil ?_ | refine tc_seq ?_ | refine tc_region ?_ | refine te_seq ?_ | (refine i_cond ?_; first | refine qCt ?_ | refine qCf ?_) | refine tc_block ?_ | refine te_block_normal ?_ | refine te_block_ret ?_ | refine te_then_ret ?_ | refine te_block_hit ?_ | (refine i_miss ?_; refine qMiss ?_) | refine te_then_exit ?_ | refine tc_exit ?_ | refine tc_ret ?_ | refine tc_skip ?_)
      exact qE ⟨hle, a', cap', rfl, hR', rfl⟩
    · by_cases h8 : kd = 8
      · subst h8
        have he : D.run ⟨kind, at', n, fill, ka, kn, kp⟩ ks = (D.crash (keepB (ks.take 60)), zblk, 0) := by simp [DS.run, hkd]
        simp only [he, bv, ← zblk_cells]
        have hD8 := fun (ρ' : Hp) (h : ρ.le ρ') (ka2 : Option Addr) (kp2 : Nat) (hf : KeepIn ρ' ka2 (ks.take 60).length kp2 (ks.take 60)) => crashR_spec ρ' D a cap (hR.mono h) ka2 (ks.take 60).length kp2 (by simp; omega) (keepB (ks.take 60)) (flagsR_in hf)
        generalize DS.crash (keepB (ks.take 60)) D = D2 at *
        obtain ⟨s, ops, armed, failing, dead⟩ := D
        obtain ⟨s2, ops2, armed2, failing2, dead2⟩ := D2
        refine spec_enter Try.func29 rfl rfl rfl fun u R => ?_
        simp only [argsE, List.cons_append, List.nil_append, OpV.v, OpV.cells, refV] at hD8 ⊢
        repeat' (first | (refine i_op ?_; first | (refine iMv ?_; refine qMv ?_) | (refine iLd ?_; refine qLd ?_) | (refine iFa ?_; refine qFa ?_) | (refine iAd ?_; refine qAd ?_) | (refine iSb ?_; refine qSb ?_) | (refine iMl ?_; refine qMl ?_) | (refine iRm ?_; refine qRm ?_) | (refine iQu ?_; refine qQu ?_) | (refine iSr ?_; refine qSr ?_) | (refine iSh ?_; refine qSh ?_) | (refine iCm ?_; refine qCm ?_) | (refine iEx ?_; refine qEx ?_) | (refine iAs ?_; refine qAs ?_) | (refine iPk ?_; refine qPk ?_) | (refine iNc ?_; refine qNc ?_) | (refine iIa ?_; refine qIa ?_) | (refine iCv ?_; refine qCv ?_) | (refine iBi ?_; refine qBi ?_) | (refine iUn ?_; refine qUn ?_) | (refine iFl ?_; refine qFl ?_) | (refine iLu ?_; refine qLu ?_) | (refine iBu ?_; refine qBu ?_) | (refine iSl ?_; refine qSl ?_) | (refine iMf ?_; refine qMf ?_) | (refine iMi ?_; refine qMi ?_) | (refine iTa ?_; refine qTa ?_) | (refine iSt ?_; refine qSt ?_) | (refine iAl ?_; first | refine qAlA (fun _ => ?_) | refine qAlS (fun _ => ?_)) | (refine iBx ?_; first | refine qBxA (fun _ => ?_) | refine qBxS (fun _ => ?_)) | (refine iMm ?_; refine qMm (fun _ => ?_)) | (refine iBs ?_; refine qBs (fun _ => ?_)) | (refine i_gd ?_; first | refine qWant ?_ | refine qSkip ?_ | refine qSkip0 ?_ | refine qSkipU ?_)) | refine tl_nil ?_ | refine tc_seq ?_ | refine tc_region ?_ | refine te_seq ?_ | (refine i_cond ?_; first | refine qCt ?_ | refine qCf ?_) | refine tc_block ?_ | refine te_block_normal ?_ | refine te_block_ret ?_ | refine te_then_ret ?_ | refine te_block_hit ?_ | (refine i_miss ?_; refine qMiss ?_) | refine te_then_exit ?_ | refine tc_exit ?_ | refine tc_ret ?_ | refine tc_skip ?_)
        rename_i b2 b3 b4 b5 b7
        refine tc_any (Stays _ _ ([[(b2, .cells ⟨[.int .i64 kind, .int .i64 at', .int .i64 n, u8c fill, .slice ka kn kp]⟩ 25 (0, 0))]])) (stays_of (Hp.le_refl _)) ?_
        all_goals refine rLd 1 ?_
        all_goals (refine rStep2 (i := 0) (j := 2) ?_ ?_ <;> ((try refine qWant ?_); (first | (refine tl_is (.func 19) ?_; refine tl_call rfl rfl (keep_spec ρ ⟨kind, at', n, fill, ka, kn, kp⟩ ks hk) take_nil' rfl ?_; rintro v ρ1 L1 hle1 ⟨rfl, sp, hown, rfl⟩; simp only [List.cons_append, List.nil_append]; refine tl_freeze _ (h := Rem.here) (fun ρ2 hle2 hfz => ?_); obtain ⟨ka2, kp2, rfl, hkin⟩ := keepIn_own rfl (by simp; omega) hown hfz) | (refine tl_is (.func 31) ?_; refine qC rfl rfl (hD8 ρ2 hle2 ka2 kp2 hkin) ?_; rintro v ρ' L' hle ⟨hle, a', cap', rfl, hR', rfl⟩ <;> (try simp only [List.cons_append, List.nil_append, List.append_eq])) | (refine iSt ?_; refine qSt ?_) | (refine iAl ?_; first | refine qAlA (fun _ => ?_) | refine qAlS (fun _ => ?_)) | (refine iBx ?_; first | refine qBxA (fun _ => ?_) | refine qBxS (fun _ => ?_)) | (refine iMm ?_; refine qMm (fun _ => ?_)) | (refine iBs ?_; refine qBs (fun _ => ?_)) | (refine i_op ?_; first | (refine iMv ?_; refine qMv ?_) | (refine iLd ?_; refine qLd ?_) | (refine iFa ?_; refine qFa ?_) | (refine iAd ?_; refine qAd ?_) | (refine iSb ?_; refine qSb ?_) | (refine iMl ?_; refine qMl ?_) | (refine iRm ?_; refine qRm ?_) | (refine iQu ?_; refine qQu ?_) | (refine iSr ?_; refine qSr ?_) | (refine iSh ?_; refine qSh ?_) | (refine iCm ?_; refine qCm ?_) | (refine iEx ?_; refine qEx ?_) | (refine iAs ?_; refine qAs ?_) | (refine iPk ?_; refine qPk ?_) | (refine iNc ?_; refine qNc ?_) | (refine iIa ?_; refine qIa ?_) | (refine iCv ?_; refine qCv ?_) | (refine iBi ?_; refine qBi ?_) | (refine iUn ?_; refine qUn ?_) | (refine iFl ?_; refine qFl ?_) | (refine iLu ?_; refine qLu ?_) | (refine iBu ?_; refine qBu ?_) | (refine iSl ?_; refine qSl ?_) | (refine iMf ?_; refine qMf ?_) | (refine iMi ?_; refine qMi ?_) | (refine iTa ?_; refine qTa ?_) | (refine iSt ?_; refine qSt ?_) | (refine iAl ?_; first | refine qAlA (fun _ => ?_) | refine qAlS (fun _ => ?_)) | (refine iBx ?_; first | refine qBxA (fun _ => ?_) | refine qBxS (fun _ => ?_)) | (refine iMm ?_; refine qMm (fun _ => ?_)) | (refine iBs ?_; refine qBs (fun _ => ?_)) | (refine i_gd ?_; first | refine qWant ?_ | refine qSkip ?_ | refine qSkip0 ?_ | refine qSkipU ?_))); (try simp only [List.cons_append, List.nil_append, List.append_eq]); refine tl_nil ?_; refine rNext ?_))
        all_goals (first | (refine rStep (i := 2) ?_; ((try refine qWant ?_); (first | (refine tl_is (.func 19) ?_; refine tl_call rfl rfl (keep_spec ρ ⟨kind, at', n, fill, ka, kn, kp⟩ ks hk) take_nil' rfl ?_; rintro v ρ1 L1 hle1 ⟨rfl, sp, hown, rfl⟩; simp only [List.cons_append, List.nil_append]; refine tl_freeze _ (h := Rem.here) (fun ρ2 hle2 hfz => ?_); obtain ⟨ka2, kp2, rfl, hkin⟩ := keepIn_own rfl (by simp; omega) hown hfz) | (refine tl_is (.func 31) ?_; refine qC rfl rfl (hD8 ρ2 hle2 ka2 kp2 hkin) ?_; rintro v ρ' L' hle ⟨hle, a', cap', rfl, hR', rfl⟩ <;> (try simp only [List.cons_append, List.nil_append, List.append_eq])) | (refine iSt ?_; refine qSt ?_) | (refine iAl ?_; first | refine qAlA (fun _ => ?_) | refine qAlS (fun _ => ?_)) | (refine iBx ?_; first | refine qBxA (fun _ => ?_) | refine qBxS (fun _ => ?_)) | (refine iMm ?_; refine qMm (fun _ => ?_)) | (refine iBs ?_; refine qBs (fun _ => ?_)) | (refine i_op ?_; first | (refine iMv ?_; refine qMv ?_) | (refine iLd ?_; refine qLd ?_) | (refine iFa ?_; refine qFa ?_) | (refine iAd ?_; refine qAd ?_) | (refine iSb ?_; refine qSb ?_) | (refine iMl ?_; refine qMl ?_) | (refine iRm ?_; refine qRm ?_) | (refine iQu ?_; refine qQu ?_) | (refine iSr ?_; refine qSr ?_) | (refine iSh ?_; refine qSh ?_) | (refine iCm ?_; refine qCm ?_) | (refine iEx ?_; refine qEx ?_) | (refine iAs ?_; refine qAs ?_) | (refine iPk ?_; refine qPk ?_) | (refine iNc ?_; refine qNc ?_) | (refine iIa ?_; refine qIa ?_) | (refine iCv ?_; refine qCv ?_) | (refine iBi ?_; refine qBi ?_) | (refine iUn ?_; refine qUn ?_) | (refine iFl ?_; refine qFl ?_) | (refine iLu ?_; refine qLu ?_) | (refine iBu ?_; refine qBu ?_) | (refine iSl ?_; refine qSl ?_) | (refine iMf ?_; refine qMf ?_) | (refine iMi ?_; refine qMi ?_) | (refine iTa ?_; refine qTa ?_) | (refine iSt ?_; refine qSt ?_) | (refine iAl ?_; first | refine qAlA (fun _ => ?_) | refine qAlS (fun _ => ?_)) | (refine iBx ?_; first | refine qBxA (fun _ => ?_) | refine qBxS (fun _ => ?_)) | (refine iMm ?_; refine qMm (fun _ => ?_)) | (refine iBs ?_; refine qBs (fun _ => ?_)) | (refine i_gd ?_; first | refine qWant ?_ | refine qSkip ?_ | refine qSkip0 ?_ | refine qSkipU ?_))); (try simp only [List.cons_append, List.nil_append, List.append_eq]); refine tl_nil ?_; refine rNext ?_)) | (refine rStep (i := 0) ?_; ((try refine qWant ?_); (first | (refine tl_is (.func 19) ?_; refine tl_call rfl rfl (keep_spec ρ ⟨kind, at', n, fill, ka, kn, kp⟩ ks hk) take_nil' rfl ?_; rintro v ρ1 L1 hle1 ⟨rfl, sp, hown, rfl⟩; simp only [List.cons_append, List.nil_append]; refine tl_freeze _ (h := Rem.here) (fun ρ2 hle2 hfz => ?_); obtain ⟨ka2, kp2, rfl, hkin⟩ := keepIn_own rfl (by simp; omega) hown hfz) | (refine tl_is (.func 31) ?_; refine qC rfl rfl (hD8 ρ2 hle2 ka2 kp2 hkin) ?_; rintro v ρ' L' hle ⟨hle, a', cap', rfl, hR', rfl⟩ <;> (try simp only [List.cons_append, List.nil_append, List.append_eq])) | (refine iSt ?_; refine qSt ?_) | (refine iAl ?_; first | refine qAlA (fun _ => ?_) | refine qAlS (fun _ => ?_)) | (refine iBx ?_; first | refine qBxA (fun _ => ?_) | refine qBxS (fun _ => ?_)) | (refine iMm ?_; refine qMm (fun _ => ?_)) | (refine iBs ?_; refine qBs (fun _ => ?_)) | (refine i_op ?_; first | (refine iMv ?_; refine qMv ?_) | (refine iLd ?_; refine qLd ?_) | (refine iFa ?_; refine qFa ?_) | (refine iAd ?_; refine qAd ?_) | (refine iSb ?_; refine qSb ?_) | (refine iMl ?_; refine qMl ?_) | (refine iRm ?_; refine qRm ?_) | (refine iQu ?_; refine qQu ?_) | (refine iSr ?_; refine qSr ?_) | (refine iSh ?_; refine qSh ?_) | (refine iCm ?_; refine qCm ?_) | (refine iEx ?_; refine qEx ?_) | (refine iAs ?_; refine qAs ?_) | (refine iPk ?_; refine qPk ?_) | (refine iNc ?_; refine qNc ?_) | (refine iIa ?_; refine qIa ?_) | (refine iCv ?_; refine qCv ?_) | (refine iBi ?_; refine qBi ?_) | (refine iUn ?_; refine qUn ?_) | (refine iFl ?_; refine qFl ?_) | (refine iLu ?_; refine qLu ?_) | (refine iBu ?_; refine qBu ?_) | (refine iSl ?_; refine qSl ?_) | (refine iMf ?_; refine qMf ?_) | (refine iMi ?_; refine qMi ?_) | (refine iTa ?_; refine qTa ?_) | (refine iSt ?_; refine qSt ?_) | (refine iAl ?_; first | refine qAlA (fun _ => ?_) | refine qAlS (fun _ => ?_)) | (refine iBx ?_; first | refine qBxA (fun _ => ?_) | refine qBxS (fun _ => ?_)) | (refine iMm ?_; refine qMm (fun _ => ?_)) | (refine iBs ?_; refine qBs (fun _ => ?_)) | (refine i_gd ?_; first | refine qWant ?_ | refine qSkip ?_ | refine qSkip0 ?_ | refine qSkipU ?_))); (try simp only [List.cons_append, List.nil_append, List.append_eq]); refine tl_nil ?_; refine rNext ?_)))
        all_goals (refine rStep (i := 3) ?_; ((try refine qWant ?_); (first | (refine tl_is (.func 19) ?_; refine tl_call rfl rfl (keep_spec ρ ⟨kind, at', n, fill, ka, kn, kp⟩ ks hk) take_nil' rfl ?_; rintro v ρ1 L1 hle1 ⟨rfl, sp, hown, rfl⟩; simp only [List.cons_append, List.nil_append]; refine tl_freeze _ (h := Rem.here) (fun ρ2 hle2 hfz => ?_); obtain ⟨ka2, kp2, rfl, hkin⟩ := keepIn_own rfl (by simp; omega) hown hfz) | (refine tl_is (.func 31) ?_; refine qC rfl rfl (hD8 ρ2 hle2 ka2 kp2 hkin) ?_; rintro v ρ' L' hle ⟨hle, a', cap', rfl, hR', rfl⟩ <;> (try simp only [List.cons_append, List.nil_append, List.append_eq])) | (refine iSt ?_; refine qSt ?_) | (refine iAl ?_; first | refine qAlA (fun _ => ?_) | refine qAlS (fun _ => ?_)) | (refine iBx ?_; first | refine qBxA (fun _ => ?_) | refine qBxS (fun _ => ?_)) | (refine iMm ?_; refine qMm (fun _ => ?_)) | (refine iBs ?_; refine qBs (fun _ => ?_)) | (refine i_op ?_; first | (refine iMv ?_; refine qMv ?_) | (refine iLd ?_; refine qLd ?_) | (refine iFa ?_; refine qFa ?_) | (refine iAd ?_; refine qAd ?_) | (refine iSb ?_; refine qSb ?_) | (refine iMl ?_; refine qMl ?_) | (refine iRm ?_; refine qRm ?_) | (refine iQu ?_; refine qQu ?_) | (refine iSr ?_; refine qSr ?_) | (refine iSh ?_; refine qSh ?_) | (refine iCm ?_; refine qCm ?_) | (refine iEx ?_; refine qEx ?_) | (refine iAs ?_; refine qAs ?_) | (refine iPk ?_; refine qPk ?_) | (refine iNc ?_; refine qNc ?_) | (refine iIa ?_; refine qIa ?_) | (refine iCv ?_; refine qCv ?_) | (refine iBi ?_; refine qBi ?_) | (refine iUn ?_; refine qUn ?_) | (refine iFl ?_; refine qFl ?_) | (refine iLu ?_; refine qLu ?_) | (refine iBu ?_; refine qBu ?_) | (refine iSl ?_; refine qSl ?_) | (refine iMf ?_; refine qMf ?_) | (refine iMi ?_; refine qMi ?_) | (refine iTa ?_; refine qTa ?_) | (refine iSt ?_; refine qSt ?_) | (refine iAl ?_; first | refine qAlA (fun _ => ?_) | refine qAlS (fun _ => ?_)) | (refine iBx ?_; first | refine qBxA (fun _ => ?_) | refine qBxS (fun _ => ?_)) | (refine iMm ?_; refine qMm (fun _ => ?_)) | (refine iBs ?_; refine qBs (fun _ => ?_)) | (refine i_gd ?_; first | refine qWant ?_ | refine qSkip ?_ | refine qSkip0 ?_ | refine qSkipU ?_))); (try simp only [List.cons_append, List.nil_append, List.append_eq]); refine tl_nil ?_; refine rNext ?_))
        all_goals (refine rStep (i := 4) ?_; ((try refine qWant ?_); (first | (refine tl_is (.func 19) ?_; refine tl_call rfl rfl (keep_spec ρ ⟨kind, at', n, fill, ka, kn, kp⟩ ks hk) take_nil' rfl ?_; rintro v ρ1 L1 hle1 ⟨rfl, sp, hown, rfl⟩; simp only [List.cons_append, List.nil_append]; refine tl_freeze _ (h := Rem.here) (fun ρ2 hle2 hfz => ?_); obtain ⟨ka2, kp2, rfl, hkin⟩ := keepIn_own rfl (by simp; omega) hown hfz) | (refine tl_is (.func 31) ?_; refine qC rfl rfl (hD8 ρ2 hle2 ka2 kp2 hkin) ?_; rintro v ρ' L' hle ⟨hle, a', cap', rfl, hR', rfl⟩ <;> (try simp only [List.cons_append, List.nil_append, List.append_eq])) | (refine iSt ?_; refine qSt ?_) | (refine iAl ?_; first | refine qAlA (fun _ => ?_) | refine qAlS (fun _ => ?_)) | (refine iBx ?_; first | refine qBxA (fun _ => ?_) | refine qBxS (fun _ => ?_)) | (refine iMm ?_; refine qMm (fun _ => ?_)) | (refine iBs ?_; refine qBs (fun _ => ?_)) | (refine i_op ?_; first | (refine iMv ?_; refine qMv ?_) | (refine iLd ?_; refine qLd ?_) | (refine iFa ?_; refine qFa ?_) | (refine iAd ?_; refine qAd ?_) | (refine iSb ?_; refine qSb ?_) | (refine iMl ?_; refine qMl ?_) | (refine iRm ?_; refine qRm ?_) | (refine iQu ?_; refine qQu ?_) | (refine iSr ?_; refine qSr ?_) | (refine iSh ?_; refine qSh ?_) | (refine iCm ?_; refine qCm ?_) | (refine iEx ?_; refine qEx ?_) | (refine iAs ?_; refine qAs ?_) | (refine iPk ?_; refine qPk ?_) | (refine iNc ?_; refine qNc ?_) | (refine iIa ?_; refine qIa ?_) | (refine iCv ?_; refine qCv ?_) | (refine iBi ?_; refine qBi ?_) | (refine iUn ?_; refine qUn ?_) | (refine iFl ?_; refine qFl ?_) | (refine iLu ?_; refine qLu ?_) | (refine iBu ?_; refine qBu ?_) | (refine iSl ?_; refine qSl ?_) | (refine iMf ?_; refine qMf ?_) | (refine iMi ?_; refine qMi ?_) | (refine iTa ?_; refine qTa ?_) | (refine iSt ?_; refine qSt ?_) | (refine iAl ?_; first | refine qAlA (fun _ => ?_) | refine qAlS (fun _ => ?_)) | (refine iBx ?_; first | refine qBxA (fun _ => ?_) | refine qBxS (fun _ => ?_)) | (refine iMm ?_; refine qMm (fun _ => ?_)) | (refine iBs ?_; refine qBs (fun _ => ?_)) | (refine i_gd ?_; first | refine qWant ?_ | refine qSkip ?_ | refine qSkip0 ?_ | refine qSkipU ?_))); (try simp only [List.cons_append, List.nil_append, List.append_eq]); refine tl_nil ?_; refine rNext ?_))
        all_goals refine rDone ?_
        all_goals replace hle := Hp.le_trans hle2 hle
        all_goals (repeat' (first | (refine i_op ?_; first | (refine iMv ?_; refine qMv ?_) | (refine iLd ?_; refine qLd ?_) | (refine iFa ?_; refine qFa ?_) | (refine iAd ?_; refine qAd ?_) | (refine iSb ?_; refine qSb ?_) | (refine iMl ?_; refine qMl ?_) | (refine iRm ?_; refine qRm ?_) | (refine iQu ?_; refine qQu ?_) | (refine iSr ?_; refine qSr ?_) | (refine iSh ?_; refine qSh ?_) | (refine iCm ?_; refine qCm ?_) | (refine iEx ?_; refine qEx ?_) | (refine iAs ?_; refine qAs ?_) | (refine iPk ?_; refine qPk ?_) | (refine iNc ?_; refine qNc ?_) | (refine iIa ?_; refine qIa ?_) | (refine iCv ?_; refine qCv ?_) | (refine iBi ?_; refine qBi ?_) | (refine iUn ?_; refine qUn ?_) | (refine iFl ?_; refine qFl ?_) | (refine iLu ?_; refine qLu ?_) | (refine iBu ?_; refine qBu ?_) | (refine iSl ?_; refine qSl ?_) | (refine iMf ?_; refine qMf ?_) | (refine iMi ?_; refine qMi ?_) | (refine iTa ?_; refine qTa ?_) | (refine iSt ?_; refine qSt ?_) | (refine iAl ?_; first | refine qAlA (fun _ => ?_) | refine qAlS (fun _ => ?_)) | (refine iBx ?_; first | refine qBxA (fun _ => ?_) | refine qBxS (fun _ => ?_)) | (refine iMm ?_; refine qMm (fun _ => ?_)) | (refine iBs ?_; refine qBs (fun _ => ?_)) | (refine i_gd ?_; first | refine qWant ?_ | refine qSkip ?_ | refine qSkip0 ?_ | refine qSkipU ?_)) | refine tl_nil ?_ | refine tc_seq ?_ | refine tc_region ?_ | refine te_seq ?_ | (refine i_cond ?_; first | refine qCt ?_ | refine qCf ?_) | refine tc_block ?_ | refine te_block_normal ?_ | refine te_block_ret ?_ | refine te_then_ret ?_ | refine te_block_hit ?_ | (refine i_miss ?_; refine qMiss ?_) | refine te_then_exit ?_ | refine tc_exit ?_ | refine tc_ret ?_ | refine tc_skip ?_))
        all_goals refine tc_any (Stays _ _ ([[(b3, .cells ⟨[.slice a' s2.length cap', .int .i64 ops2, .int .i64 armed2, .int .i64 failing2, .bool dead2]⟩ 60 (0, 0))],[(b7, .cells ⟨List.replicate 64 (.int .u8 0)⟩ 34 (0, 0))]])) (stays_of (Hp.le_refl _)) ?_
        all_goals refine rLd 0 ?_
        all_goals refine rLd 1 ?_
        all_goals refine rMv 2 ?_
        all_goals (refine rStep (i := 3) ?_; ((try refine qWant ?_); (first | (refine iSt ?_; refine qSt ?_) | (refine iAl ?_; first | refine qAlA (fun _ => ?_) | refine qAlS (fun _ => ?_)) | (refine iBx ?_; first | refine qBxA (fun _ => ?_) | refine qBxS (fun _ => ?_)) | (refine iMm ?_; refine qMm (fun _ => ?_)) | (refine iBs ?_; refine qBs (fun _ => ?_))); (try simp only [List.cons_append, List.nil_append, List.append_eq]); refine tl_nil ?_; refine rNext ?_))
        all_goals (refine rStep (i := 4) ?_; ((try refine qWant ?_); (first | (refine iSt ?_; refine qSt ?_) | (refine iAl ?_; first | refine qAlA (fun _ => ?_) | refine qAlS (fun _ => ?_)) | (refine iBx ?_; first | refine qBxA (fun _ => ?_) | refine qBxS (fun _ => ?_)) | (refine iMm ?_; refine qMm (fun _ => ?_)) | (refine iBs ?_; refine qBs (fun _ => ?_))); (try simp only [List.cons_append, List.nil_append, List.append_eq]); refine tl_nil ?_; refine rNext ?_))
        all_goals refine rFull ?_
        all_goals refine rAs 5 ?_
        all_goals refine rDone ?_
        all_goals (repeat' (first | (refine i_op ?_; first | (refine iMv ?_; refine qMv ?_) | (refine iLd ?_; refine qLd ?_) | (refine iFa ?_; refine qFa ?_) | (refine iAd ?_; refine qAd ?_) | (refine iSb ?_; refine qSb ?_) | (refine iMl ?_; refine qMl ?_) | (refine iRm ?_; refine qRm ?_) | (refine iQu ?_; refine qQu ?_) | (refine iSr ?_; refine qSr ?_) | (refine iSh ?_; refine qSh ?_) | (refine iCm ?_; refine qCm ?_) | (refine iEx ?_; refine qEx ?_) | (refine iAs ?_; refine qAs ?_) | (refine iPk ?_; refine qPk ?_) | (refine iNc ?_; refine qNc ?_) | (refine iIa ?_; refine qIa ?_) | (refine iCv ?_; refine qCv ?_) | (refine iBi ?_; refine qBi ?_) | (refine iUn ?_; refine qUn ?_) | (refine iFl ?_; refine qFl ?_) | (refine iLu ?_; refine qLu ?_) | (refine iBu ?_; refine qBu ?_) | (refine iSl ?_; refine qSl ?_) | (refine iMf ?_; refine qMf ?_) | (refine iMi ?_; refine qMi ?_) | (refine iTa ?_; refine qTa ?_) | (refine iSt ?_; refine qSt ?_) | (refine iAl ?_; first | refine qAlA (fun _ => ?_) | refine qAlS (fun _ => ?_)) | (refine iBx ?_; first | refine qBxA (fun _ => ?_) | refine qBxS (fun _ => ?_)) | (refine iMm ?_; refine qMm (fun _ => ?_)) | (refine iBs ?_; refine qBs (fun _ => ?_)) | (refine i_gd ?_; first | refine qWant ?_ | refine qSkip ?_ | refine qSkip0 ?_ | refine qSkipU ?_)) | refine tl_nil ?_ | refine tc_seq ?_ | refine tc_region ?_ | refine te_seq ?_ | (refine i_cond ?_; first | refine qCt ?_ | refine qCf ?_) | refine tc_block ?_ | refine te_block_normal ?_ | refine te_block_ret ?_ | refine te_then_ret ?_ | refine te_block_hit ?_ | (refine i_miss ?_; refine qMiss ?_) | refine te_then_exit ?_ | refine tc_exit ?_ | refine tc_ret ?_ | refine tc_skip ?_))
        all_goals exact qE ⟨hle, a', cap', rfl, hR', rfl⟩
      · by_cases h6 : kd = 6
        · subst h6
          have he : D.run ⟨kind, at', n, fill, ka, kn, kp⟩ ks = ((D.arm n).1, zblk, (D.arm n).2) := by simp [DS.run, hkd]
          simp only [he, bv, ← zblk_cells]
          obtain ⟨s, ops, armed, failing, dead⟩ := D
          cases dead with
          | true =>
            simp only [DS.arm, if_true]
            refine spec_enter Try.func29 rfl rfl rfl fun u R => ?_
            simp only [argsE, List.cons_append, List.nil_append, OpV.v, OpV.cells, refV]
            repeat' (first | (refine i_op ?_; first | (refine iMv ?_; refine qMv ?_) | (refine iLd ?_; refine qLd ?_) | (refine iFa ?_; refine qFa ?_) | (refine iAd ?_; refine qAd ?_) | (refine iSb ?_; refine qSb ?_) | (refine iMl ?_; refine qMl ?_) | (refine iRm ?_; refine qRm ?_) | (refine iQu ?_; refine qQu ?_) | (refine iSr ?_; refine qSr ?_) | (refine iSh ?_; refine qSh ?_) | (refine iCm ?_; refine qCm ?_) | (refine iEx ?_; refine qEx ?_) | (refine iAs ?_; refine qAs ?_) | (refine iPk ?_; refine qPk ?_) | (refine iNc ?_; refine qNc ?_) | (refine iIa ?_; refine qIa ?_) | (refine iCv ?_; refine qCv ?_) | (refine iBi ?_; refine qBi ?_) | (refine iUn ?_; refine qUn ?_) | (refine iFl ?_; refine qFl ?_) | (refine iLu ?_; refine qLu ?_) | (refine iBu ?_; refine qBu ?_) | (refine iSl ?_; refine qSl ?_) | (refine iMf ?_; refine qMf ?_) | (refine iMi ?_; refine qMi ?_) | (refine iTa ?_; refine qTa ?_) | (refine iSt ?_; refine qSt ?_) | (refine iAl ?_; first | refine qAlA (fun _ => ?_) | refine qAlS (fun _ => ?_)) | (refine iBx ?_; first | refine qBxA (fun _ => ?_) | refine qBxS (fun _ => ?_)) | (refine iMm ?_; refine qMm (fun _ => ?_)) | (refine iBs ?_; refine qBs (fun _ => ?_)) | (refine i_gd ?_; first | refine qWant ?_ | refine qSkip ?_ | refine qSkip0 ?_ | refine qSkipU ?_)) | refine tl_nil ?_ | refine tc_seq ?_ | refine tc_region ?_ | refine te_seq ?_ | (refine i_cond ?_; first | refine qCt ?_ | refine qCf ?_) | refine tc_block ?_ | refine te_block_normal ?_ | refine te_block_ret ?_ | refine te_then_ret ?_ | refine te_block_hit ?_ | (refine i_miss ?_; refine qMiss ?_) | refine te_then_exit ?_ | refine tc_exit ?_ | refine tc_ret ?_ | refine tc_skip ?_)
            rename_i b2 b3 b4 b5 b7
            refine tc_any (Stays _ _ ([[(b3, .cells ⟨[.slice a s.length cap, .int .i64 ops, .int .i64 armed, .int .i64 failing, .bool true]⟩ 60 (0, 0))],[(b7, .cells ⟨List.replicate 64 (.int .u8 0)⟩ 34 (0, 0))]])) (stays_of (Hp.le_refl _)) ?_
            all_goals refine rLd 0 ?_
            all_goals refine rLd 1 ?_
            all_goals (refine rStep (i := 2) ?_; ((try refine qWant ?_); (first | (refine iSt ?_; refine qSt ?_) | (refine iAl ?_; first | refine qAlA (fun _ => ?_) | refine qAlS (fun _ => ?_)) | (refine iBx ?_; first | refine qBxA (fun _ => ?_) | refine qBxS (fun _ => ?_)) | (refine iMm ?_; refine qMm (fun _ => ?_)) | (refine iBs ?_; refine qBs (fun _ => ?_))); (try simp only [List.cons_append, List.nil_append, List.append_eq]); refine tl_nil ?_; refine rNext ?_))
            all_goals (refine rStep (i := 3) ?_; ((try refine qWant ?_); (first | (refine iSt ?_; refine qSt ?_) | (refine iAl ?_; first | refine qAlA (fun _ => ?_) | refine qAlS (fun _ => ?_)) | (refine iBx ?_; first | refine qBxA (fun _ => ?_) | refine qBxS (fun _ => ?_)) | (refine iMm ?_; refine qMm (fun _ => ?_)) | (refine iBs ?_; refine qBs (fun _ => ?_))); (try simp only [List.cons_append, List.nil_append, List.append_eq]); refine tl_nil ?_; refine rNext ?_))
            all_goals refine rFull ?_
            all_goals refine rAs 4 ?_
            all_goals refine rDone ?_
            repeat' (first | (refine i_op ?_; first | (refine iMv ?_; refine qMv ?_) | (refine iLd ?_; refine qLd ?_) | (refine iFa ?_; refine qFa ?_) | (refine iAd ?_; refine qAd ?_) | (refine iSb ?_; refine qSb ?_) | (refine iMl ?_; refine qMl ?_) | (refine iRm ?_; refine qRm ?_) | (refine iQu ?_; refine qQu ?_) | (refine iSr ?_; refine qSr ?_) | (refine iSh ?_; refine qSh ?_) | (refine iCm ?_; refine qCm ?_) | (refine iEx ?_; refine qEx ?_) | (refine iAs ?_; refine qAs ?_) | (refine iPk ?_; refine qPk ?_) | (refine iNc ?_; refine qNc ?_) | (refine iIa ?_; refine qIa ?_) | (refine iCv ?_; refine qCv ?_) | (refine iBi ?_; refine qBi ?_) | (refine iUn ?_; refine qUn ?_) | (refine iFl ?_; refine qFl ?_) | (refine iLu ?_; refine qLu ?_) | (refine iBu ?_; refine qBu ?_) | (refine iSl ?_; refine qSl ?_) | (refine iMf ?_; refine qMf ?_) | (refine iMi ?_; refine qMi ?_) | (refine iTa ?_; refine qTa ?_) | (refine iSt ?_; refine qSt ?_) | (refine iAl ?_; first | refine qAlA (fun _ => ?_) | refine qAlS (fun _ => ?_)) | (refine iBx ?_; first | refine qBxA (fun _ => ?_) | refine qBxS (fun _ => ?_)) | (refine iMm ?_; refine qMm (fun _ => ?_)) | (refine iBs ?_; refine qBs (fun _ => ?_)) | (refine i_gd ?_; first | refine qWant ?_ | refine qSkip ?_ | refine qSkip0 ?_ | refine qSkipU ?_)) | refine tl_nil ?_ | refine tc_seq ?_ | refine tc_region ?_ | refine te_seq ?_ | (refine i_cond ?_; first | refine qCt ?_ | refine qCf ?_) | refine tc_block ?_ | refine te_block_normal ?_ | refine te_block_ret ?_ | refine te_then_ret ?_ | refine te_block_hit ?_ | (refine i_miss ?_; refine qMiss ?_) | refine te_then_exit ?_ | refine tc_exit ?_ | refine tc_ret ?_ | refine tc_skip ?_)
            exact qE ⟨Hp.le_refl _, a, cap, rfl, hR, rfl⟩
          | false =>
            simp only [DS.arm, Bool.false_eq_true, if_false]
            refine spec_enter Try.func29 rfl rfl rfl fun u R => ?_
            simp only [argsE, List.cons_append, List.nil_append, OpV.v, OpV.cells, refV]
            repeat' (first | (refine i_op ?_; first | (refine iMv ?_; refine qMv ?_) | (refine iLd ?_; refine qLd ?_) | (refine iFa ?_; refine qFa ?_) | (refine iAd ?_; refine qAd ?_) | (refine iSb ?_; refine qSb ?_) | (refine iMl ?_; refine qMl ?_) | (refine iRm ?_; refine qRm ?_) | (refine iQu ?_; refine qQu ?_) | (refine iSr ?_; refine qSr ?_) | (refine iSh ?_; refine qSh ?_) | (refine iCm ?_; refine qCm ?_) | (refine iEx ?_; refine qEx ?_) | (refine iAs ?_; refine qAs ?_) | (refine iPk ?_; refine qPk ?_) | (refine iNc ?_; refine qNc ?_) | (refine iIa ?_; refine qIa ?_) | (refine iCv ?_; refine qCv ?_) | (refine iBi ?_; refine qBi ?_) | (refine iUn ?_; refine qUn ?_) | (refine iFl ?_; refine qFl ?_) | (refine iLu ?_; refine qLu ?_) | (refine iBu ?_; refine qBu ?_) | (refine iSl ?_; refine qSl ?_) | (refine iMf ?_; refine qMf ?_) | (refine iMi ?_; refine qMi ?_) | (refine iTa ?_; refine qTa ?_) | (refine iSt ?_; refine qSt ?_) | (refine iAl ?_; first | refine qAlA (fun _ => ?_) | refine qAlS (fun _ => ?_)) | (refine iBx ?_; first | refine qBxA (fun _ => ?_) | refine qBxS (fun _ => ?_)) | (refine iMm ?_; refine qMm (fun _ => ?_)) | (refine iBs ?_; refine qBs (fun _ => ?_)) | (refine i_gd ?_; first | refine qWant ?_ | refine qSkip ?_ | refine qSkip0 ?_ | refine qSkipU ?_)) | refine tl_nil ?_ | refine tc_seq ?_ | refine tc_region ?_ | refine te_seq ?_ | (refine i_cond ?_; first | refine qCt ?_ | refine qCf ?_) | refine tc_block ?_ | refine te_block_normal ?_ | refine te_block_ret ?_ | refine te_then_ret ?_ | refine te_block_hit ?_ | (refine i_miss ?_; refine qMiss ?_) | refine te_then_exit ?_ | refine tc_exit ?_ | refine tc_ret ?_ | refine tc_skip ?_)
            rename_i b2 b3 b4 b5 b7
            refine tc_any (Stays _ _ ([[(b3, .cells ⟨[.slice a s.length cap, .int .i64 ops, .int .i64 (max n (-1)), .int .i64 failing, .bool false]⟩ 60 (0, 0))],[(b7, .cells ⟨List.replicate 64 (.int .u8 0)⟩ 34 (0, 0))]])) (stays_of (Hp.le_refl _)) ?_
            all_goals refine rLd 0 ?_
            all_goals refine rLd 1 ?_
            all_goals refine rMv 2 ?_
            all_goals (refine rStep (i := 3) ?_; ((try refine qWant ?_); (first | (refine iSt ?_; refine qSt ?_) | (refine iAl ?_; first | refine qAlA (fun _ => ?_) | refine qAlS (fun _ => ?_)) | (refine iBx ?_; first | refine qBxA (fun _ => ?_) | refine qBxS (fun _ => ?_)) | (refine iMm ?_; refine qMm (fun _ => ?_)) | (refine iBs ?_; refine qBs (fun _ => ?_))); (try simp only [List.cons_append, List.nil_append, List.append_eq]); refine tl_nil ?_; refine rNext ?_))
            all_goals (refine rStep (i := 4) ?_; ((try refine qWant ?_); (first | (refine iSt ?_; refine qSt ?_) | (refine iAl ?_; first | refine qAlA (fun _ => ?_) | refine qAlS (fun _ => ?_)) | (refine iBx ?_; first | refine qBxA (fun _ => ?_) | refine qBxS (fun _ => ?_)) | (refine iMm ?_; refine qMm (fun _ => ?_)) | (refine iBs ?_; refine qBs (fun _ => ?_))); (try simp only [List.cons_append, List.nil_append, List.append_eq]); refine tl_nil ?_; refine rNext ?_))
            all_goals refine rFull ?_
            all_goals refine rAs 5 ?_
            all_goals refine rDone ?_
            repeat' (first | (refine i_op ?_; first | (refine iMv ?_; refine qMv ?_) | (refine iLd ?_; refine qLd ?_) | (refine iFa ?_; refine qFa ?_) | (refine iAd ?_; refine qAd ?_) | (refine iSb ?_; refine qSb ?_) | (refine iMl ?_; refine qMl ?_) | (refine iRm ?_; refine qRm ?_) | (refine iQu ?_; refine qQu ?_) | (refine iSr ?_; refine qSr ?_) | (refine iSh ?_; refine qSh ?_) | (refine iCm ?_; refine qCm ?_) | (refine iEx ?_; refine qEx ?_) | (refine iAs ?_; refine qAs ?_) | (refine iPk ?_; refine qPk ?_) | (refine iNc ?_; refine qNc ?_) | (refine iIa ?_; refine qIa ?_) | (refine iCv ?_; refine qCv ?_) | (refine iBi ?_; refine qBi ?_) | (refine iUn ?_; refine qUn ?_) | (refine iFl ?_; refine qFl ?_) | (refine iLu ?_; refine qLu ?_) | (refine iBu ?_; refine qBu ?_) | (refine iSl ?_; refine qSl ?_) | (refine iMf ?_; refine qMf ?_) | (refine iMi ?_; refine qMi ?_) | (refine iTa ?_; refine qTa ?_) | (refine iSt ?_; refine qSt ?_) | (refine iAl ?_; first | refine qAlA (fun _ => ?_) | refine qAlS (fun _ => ?_)) | (refine iBx ?_; first | refine qBxA (fun _ => ?_) | refine qBxS (fun _ => ?_)) | (refine iMm ?_; refine qMm (fun _ => ?_)) | (refine iBs ?_; refine qBs (fun _ => ?_)) | (refine i_gd ?_; first | refine qWant ?_ | refine qSkip ?_ | refine qSkip0 ?_ | refine qSkipU ?_)) | refine tl_nil ?_ | refine tc_seq ?_ | refine tc_region ?_ | refine te_seq ?_ | (refine i_cond ?_; first | refine qCt ?_ | refine qCf ?_) | refine tc_block ?_ | refine te_block_normal ?_ | refine te_block_ret ?_ | refine te_then_ret ?_ | refine te_block_hit ?_ | (refine i_miss ?_; refine qMiss ?_) | refine te_then_exit ?_ | refine tc_exit ?_ | refine tc_ret ?_ | refine tc_skip ?_)
            exact qE ⟨Hp.le_refl _, a, cap, rfl, hR, rfl⟩
        · by_cases h7 : kd = 7
          · subst h7
            have he : D.run ⟨kind, at', n, fill, ka, kn, kp⟩ ks = ((D.fail n).1, zblk, (D.fail n).2) := by simp [DS.run, hkd]
            simp only [he, bv, ← zblk_cells]
            obtain ⟨s, ops, armed, failing, dead⟩ := D
            cases dead with
            | true =>
              simp only [DS.fail, if_true]
              refine spec_enter Try.func29 rfl rfl rfl fun u R => ?_
              simp only [argsE, List.cons_append, List.nil_append, OpV.v, OpV.cells, refV]
              repeat' (first | (refine i_op ?_; first | (refine iMv ?_; refine qMv ?_) | (refine iLd ?_; refine qLd ?_) | (refine iFa ?_; refine qFa ?_) | (refine iAd ?_; refine qAd ?_) | (refine iSb ?_; refine qSb ?_) | (refine iMl ?_; refine qMl ?_) | (refine iRm ?_; refine qRm ?_) | (refine iQu ?_; refine qQu ?_) | (refine iSr ?_; refine qSr ?_) | (refine iSh ?_; refine qSh ?_) | (refine iCm ?_; refine qCm ?_) | (refine iEx ?_; refine qEx ?_) | (refine iAs ?_; refine qAs ?_) | (refine iPk ?_; refine qPk ?_) | (refine iNc ?_; refine qNc ?_) | (refine iIa ?_; refine qIa ?_) | (refine iCv ?_; refine qCv ?_) | (refine iBi ?_; refine qBi ?_) | (refine iUn ?_; refine qUn ?_) | (refine iFl ?_; refine qFl ?_) | (refine iLu ?_; refine qLu ?_) | (refine iBu ?_; refine qBu ?_) | (refine iSl ?_; refine qSl ?_) | (refine iMf ?_; refine qMf ?_) | (refine iMi ?_; refine qMi ?_) | (refine iTa ?_; refine qTa ?_) | (refine iSt ?_; refine qSt ?_) | (refine iAl ?_; first | refine qAlA (fun _ => ?_) | refine qAlS (fun _ => ?_)) | (refine iBx ?_; first | refine qBxA (fun _ => ?_) | refine qBxS (fun _ => ?_)) | (refine iMm ?_; refine qMm (fun _ => ?_)) | (refine iBs ?_; refine qBs (fun _ => ?_)) | (refine i_gd ?_; first | refine qWant ?_ | refine qSkip ?_ | refine qSkip0 ?_ | refine qSkipU ?_)) | refine tl_nil ?_ | refine tc_seq ?_ | refine tc_region ?_ | refine te_seq ?_ | (refine i_cond ?_; first | refine qCt ?_ | refine qCf ?_) | refine tc_block ?_ | refine te_block_normal ?_ | refine te_block_ret ?_ | refine te_then_ret ?_ | refine te_block_hit ?_ | (refine i_miss ?_; refine qMiss ?_) | refine te_then_exit ?_ | refine tc_exit ?_ | refine tc_ret ?_ | refine tc_skip ?_)
              rename_i b2 b3 b4 b5 b7
              refine tc_any (Stays _ _ ([[(b3, .cells ⟨[.slice a s.length cap, .int .i64 ops, .int .i64 armed, .int .i64 failing, .bool true]⟩ 60 (0, 0))],[(b7, .cells ⟨List.replicate 64 (.int .u8 0)⟩ 34 (0, 0))]])) (stays_of (Hp.le_refl _)) ?_
              all_goals refine rLd 0 ?_
              all_goals refine rLd 1 ?_
              all_goals (refine rStep (i := 2) ?_; ((try refine qWant ?_); (first | (refine iSt ?_; refine qSt ?_) | (refine iAl ?_; first | refine qAlA (fun _ => ?_) | refine qAlS (fun _ => ?_)) | (refine iBx ?_; first | refine qBxA (fun _ => ?_) | refine qBxS (fun _ => ?_)) | (refine iMm ?_; refine qMm (fun _ => ?_)) | (refine iBs ?_; refine qBs (fun _ => ?_))); (try simp only [List.cons_append, List.nil_append, List.append_eq]); refine tl_nil ?_; refine rNext ?_))
              all_goals (refine rStep (i := 3) ?_; ((try refine qWant ?_); (first | (refine iSt ?_; refine qSt ?_) | (refine iAl ?_; first | refine qAlA (fun _ => ?_) | refine qAlS (fun _ => ?_)) | (refine iBx ?_; first | refine qBxA (fun _ => ?_) | refine qBxS (fun _ => ?_)) | (refine iMm ?_; refine qMm (fun _ => ?_)) | (refine iBs ?_; refine qBs (fun _ => ?_))); (try simp only [List.cons_append, List.nil_append, List.append_eq]); refine tl_nil ?_; refine rNext ?_))
              all_goals refine rFull ?_
              all_goals refine rAs 4 ?_
              all_goals refine rDone ?_
              repeat' (first | (refine i_op ?_; first | (refine iMv ?_; refine qMv ?_) | (refine iLd ?_; refine qLd ?_) | (refine iFa ?_; refine qFa ?_) | (refine iAd ?_; refine qAd ?_) | (refine iSb ?_; refine qSb ?_) | (refine iMl ?_; refine qMl ?_) | (refine iRm ?_; refine qRm ?_) | (refine iQu ?_; refine qQu ?_) | (refine iSr ?_; refine qSr ?_) | (refine iSh ?_; refine qSh ?_) | (refine iCm ?_; refine qCm ?_) | (refine iEx ?_; refine qEx ?_) | (refine iAs ?_; refine qAs ?_) | (refine iPk ?_; refine qPk ?_) | (refine iNc ?_; refine qNc ?_) | (refine iIa ?_; refine qIa ?_) | (refine iCv ?_; refine qCv ?_) | (refine iBi ?_; refine qBi ?_) | (refine iUn ?_; refine qUn ?_) | (refine iFl ?_; refine qFl ?_) | (refine iLu ?_; refine qLu ?_) | (refine iBu ?_; refine qBu ?_) | (refine iSl ?_; refine qSl ?_) | (refine iMf ?_; refine qMf ?_) | (refine iMi ?_; refine qMi ?_) | (refine iTa ?_; refine qTa ?_) | (refine iSt ?_; refine qSt ?_) | (refine iAl ?_; first | refine qAlA (fun _ => ?_) | refine qAlS (fun _ => ?_)) | (refine iBx ?_; first | refine qBxA (fun _ => ?_) | refine qBxS (fun _ => ?_)) | (refine iMm ?_; refine qMm (fun _ => ?_)) | (refine iBs ?_; refine qBs (fun _ => ?_)) | (refine i_gd ?_; first | refine qWant ?_ | refine qSkip ?_ | refine qSkip0 ?_ | refine qSkipU ?_)) | refine tl_nil ?_ | refine tc_seq ?_ | refine tc_region ?_ | refine te_seq ?_ | (refine i_cond ?_; first | refine qCt ?_ | refine qCf ?_) | refine tc_block ?_ | refine te_block_normal ?_ | refine te_block_ret ?_ | refine te_then_ret ?_ | refine te_block_hit ?_ | (refine i_miss ?_; refine qMiss ?_) | refine te_then_exit ?_ | refine tc_exit ?_ | refine tc_ret ?_ | refine tc_skip ?_)
              exact qE ⟨Hp.le_refl _, a, cap, rfl, hR, rfl⟩
            | false =>
              simp only [DS.fail, Bool.false_eq_true, if_false]
              refine spec_enter Try.func29 rfl rfl rfl fun u R => ?_
              simp only [argsE, List.cons_append, List.nil_append, OpV.v, OpV.cells, refV]
              repeat' (first | (refine i_op ?_; first | (refine iMv ?_; refine qMv ?_) | (refine iLd ?_; refine qLd ?_) | (refine iFa ?_; refine qFa ?_) | (refine iAd ?_; refine qAd ?_) | (refine iSb ?_; refine qSb ?_) | (refine iMl ?_; refine qMl ?_) | (refine iRm ?_; refine qRm ?_) | (refine iQu ?_; refine qQu ?_) | (refine iSr ?_; refine qSr ?_) | (refine iSh ?_; refine qSh ?_) | (refine iCm ?_; refine qCm ?_) | (refine iEx ?_; refine qEx ?_) | (refine iAs ?_; refine qAs ?_) | (refine iPk ?_; refine qPk ?_) | (refine iNc ?_; refine qNc ?_) | (refine iIa ?_; refine qIa ?_) | (refine iCv ?_; refine qCv ?_) | (refine iBi ?_; refine qBi ?_) | (refine iUn ?_; refine qUn ?_) | (refine iFl ?_; refine qFl ?_) | (refine iLu ?_; refine qLu ?_) | (refine iBu ?_; refine qBu ?_) | (refine iSl ?_; refine qSl ?_) | (refine iMf ?_; refine qMf ?_) | (refine iMi ?_; refine qMi ?_) | (refine iTa ?_; refine qTa ?_) | (refine iSt ?_; refine qSt ?_) | (refine iAl ?_; first | refine qAlA (fun _ => ?_) | refine qAlS (fun _ => ?_)) | (refine iBx ?_; first | refine qBxA (fun _ => ?_) | refine qBxS (fun _ => ?_)) | (refine iMm ?_; refine qMm (fun _ => ?_)) | (refine iBs ?_; refine qBs (fun _ => ?_)) | (refine i_gd ?_; first | refine qWant ?_ | refine qSkip ?_ | refine qSkip0 ?_ | refine qSkipU ?_)) | refine tl_nil ?_ | refine tc_seq ?_ | refine tc_region ?_ | refine te_seq ?_ | (refine i_cond ?_; first | refine qCt ?_ | refine qCf ?_) | refine tc_block ?_ | refine te_block_normal ?_ | refine te_block_ret ?_ | refine te_then_ret ?_ | refine te_block_hit ?_ | (refine i_miss ?_; refine qMiss ?_) | refine te_then_exit ?_ | refine tc_exit ?_ | refine tc_ret ?_ | refine tc_skip ?_)
              rename_i b2 b3 b4 b5 b7
              refine tc_any (Stays _ _ ([[(b3, .cells ⟨[.slice a s.length cap, .int .i64 ops, .int .i64 armed, .int .i64 (max n (-1)), .bool false]⟩ 60 (0, 0))],[(b7, .cells ⟨List.replicate 64 (.int .u8 0)⟩ 34 (0, 0))]])) (stays_of (Hp.le_refl _)) ?_
              all_goals refine rLd 0 ?_
              all_goals refine rLd 1 ?_
              all_goals refine rMv 2 ?_
              all_goals (refine rStep (i := 3) ?_; ((try refine qWant ?_); (first | (refine iSt ?_; refine qSt ?_) | (refine iAl ?_; first | refine qAlA (fun _ => ?_) | refine qAlS (fun _ => ?_)) | (refine iBx ?_; first | refine qBxA (fun _ => ?_) | refine qBxS (fun _ => ?_)) | (refine iMm ?_; refine qMm (fun _ => ?_)) | (refine iBs ?_; refine qBs (fun _ => ?_))); (try simp only [List.cons_append, List.nil_append, List.append_eq]); refine tl_nil ?_; refine rNext ?_))
              all_goals (refine rStep (i := 4) ?_; ((try refine qWant ?_); (first | (refine iSt ?_; refine qSt ?_) | (refine iAl ?_; first | refine qAlA (fun _ => ?_) | refine qAlS (fun _ => ?_)) | (refine iBx ?_; first | refine qBxA (fun _ => ?_) | refine qBxS (fun _ => ?_)) | (refine iMm ?_; refine qMm (fun _ => ?_)) | (refine iBs ?_; refine qBs (fun _ => ?_))); (try simp only [List.cons_append, List.nil_append, List.append_eq]); refine tl_nil ?_; refine rNext ?_))
              all_goals refine rFull ?_
              all_goals refine rAs 5 ?_
              all_goals refine rDone ?_
              repeat' (first | (refine i_op ?_; first | (refine iMv ?_; refine qMv ?_) | (refine iLd ?_; refine qLd ?_) | (refine iFa ?_; refine qFa ?_) | (refine iAd ?_; refine qAd ?_) | (refine iSb ?_; refine qSb ?_) | (refine iMl ?_; refine qMl ?_) | (refine iRm ?_; refine qRm ?_) | (refine iQu ?_; refine qQu ?_) | (refine iSr ?_; refine qSr ?_) | (refine iSh ?_; refine qSh ?_) | (refine iCm ?_; refine qCm ?_) | (refine iEx ?_; refine qEx ?_) | (refine iAs ?_; refine qAs ?_) | (refine iPk ?_; refine qPk ?_) | (refine iNc ?_; refine qNc ?_) | (refine iIa ?_; refine qIa ?_) | (refine iCv ?_; refine qCv ?_) | (refine iBi ?_; refine qBi ?_) | (refine iUn ?_; refine qUn ?_) | (refine iFl ?_; refine qFl ?_) | (refine iLu ?_; refine qLu ?_) | (refine iBu ?_; refine qBu ?_) | (refine iSl ?_; refine qSl ?_) | (refine iMf ?_; refine qMf ?_) | (refine iMi ?_; refine qMi ?_) | (refine iTa ?_; refine qTa ?_) | (refine iSt ?_; refine qSt ?_) | (refine iAl ?_; first | refine qAlA (fun _ => ?_) | refine qAlS (fun _ => ?_)) | (refine iBx ?_; first | refine qBxA (fun _ => ?_) | refine qBxS (fun _ => ?_)) | (refine iMm ?_; refine qMm (fun _ => ?_)) | (refine iBs ?_; refine qBs (fun _ => ?_)) | (refine i_gd ?_; first | refine qWant ?_ | refine qSkip ?_ | refine qSkip0 ?_ | refine qSkipU ?_)) | refine tl_nil ?_ | refine tc_seq ?_ | refine tc_region ?_ | refine te_seq ?_ | (refine i_cond ?_; first | refine qCt ?_ | refine qCf ?_) | refine tc_block ?_ | refine te_block_normal ?_ | refine te_block_ret ?_ | refine te_then_ret ?_ | refine te_block_hit ?_ | (refine i_miss ?_; refine qMiss ?_) | refine te_then_exit ?_ | refine tc_exit ?_ | refine tc_ret ?_ | refine tc_skip ?_)
              exact qE ⟨Hp.le_refl _, a, cap, rfl, hR, rfl⟩
          · have he : D.run ⟨kind, at', n, fill, ka, kn, kp⟩ ks = ((D.write at' (fillB fill)).1, zblk, (D.write at' (fillB fill)).2) := by simp [DS.run, hkd, h4, h5, h6, h7, h8]
            simp only [he, bv, ← zblk_cells]
            have hwr := writeR_spec ρ D hD a cap hR at' (fillB fill) (fillB_len _)
            have hone := u8c_one (fillB fill)
            generalize D.write at' (fillB fill) = r at *
            obtain ⟨D2, e⟩ := r
            obtain ⟨s, ops, armed, failing, dead⟩ := D
            obtain ⟨s2, ops2, armed2, failing2, dead2⟩ := D2
            refine spec_enter Try.func29 rfl rfl rfl fun u R => ?_
            simp only [argsE, List.cons_append, List.nil_append, OpV.v, OpV.cells, refV, bv] at hwr ⊢
            repeat' (first | (refine i_op ?_; first | (refine iMv ?_; refine qMv ?_) | (refine iLd ?_; refine qLd ?_) | (refine iFa ?_; refine qFa ?_) | (refine iAd ?_; refine qAd ?_) | (refine iSb ?_; refine qSb ?_) | (refine iMl ?_; refine qMl ?_) | (refine iRm ?_; refine qRm ?_) | (refine iQu ?_; refine qQu ?_) | (refine iSr ?_; refine qSr ?_) | (refine iSh ?_; refine qSh ?_) | (refine iCm ?_; refine qCm ?_) | (refine iEx ?_; refine qEx ?_) | (refine iAs ?_; refine qAs ?_) | (refine iPk ?_; refine qPk ?_) | (refine iNc ?_; refine qNc ?_) | (refine iIa ?_; refine qIa ?_) | (refine iCv ?_; refine qCv ?_) | (refine iBi ?_; refine qBi ?_) | (refine iUn ?_; refine qUn ?_) | (refine iFl ?_; refine qFl ?_) | (refine iLu ?_; refine qLu ?_) | (refine iBu ?_; refine qBu ?_) | (refine iSl ?_; refine qSl ?_) | (refine iMf ?_; refine qMf ?_) | (refine iMi ?_; refine qMi ?_) | (refine iTa ?_; refine qTa ?_) | (refine iSt ?_; refine qSt ?_) | (refine iAl ?_; first | refine qAlA (fun _ => ?_) | refine qAlS (fun _ => ?_)) | (refine iBx ?_; first | refine qBxA (fun _ => ?_) | refine qBxS (fun _ => ?_)) | (refine iMm ?_; refine qMm (fun _ => ?_)) | (refine iBs ?_; refine qBs (fun _ => ?_)) | (refine i_gd ?_; first | refine qWant ?_ | refine qSkip ?_ | refine qSkip0 ?_ | refine qSkipU ?_)) | refine tl_nil ?_ | refine tc_seq ?_ | refine tc_region ?_ | refine te_seq ?_ | (refine i_cond ?_; first | refine qCt ?_ | refine qCf ?_) | refine tc_block ?_ | refine te_block_normal ?_ | refine te_block_ret ?_ | refine te_then_ret ?_ | refine te_block_hit ?_ | (refine i_miss ?_; refine qMiss ?_) | refine te_then_exit ?_ | refine tc_exit ?_ | refine tc_ret ?_ | refine tc_skip ?_)
            rename_i b2 b3 b4 b5 b7
            refine tc_any (Stays _ _ ([[(b2, .cells ⟨[.int .i64 kind, .int .i64 at', .int .i64 n, u8c fill, .slice ka kn kp]⟩ 25 (0, 0))]])) (stays_of (Hp.le_refl _)) ?_
            all_goals refine rFa 1 ?_
            all_goals refine rLd 2 ?_
            all_goals refine rLd 3 ?_
            all_goals (refine rStep2 (i := 0) (j := 4) ?_ ?_ <;> ((try refine qWant ?_); (first | (refine tl_is (.func 15) ?_; refine qC rfl rfl (blockR_at _ _ _ _ _ _ _ _) ?_; rintro v ρ' L' hle ⟨rfl, rfl, rfl⟩ <;> (try simp only [List.cons_append, List.nil_append, List.append_eq, bv])) | (refine tl_is (.func 50) ?_; refine qC rfl rfl (hwr) ?_; rintro v ρ' L' hle ⟨hle, a', cap', rfl, hR', rfl⟩ <;> (try simp only [List.cons_append, List.nil_append, List.append_eq])) | (refine iSt ?_; refine qSt ?_) | (refine iAl ?_; first | refine qAlA (fun _ => ?_) | refine qAlS (fun _ => ?_)) | (refine iBx ?_; first | refine qBxA (fun _ => ?_) | refine qBxS (fun _ => ?_)) | (refine iMm ?_; refine qMm (fun _ => ?_)) | (refine iBs ?_; refine qBs (fun _ => ?_)) | (refine i_op ?_; first | (refine iMv ?_; refine qMv ?_) | (refine iLd ?_; refine qLd ?_) | (refine iFa ?_; refine qFa ?_) | (refine iAd ?_; refine qAd ?_) | (refine iSb ?_; refine qSb ?_) | (refine iMl ?_; refine qMl ?_) | (refine iRm ?_; refine qRm ?_) | (refine iQu ?_; refine qQu ?_) | (refine iSr ?_; refine qSr ?_) | (refine iSh ?_; refine qSh ?_) | (refine iCm ?_; refine qCm ?_) | (refine iEx ?_; refine qEx ?_) | (refine iAs ?_; refine qAs ?_) | (refine iPk ?_; refine qPk ?_) | (refine iNc ?_; refine qNc ?_) | (refine iIa ?_; refine qIa ?_) | (refine iCv ?_; refine qCv ?_) | (refine iBi ?_; refine qBi ?_) | (refine iUn ?_; refine qUn ?_) | (refine iFl ?_; refine qFl ?_) | (refine iLu ?_; refine qLu ?_) | (refine iBu ?_; refine qBu ?_) | (refine iSl ?_; refine qSl ?_) | (refine iMf ?_; refine qMf ?_) | (refine iMi ?_; refine qMi ?_) | (refine iTa ?_; refine qTa ?_) | (refine iSt ?_; refine qSt ?_) | (refine iAl ?_; first | refine qAlA (fun _ => ?_) | refine qAlS (fun _ => ?_)) | (refine iBx ?_; first | refine qBxA (fun _ => ?_) | refine qBxS (fun _ => ?_)) | (refine iMm ?_; refine qMm (fun _ => ?_)) | (refine iBs ?_; refine qBs (fun _ => ?_)) | (refine i_gd ?_; first | refine qWant ?_ | refine qSkip ?_ | refine qSkip0 ?_ | refine qSkipU ?_))); (try simp only [List.cons_append, List.nil_append, List.append_eq]); refine tl_nil ?_; refine rNext ?_))
            all_goals (first | (refine rStep (i := 4) ?_; ((try refine qWant ?_); (first | (refine tl_is (.func 15) ?_; refine qC rfl rfl (blockR_at _ _ _ _ _ _ _ _) ?_; rintro v ρ' L' hle ⟨rfl, rfl, rfl⟩ <;> (try simp only [List.cons_append, List.nil_append, List.append_eq, bv])) | (refine tl_is (.func 50) ?_; refine qC rfl rfl (hwr) ?_; rintro v ρ' L' hle ⟨hle, a', cap', rfl, hR', rfl⟩ <;> (try simp only [List.cons_append, List.nil_append, List.append_eq])) | (refine iSt ?_; refine qSt ?_) | (refine iAl ?_; first | refine qAlA (fun _ => ?_) | refine qAlS (fun _ => ?_)) | (refine iBx ?_; first | refine qBxA (fun _ => ?_) | refine qBxS (fun _ => ?_)) | (refine iMm ?_; refine qMm (fun _ => ?_)) | (refine iBs ?_; refine qBs (fun _ => ?_)) | (refine i_op ?_; first | (refine iMv ?_; refine qMv ?_) | (refine iLd ?_; refine qLd ?_) | (refine iFa ?_; refine qFa ?_) | (refine iAd ?_; refine qAd ?_) | (refine iSb ?_; refine qSb ?_) | (refine iMl ?_; refine qMl ?_) | (refine iRm ?_; refine qRm ?_) | (refine iQu ?_; refine qQu ?_) | (refine iSr ?_; refine qSr ?_) | (refine iSh ?_; refine qSh ?_) | (refine iCm ?_; refine qCm ?_) | (refine iEx ?_; refine qEx ?_) | (refine iAs ?_; refine qAs ?_) | (refine iPk ?_; refine qPk ?_) | (refine iNc ?_; refine qNc ?_) | (refine iIa ?_; refine qIa ?_) | (refine iCv ?_; refine qCv ?_) | (refine iBi ?_; refine qBi ?_) | (refine iUn ?_; refine qUn ?_) | (refine iFl ?_; refine qFl ?_) | (refine iLu ?_; refine qLu ?_) | (refine iBu ?_; refine qBu ?_) | (refine iSl ?_; refine qSl ?_) | (refine iMf ?_; refine qMf ?_) | (refine iMi ?_; refine qMi ?_) | (refine iTa ?_; refine qTa ?_) | (refine iSt ?_; refine qSt ?_) | (refine iAl ?_; first | refine qAlA (fun _ => ?_) | refine qAlS (fun _ => ?_)) | (refine iBx ?_; first | refine qBxA (fun _ => ?_) | refine qBxS (fun _ => ?_)) | (refine iMm ?_; refine qMm (fun _ => ?_)) | (refine iBs ?_; refine qBs (fun _ => ?_)) | (refine i_gd ?_; first | refine qWant ?_ | refine qSkip ?_ | refine qSkip0 ?_ | refine qSkipU ?_))); (try simp only [List.cons_append, List.nil_append, List.append_eq]); refine tl_nil ?_; refine rNext ?_)) | (refine rStep (i := 0) ?_; ((try refine qWant ?_); (first | (refine tl_is (.func 15) ?_; refine qC rfl rfl (blockR_at _ _ _ _ _ _ _ _) ?_; rintro v ρ' L' hle ⟨rfl, rfl, rfl⟩ <;> (try simp only [List.cons_append, List.nil_append, List.append_eq, bv])) | (refine tl_is (.func 50) ?_; refine qC rfl rfl (hwr) ?_; rintro v ρ' L' hle ⟨hle, a', cap', rfl, hR', rfl⟩ <;> (try simp only [List.cons_append, List.nil_append, List.append_eq])) | (refine iSt ?_; refine qSt ?_) | (refine iAl ?_; first | refine qAlA (fun _ => ?_) | refine qAlS (fun _ => ?_)) | (refine iBx ?_; first | refine qBxA (fun _ => ?_) | refine qBxS (fun _ => ?_)) | (refine iMm ?_; refine qMm (fun _ => ?_)) | (refine iBs ?_; refine qBs (fun _ => ?_)) | (refine i_op ?_; first | (refine iMv ?_; refine qMv ?_) | (refine iLd ?_; refine qLd ?_) | (refine iFa ?_; refine qFa ?_) | (refine iAd ?_; refine qAd ?_) | (refine iSb ?_; refine qSb ?_) | (refine iMl ?_; refine qMl ?_) | (refine iRm ?_; refine qRm ?_) | (refine iQu ?_; refine qQu ?_) | (refine iSr ?_; refine qSr ?_) | (refine iSh ?_; refine qSh ?_) | (refine iCm ?_; refine qCm ?_) | (refine iEx ?_; refine qEx ?_) | (refine iAs ?_; refine qAs ?_) | (refine iPk ?_; refine qPk ?_) | (refine iNc ?_; refine qNc ?_) | (refine iIa ?_; refine qIa ?_) | (refine iCv ?_; refine qCv ?_) | (refine iBi ?_; refine qBi ?_) | (refine iUn ?_; refine qUn ?_) | (refine iFl ?_; refine qFl ?_) | (refine iLu ?_; refine qLu ?_) | (refine iBu ?_; refine qBu ?_) | (refine iSl ?_; refine qSl ?_) | (refine iMf ?_; refine qMf ?_) | (refine iMi ?_; refine qMi ?_) | (refine iTa ?_; refine qTa ?_) | (refine iSt ?_; refine qSt ?_) | (refine iAl ?_; first | refine qAlA (fun _ => ?_) | refine qAlS (fun _ => ?_)) | (refine iBx ?_; first | refine qBxA (fun _ => ?_) | refine qBxS (fun _ => ?_)) | (refine iMm ?_; refine qMm (fun _ => ?_)) | (refine iBs ?_; refine qBs (fun _ => ?_)) | (refine i_gd ?_; first | refine qWant ?_ | refine qSkip ?_ | refine qSkip0 ?_ | refine qSkipU ?_))); (try simp only [List.cons_append, List.nil_append, List.append_eq]); refine tl_nil ?_; refine rNext ?_)))
            all_goals (refine rStep (i := 5) ?_; ((try refine qWant ?_); (first | (refine tl_is (.func 15) ?_; refine qC rfl rfl (blockR_at _ _ _ _ _ _ _ _) ?_; rintro v ρ' L' hle ⟨rfl, rfl, rfl⟩ <;> (try simp only [List.cons_append, List.nil_append, List.append_eq, bv])) | (refine tl_is (.func 50) ?_; refine qC rfl rfl (hwr) ?_; rintro v ρ' L' hle ⟨hle, a', cap', rfl, hR', rfl⟩ <;> (try simp only [List.cons_append, List.nil_append, List.append_eq])) | (refine iSt ?_; refine qSt ?_) | (refine iAl ?_; first | refine qAlA (fun _ => ?_) | refine qAlS (fun _ => ?_)) | (refine iBx ?_; first | refine qBxA (fun _ => ?_) | refine qBxS (fun _ => ?_)) | (refine iMm ?_; refine qMm (fun _ => ?_)) | (refine iBs ?_; refine qBs (fun _ => ?_)) | (refine i_op ?_; first | (refine iMv ?_; refine qMv ?_) | (refine iLd ?_; refine qLd ?_) | (refine iFa ?_; refine qFa ?_) | (refine iAd ?_; refine qAd ?_) | (refine iSb ?_; refine qSb ?_) | (refine iMl ?_; refine qMl ?_) | (refine iRm ?_; refine qRm ?_) | (refine iQu ?_; refine qQu ?_) | (refine iSr ?_; refine qSr ?_) | (refine iSh ?_; refine qSh ?_) | (refine iCm ?_; refine qCm ?_) | (refine iEx ?_; refine qEx ?_) | (refine iAs ?_; refine qAs ?_) | (refine iPk ?_; refine qPk ?_) | (refine iNc ?_; refine qNc ?_) | (refine iIa ?_; refine qIa ?_) | (refine iCv ?_; refine qCv ?_) | (refine iBi ?_; refine qBi ?_) | (refine iUn ?_; refine qUn ?_) | (refine iFl ?_; refine qFl ?_) | (refine iLu ?_; refine qLu ?_) | (refine iBu ?_; refine qBu ?_) | (refine iSl ?_; refine qSl ?_) | (refine iMf ?_; refine qMf ?_) | (refine iMi ?_; refine qMi ?_) | (refine iTa ?_; refine qTa ?_) | (refine iSt ?_; refine qSt ?_) | (refine iAl ?_; first | refine qAlA (fun _ => ?_) | refine qAlS (fun _ => ?_)) | (refine iBx ?_; first | refine qBxA (fun _ => ?_) | refine qBxS (fun _ => ?_)) | (refine iMm ?_; refine qMm (fun _ => ?_)) | (refine iBs ?_; refine qBs (fun _ => ?_)) | (refine i_gd ?_; first | refine qWant ?_ | refine qSkip ?_ | refine qSkip0 ?_ | refine qSkipU ?_))); (try simp only [List.cons_append, List.nil_append, List.append_eq]); refine tl_nil ?_; refine rNext ?_))
            all_goals refine rMv 6 ?_
            all_goals refine rEx 7 ?_
            all_goals refine rEx 8 ?_
            all_goals (refine rStep (i := 9) ?_; ((try refine qWant ?_); (first | (refine tl_is (.func 15) ?_; refine qC rfl rfl (blockR_at _ _ _ _ _ _ _ _) ?_; rintro v ρ' L' hle ⟨rfl, rfl, rfl⟩ <;> (try simp only [List.cons_append, List.nil_append, List.append_eq, bv])) | (refine tl_is (.func 50) ?_; refine qC rfl rfl (hwr) ?_; rintro v ρ' L' hle ⟨hle, a', cap', rfl, hR', rfl⟩ <;> (try simp only [List.cons_append, List.nil_append, List.append_eq])) | (refine iSt ?_; refine qSt ?_) | (refine iAl ?_; first | refine qAlA (fun _ => ?_) | refine qAlS (fun _ => ?_)) | (refine iBx ?_; first | refine qBxA (fun _ => ?_) | refine qBxS (fun _ => ?_)) | (refine iMm ?_; refine qMm (fun _ => ?_)) | (refine iBs ?_; refine qBs (fun _ => ?_)) | (refine i_op ?_; first | (refine iMv ?_; refine qMv ?_) | (refine iLd ?_; refine qLd ?_) | (refine iFa ?_; refine qFa ?_) | (refine iAd ?_; refine qAd ?_) | (refine iSb ?_; refine qSb ?_) | (refine iMl ?_; refine qMl ?_) | (refine iRm ?_; refine qRm ?_) | (refine iQu ?_; refine qQu ?_) | (refine iSr ?_; refine qSr ?_) | (refine iSh ?_; refine qSh ?_) | (refine iCm ?_; refine qCm ?_) | (refine iEx ?_; refine qEx ?_) | (refine iAs ?_; refine qAs ?_) | (refine iPk ?_; refine qPk ?_) | (refine iNc ?_; refine qNc ?_) | (refine iIa ?_; refine qIa ?_) | (refine iCv ?_; refine qCv ?_) | (refine iBi ?_; refine qBi ?_) | (refine iUn ?_; refine qUn ?_) | (refine iFl ?_; refine qFl ?_) | (refine iLu ?_; refine qLu ?_) | (refine iBu ?_; refine qBu ?_) | (refine iSl ?_; refine qSl ?_) | (refine iMf ?_; refine qMf ?_) | (refine iMi ?_; refine qMi ?_) | (refine iTa ?_; refine qTa ?_) | (refine iSt ?_; refine qSt ?_) | (refine iAl ?_; first | refine qAlA (fun _ => ?_) | refine qAlS (fun _ => ?_)) | (refine iBx ?_; first | refine qBxA (fun _ => ?_) | refine qBxS (fun _ => ?_)) | (refine iMm ?_; refine qMm (fun _ => ?_)) | (refine iBs ?_; refine qBs (fun _ => ?_)) | (refine i_gd ?_; first | refine qWant ?_ | refine qSkip ?_ | refine qSkip0 ?_ | refine qSkipU ?_))); (try simp only [List.cons_append, List.nil_append, List.append_eq]); refine tl_nil ?_; refine rNext ?_))
            all_goals refine rFull ?_
            all_goals refine rAs 10 ?_
            all_goals refine rDone ?_
            all_goals (repeat' (first | (refine i_op ?_; first | (refine iMv ?_; refine qMv ?_) | (refine iLd ?_; refine qLd ?_) | (refine iFa ?_; refine qFa ?_) | (refine iAd ?_; refine qAd ?_) | (refine iSb ?_; refine qSb ?_) | (refine iMl ?_; refine qMl ?_) | (refine iRm ?_; refine qRm ?_) | (refine iQu ?_; refine qQu ?_) | (refine iSr ?_; refine qSr ?_) | (refine iSh ?_; refine qSh ?_) | (refine iCm ?_; refine qCm ?_) | (refine iEx ?_; refine qEx ?_) | (refine iAs ?_; refine qAs ?_) | (refine iPk ?_; refine qPk ?_) | (refine iNc ?_; refine qNc ?_) | (refine iIa ?_; refine qIa ?_) | (refine iCv ?_; refine qCv ?_) | (refine iBi ?_; refine qBi ?_) | (refine iUn ?_; refine qUn ?_) | (refine iFl ?_; refine qFl ?_) | (refine iLu ?_; refine qLu ?_) | (refine iBu ?_; refine qBu ?_) | (refine iSl ?_; refine qSl ?_) | (refine iMf ?_; refine qMf ?_) | (refine iMi ?_; refine qMi ?_) | (refine iTa ?_; refine qTa ?_) | (refine iSt ?_; refine qSt ?_) | (refine iAl ?_; first | refine qAlA (fun _ => ?_) | refine qAlS (fun _ => ?_)) | (refine iBx ?_; first | refine qBxA (fun _ => ?_) | refine qBxS (fun _ => ?_)) | (refine iMm ?_; refine qMm (fun _ => ?_)) | (refine iBs ?_; refine qBs (fun _ => ?_)) | (refine i_gd ?_; first | refine qWant ?_ | refine qSkip ?_ | refine qSkip0 ?_ | refine qSkipU ?_)) | refine tl_nil ?_ | refine tc_seq ?_ | refine tc_region ?_ | refine te_seq ?_ | (refine i_cond ?_; first | refine qCt ?_ | refine qCf ?_) | refine tc_block ?_ | refine te_block_normal ?_ | refine te_block_ret ?_ | refine te_then_ret ?_ | refine te_block_hit ?_ | (refine i_miss ?_; refine qMiss ?_) | refine te_then_exit ?_ | refine tc_exit ?_ | refine tc_ret ?_ | refine tc_skip ?_))
            all_goals refine tc_any (Stays _ _ ([[(b3, .cells ⟨[.slice a' s2.length cap', .int .i64 ops2, .int .i64 armed2, .int .i64 failing2, .bool dead2]⟩ 60 (0, 0))],[(b7, .cells ⟨List.replicate 64 (.int .u8 0)⟩ 34 (0, 0))]])) (stays_of (Hp.le_refl _)) ?_
            all_goals refine rLd 0 ?_
            all_goals refine rLd 1 ?_
            all_goals refine rMv 2 ?_
            all_goals (refine rStep (i := 3) ?_; ((try refine qWant ?_); (first | (refine iSt ?_; refine qSt ?_) | (refine iAl ?_; first | refine qAlA (fun _ => ?_) | refine qAlS (fun _ => ?_)) | (refine iBx ?_; first | refine qBxA (fun _ => ?_) | refine qBxS (fun _ => ?_)) | (refine iMm ?_; refine qMm (fun _ => ?_)) | (refine iBs ?_; refine qBs (fun _ => ?_))); (try simp only [List.cons_append, List.nil_append, List.append_eq]); refine tl_nil ?_; refine rNext ?_))
            all_goals (refine rStep (i := 4) ?_; ((try refine qWant ?_); (first | (refine iSt ?_; refine qSt ?_) | (refine iAl ?_; first | refine qAlA (fun _ => ?_) | refine qAlS (fun _ => ?_)) | (refine iBx ?_; first | refine qBxA (fun _ => ?_) | refine qBxS (fun _ => ?_)) | (refine iMm ?_; refine qMm (fun _ => ?_)) | (refine iBs ?_; refine qBs (fun _ => ?_))); (try simp only [List.cons_append, List.nil_append, List.append_eq]); refine tl_nil ?_; refine rNext ?_))
            all_goals refine rFull ?_
            all_goals refine rAs 5 ?_
            all_goals refine rDone ?_
            all_goals (repeat' (first | (refine i_op ?_; first | (refine iMv ?_; refine qMv ?_) | (refine iLd ?_; refine qLd ?_) | (refine iFa ?_; refine qFa ?_) | (refine iAd ?_; refine qAd ?_) | (refine iSb ?_; refine qSb ?_) | (refine iMl ?_; refine qMl ?_) | (refine iRm ?_; refine qRm ?_) | (refine iQu ?_; refine qQu ?_) | (refine iSr ?_; refine qSr ?_) | (refine iSh ?_; refine qSh ?_) | (refine iCm ?_; refine qCm ?_) | (refine iEx ?_; refine qEx ?_) | (refine iAs ?_; refine qAs ?_) | (refine iPk ?_; refine qPk ?_) | (refine iNc ?_; refine qNc ?_) | (refine iIa ?_; refine qIa ?_) | (refine iCv ?_; refine qCv ?_) | (refine iBi ?_; refine qBi ?_) | (refine iUn ?_; refine qUn ?_) | (refine iFl ?_; refine qFl ?_) | (refine iLu ?_; refine qLu ?_) | (refine iBu ?_; refine qBu ?_) | (refine iSl ?_; refine qSl ?_) | (refine iMf ?_; refine qMf ?_) | (refine iMi ?_; refine qMi ?_) | (refine iTa ?_; refine qTa ?_) | (refine iSt ?_; refine qSt ?_) | (refine iAl ?_; first | refine qAlA (fun _ => ?_) | refine qAlS (fun _ => ?_)) | (refine iBx ?_; first | refine qBxA (fun _ => ?_) | refine qBxS (fun _ => ?_)) | (refine iMm ?_; refine qMm (fun _ => ?_)) | (refine iBs ?_; refine qBs (fun _ => ?_)) | (refine i_gd ?_; first | refine qWant ?_ | refine qSkip ?_ | refine qSkip0 ?_ | refine qSkipU ?_)) | refine tl_nil ?_ | refine tc_seq ?_ | refine tc_region ?_ | refine te_seq ?_ | (refine i_cond ?_; first | refine qCt ?_ | refine qCf ?_) | refine tc_block ?_ | refine te_block_normal ?_ | refine te_block_ret ?_ | refine te_then_ret ?_ | refine te_block_hit ?_ | (refine i_miss ?_; refine qMiss ?_) | refine te_then_exit ?_ | refine tc_exit ?_ | refine tc_ret ?_ | refine tc_skip ?_))
            all_goals exact qE ⟨hle, a', cap', rfl, hR', rfl⟩
end Go.Proofs.E

