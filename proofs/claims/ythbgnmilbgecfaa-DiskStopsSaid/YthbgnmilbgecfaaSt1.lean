/- DiskStops holds for every input, under no condition. Part 1 of 1. -/
import Derived.Test.YthbgnmilbgecfaaB3
import Derived.Test.YthbgnmilbgecfaaRows
namespace Go.Proofs.E
open Go Go.RowKit
set_option linter.unusedVariables false
set_option linter.unusedSimpArgs false
set_option linter.unusedSectionVars false

/-! ## what the laws of this chapter are handed -/
theorem keepIn_of {ρ : Hp} {cs : List Value} {s : Option Addr × Nat × Nat × List Bool} (h : RS ρ 1 RB cs s) : KeepIn ρ s.1 s.2.1 s.2.2.1 s.2.2.2 := by
  obtain ⟨a, n, c, ks⟩ := s
  obtain ⟨h1, h2, h3, h4, h5⟩ := h
  dsimp only at h1 h2 h3 h4 h5 ⊢
  refine ⟨h2, h4, by omega, ?_⟩
  by_cases h0 : n = 0
  · exact .inl h0
  · right
    obtain ⟨b, off, C, T, fr, e1, e2, e3, e4⟩ := h5 0 (by omega)
    have same : ∀ i (h : i < ks.length), off + i * 1 + 1 ≤ C.length ∧ (C.drop (off + i * 1)).take 1 = [.bool ks[i]] := fun i hi => by
      obtain ⟨b', off', C', T', fr', f1, f2, f3, f4⟩ := h5 i hi
      rw [e1] at f1
      cases f1
      rw [e2] at f2
      cases f2
      exact ⟨f3, f4⟩
    refine ⟨b, off, C, T, fr, e1, e2, ?_⟩
    apply List.ext_getElem
    · have := (same (n - 1) (by omega)).1
      simp; omega
    · intro i h1 h2
      have hi : i < ks.length := by simpa using h2
      have h3 := (same i hi).2
      have h4 := congrArg (fun l : List Value => l[0]?) h3
      simp only [List.getElem?_cons_zero] at h4
      rw [List.getElem?_take_of_lt (by omega), List.getElem?_drop] at h4
      have h5 : C[off + i]? = some (.bool ks[i]) := by simpa using h4
      simp only [List.getElem_take, List.getElem_drop, List.getElem_map, bb]
      have := (List.getElem?_eq_some_iff.1 h5).2
      exact this
section
variable {H : Type} {enc : TypeId × Value → H} {w : World}
theorem opn_op : Opn enc Try.prog w 25 (fun cs (o : OpV × List Bool) => cs = o.1.cells ∧ KeepIn (hpOf w) o.1.ka o.1.kn o.1.kp o.2) := fun fuel cs x h => by
  obtain ⟨hl, hf⟩ := opn_fields Try.underlying25 h
  have hl : cs.length = 5 := by rw [hl]; kernel_rfl
  obtain ⟨c0, c1, c2, c3, c4, rfl⟩ : ∃ c0 c1 c2 c3 c4, cs = [c0, c1, c2, c3, c4] := by
    match cs, hl with
    | [c0, c1, c2, c3, c4], _ => exact ⟨c0, c1, c2, c3, c4, rfl⟩
  obtain ⟨k, h0, _⟩ := opn_field h Try.underlying25 0 0 1 rfl rfl rfl (by kernel_rfl) (opn_int Try.underlying3)
  obtain ⟨a, h1, _⟩ := opn_field h Try.underlying25 1 1 1 rfl rfl rfl (by kernel_rfl) (opn_int Try.underlying3)
  obtain ⟨m, h2, _⟩ := opn_field h Try.underlying25 2 2 1 rfl rfl rfl (by kernel_rfl) (opn_int Try.underlying3)
  obtain ⟨y, h3, y0, y1⟩ := opn_field h Try.underlying25 3 3 1 rfl rfl rfl (by kernel_rfl) (opn_int Try.underlying5)
  obtain ⟨⟨ka, kn, kp, ks⟩, h4⟩ := opn_field h Try.underlying25 4 4 1 rfl rfl rfl (by kernel_rfl) (opn_slice (sz := 1) Try.underlying23 (by kernel_rfl) (by decide) (opn_bool Try.underlying4))
  have hk := keepIn_of h4
  replace h4 := h4.cells
  simp only [List.drop_zero, List.drop_succ_cons, List.take_succ_cons, List.take_zero, List.cons.injEq, and_true] at h0 h1 h2 h3 h4
  subst h0; subst h1; subst h2; subst h3; subst h4
  simp only [lo, hi] at y0 y1
  refine ⟨(⟨k, a, m, UInt8.ofNat y.toNat, ka, kn, kp⟩, ks), ?_, hk⟩
  simp only [OpV.cells, u8c]
  have : ((UInt8.ofNat y.toNat).toNat : Int) = y := by simp [UInt8.toNat_ofNat]; omega
  rw [this]
theorem opn_ops : Opn enc Try.prog w 22 (RS (hpOf w) 5 (fun cs (o : OpV × List Bool) => cs = o.1.cells ∧ KeepIn (hpOf w) o.1.ka o.1.kn o.1.kp o.2)) :=
  opn_slice Try.underlying22 (by kernel_rfl) (by decide) opn_op
theorem opsIn_of {ρ : Hp} {cs : List Value} {s : Option Addr × Nat × Nat × List (OpV × List Bool)} (h : RS ρ 5 (fun cs (o : OpV × List Bool) => cs = o.1.cells ∧ KeepIn ρ o.1.ka o.1.kn o.1.kp o.2) cs s) (hb : s.2.1 ≤ 9223372036854775806) : OpsIn ρ s.1 s.2.1 s.2.2.2 := by
  obtain ⟨a, n, c, ks⟩ := s
  obtain ⟨h1, h2, h3, h4, h5⟩ := h
  dsimp only at h1 h2 h3 h4 h5 hb ⊢
  refine ⟨h4, hb, fun i hi => ?_⟩
  obtain ⟨b, off, C, T, fr, e1, e2, e3, e4, e5⟩ := h5 i hi
  exact ⟨b, off, C, T, fr, e1, e2, e3, e4, e5⟩
end
end Go.Proofs.E

namespace Go.Proofs.E
open Go
set_option linter.unusedVariables false
set_option linter.unusedSimpArgs false
set_option linter.unusedSectionVars false

/-! ## DiskStops: the plain law -/
structure SInv (k done len : Nat) (D : DS) : Prop where
  ok : D.Ok
  failing : D.failing = -1
  len' : D.secs.length = len
  le : done ≤ k
  armed : D.dead = false → D.armed = (k : Int) - done
theorem run_read {D : DS} {o ks} (h : opK o = 4) : D.run o ks = D.read o.at' := by simp [DS.run, h]
theorem run_sync {D : DS} {o ks} (h : opK o = 5) : D.run o ks = (D.sync.1, zblk, D.sync.2) := by simp [DS.run, h]
theorem run_write {D : DS} {o ks} (h : opK o < 4) : D.run o ks = ((D.write o.at' (fillB o.fill)).1, zblk, (D.write o.at' (fillB o.fill)).2) := by
  have h1 : ¬ opK o = 4 := by omega
  have h2 : ¬ opK o = 5 := by omega
  have h3 : ¬ opK o = 6 := by omega
  have h4 : ¬ opK o = 7 := by omega
  have h5 : ¬ opK o = 8 := by omega
  simp [DS.run, h1, h2, h3, h4, h5]
theorem stop_cases (o : OpV) (h : opK o < 6) : opK o = 5 ∨ opK o = 4 ∨ opK o < 4 := by omega
theorem stop_dead {k done len D o ks} (h : SInv k done len D) (hd : D.dead = true) (hk : opK o < 6) : ∃ D' blk, D.run o ks = (D', blk, 9) ∧ SInv k done len D' ∧ D'.dead = true := by
  have : D.run o ks = (D, zblk, 9) := by
    rcases stop_cases o hk with h5 | h4 | h3
    · rw [run_sync h5]; simp [DS.sync, hd]
    · rw [run_read h4]; simp [DS.read, hd]
    · rw [run_write h3]; simp [DS.write, hd]
  exact ⟨D, zblk, this, h, hd⟩
theorem stop_arg {k done len D o ks} (h : SInv k done len D) (hd : D.dead = false) (hk : opK o < 6) (h5 : opK o ≠ 5) (ho : o.at' < 0 ∨ (len : Int) ≤ o.at') : ∃ D' blk, D.run o ks = (D', blk, 2) ∧ SInv k done len D' ∧ D'.dead = false := by
  have ho' : o.at' < 0 ∨ (D.secs.length : Int) ≤ o.at' := by rw [h.len']; exact ho
  have : D.run o ks = (D, zblk, 2) := by
    rcases stop_cases o hk with h5' | h4 | h3
    · exact absurd h5' h5
    · rw [run_read h4]; unfold DS.read; simp only [hd, Bool.false_eq_true, if_false, ho', if_true]
    · rw [run_write h3]; unfold DS.write; simp only [hd, Bool.false_eq_true, if_false, ho', if_true]
  exact ⟨D, zblk, this, h, hd⟩
theorem stop_read {k done len D o ks} (h : SInv k done len D) (hd : D.dead = false) (h4 : opK o = 4) (h0 : 0 ≤ o.at') (h1 : o.at' < len) : ∃ D' blk, D.run o ks = (D', blk, 0) ∧ SInv k done len D' ∧ D'.dead = false := by
  have ho' : ¬ (o.at' < 0 ∨ (D.secs.length : Int) ≤ o.at') := by rw [h.len']; omega
  have hf : ¬ D.failing = 0 := by rw [h.failing]; decide
  have hc : cnt (-1) = -1 := by decide
  refine ⟨D.tick, says1 (D.secs[o.at'.toNat]?.getD (zblk, none)), ?_, ⟨h.ok.tick, by simp only [DS.tick, h.failing, hc], h.len', h.le, h.armed⟩, hd⟩
  · rw [run_read h4]; unfold DS.read; simp only [hd, Bool.false_eq_true, if_false, ho', hf]
theorem stop_last {k done len D o ks} (h : SInv k done len D) (hd : D.dead = false) (hk : opK o < 6) (h4 : opK o ≠ 4) (ho : opK o = 5 ∨ (0 ≤ o.at' ∧ o.at' < len)) (he : done = k) : ∃ D' blk, D.run o ks = (D', blk, 9) ∧ SInv k done len D' ∧ D'.dead = true := by
  have ha : D.armed = 0 := by rw [h.armed hd, he]; omega
  have hc : cnt (-1) = -1 := by decide
  have hok : (D.run o ks).1.Ok := h.ok.run hk
  rcases stop_cases o hk with h5 | h4' | h3
  · rw [run_sync h5] at hok ⊢
    have hs : D.sync = ({ D.tick with dead := true }, 9) := by simp [DS.sync, hd, ha]
    rw [hs] at hok ⊢
    exact ⟨_, _, rfl, ⟨hok, by simp only [DS.tick, h.failing, hc], h.len', h.le, fun h => by cases h⟩, rfl⟩
  · exact absurd h4' h4
  · rw [run_write h3] at hok ⊢
    have hr : 0 ≤ o.at' ∧ o.at' < len := ho.resolve_left (by omega)
    have ho' : ¬ (o.at' < 0 ∨ (D.secs.length : Int) ≤ o.at') := by rw [h.len']; omega
    have hs : D.write o.at' (fillB o.fill) = ({ D.tick with dead := true, secs := putC D.secs o.at'.toNat (fillB o.fill) }, 9) := by
      unfold DS.write; simp only [hd, Bool.false_eq_true, if_false, ho', ha, if_true]
    rw [hs] at hok ⊢
    exact ⟨_, _, rfl, ⟨hok, by simp only [DS.tick, h.failing, hc], by simp only [putC_length]; exact h.len', h.le, fun h => by cases h⟩, rfl⟩
theorem stop_done {k done len D o ks} (h : SInv k done len D) (hd : D.dead = false) (hk : opK o < 6) (h4 : opK o ≠ 4) (ho : opK o = 5 ∨ (0 ≤ o.at' ∧ o.at' < len)) (he : done ≠ k) : ∃ D' blk, D.run o ks = (D', blk, 0) ∧ SInv k (done + 1) len D' ∧ D'.dead = false := by
  have hle := h.le
  have ha : D.armed = (k : Int) - done := h.armed hd
  have ha0 : ¬ D.armed = 0 := by rw [ha]; omega
  have hf : ¬ D.failing = 0 := by rw [h.failing]; decide
  have hc : cnt (-1) = -1 := by decide
  have hca : cnt D.armed = (k : Int) - (done + 1 : Nat) := by rw [ha]; unfold cnt; omega
  have hok : (D.run o ks).1.Ok := h.ok.run hk
  rcases stop_cases o hk with h5 | h4' | h3
  · rw [run_sync h5] at hok ⊢
    have hs : D.sync = ({ D.tick with armed := cnt D.armed, secs := settled (fun _ => true) D.secs }, 0) := by unfold DS.sync; simp only [hd, Bool.false_eq_true, if_false, ha0, hf]
    rw [hs] at hok ⊢
    exact ⟨_, _, rfl, ⟨hok, by simp only [DS.tick, h.failing, hc], by simp only [settled_length]; exact h.len', by omega, fun _ => hca⟩, hd⟩
  · exact absurd h4' h4
  · rw [run_write h3] at hok ⊢
    have hr : 0 ≤ o.at' ∧ o.at' < len := ho.resolve_left (by omega)
    have ho' : ¬ (o.at' < 0 ∨ (D.secs.length : Int) ≤ o.at') := by rw [h.len']; omega
    have hs : D.write o.at' (fillB o.fill) = ({ D.tick with armed := cnt D.armed, secs := putC D.secs o.at'.toNat (fillB o.fill) }, 0) := by
      unfold DS.write; simp only [hd, Bool.false_eq_true, if_false, ho', ha0, hf]
    rw [hs] at hok ⊢
    exact ⟨_, _, rfl, ⟨hok, by simp only [DS.tick, h.failing, hc], by simp only [putC_length]; exact h.len', by omega, fun _ => hca⟩, hd⟩
theorem run_blk {D : DS} (hD : D.Ok) {o : OpV} {ks : List Bool} : (D.run o ks).2.1.length = 64 := by
  unfold DS.run
  split
  · exact read_len hD _
  · repeat' (split; · rfl)
    rfl
theorem opsIn_nil (ρ : Hp) : OpsIn ρ none 0 [] := ⟨rfl, by decide, fun i h => by simp at h⟩
theorem u64_small {a : Int} : IntKind.i64.wrap ((IntKind.u64.wrap a).tmod 8) = ((((IntKind.u64.wrap a).tmod 8).toNat : Nat) : Int) ∧ ((IntKind.u64.wrap a).tmod 8).toNat < 8 := by
  have h0 : 0 ≤ IntKind.u64.wrap a := by simp only [IntKind.wrap, IntKind.bits, IntKind.signed, Bool.false_and, Bool.false_eq_true, if_false]; omega
  have h1 : (IntKind.u64.wrap a).tmod 8 < 8 := Int.tmod_lt_of_pos _ (by decide)
  have h2 : 0 ≤ (IntKind.u64.wrap a).tmod 8 := Int.tmod_nonneg _ h0
  refine ⟨?_, by omega⟩
  rw [wrap_id (by simp only [lo, hi]; omega)]
  omega
end Go.Proofs.E

namespace Go.Proofs.E
open Go
set_option linter.unusedVariables false
set_option linter.unusedSimpArgs false
set_option linter.unusedSectionVars false
set_option maxRecDepth 4000
set_option maxHeartbeats 1000000
attribute [local irreducible] Yl TL TC TE Spec YSpec R1 Hp.le EnvLe TS TR YS Stays
theorem stops_spec (ρ : Hp) (k0 : Int) (oa : Option Addr) (n cap : Nat) (ops : List (OpV × List Bool)) (hO : OpsIn ρ oa n ops) (at0 : Int) :
    Spec Try.prog 4 [.int .i64 k0, .slice oa n cap, .int .i64 at0] ρ [] (fun v ρ' L' => v = .bool true ∧ ρ.le ρ' ∧ L' = []) := by
  have hbig := hO.big
  have hon := hO.len
  refine spec_enter Try.func4 rfl rfl rfl fun u R => ?_
  simp only [argsE, List.cons_append, List.nil_append]
  have hkk := u64_small (a := at0)
  generalize hkd : ((IntKind.u64.wrap at0).tmod 8).toNat = kk at hkk
  have hnew : DS.arm (DS.new (sizeN k0)) kk = ({ DS.new (sizeN k0) with armed := kk }, 0) := by
    have : max (kk : Int) (-1) = kk := by omega
    simp [DS.arm, DS.new, this]
  have hnok : (DS.new (sizeN k0)).Ok := new_okD sizeN_pos (Nat.le_trans sizeN_le (by decide))
  have harm := fun ρ b hb mb es ck => arm_disk ρ b hb mb es ck (DS.new (sizeN k0)) kk
  simp only [hnew] at harm
  have hinv : SInv kk 0 (sizeN k0) { DS.new (sizeN k0) with armed := kk } := ⟨⟨hnok.secs, by dsimp only; omega, by dsimp only; omega, hnok.f1, hnok.f2⟩, rfl, by simp [DS.new, fresh], by omega, fun _ => by dsimp only; omega⟩
  repeat' (first | (refine tl_is (.func 9) ?_; refine qC rfl rfl (wakes_spec _) ?_; rintro v ρ' L' hle ⟨rfl, hle1, rfl⟩ <;> (try simp only [List.cons_append, List.nil_append, List.append_eq])) | (refine tl_is (.func 10) ?_; refine tl_call rfl rfl (played_spec _ k0 none 0 0 [] (opsIn_nil _)) take_nil' rfl ?_; rintro v ρ2 L' hle' ⟨hle2, b, hb, mb, es, ck, rfl, hm, rfl⟩; simp only [playTo] at hm ⊢) | (refine iCv ?_; refine tl_y (y_conv rfl) rfl rfl ?_; rw [hkk.1]) | (refine tl_is (.func 20) ?_; refine qC rfl rfl (harm _ _ _ _ _ _) ?_; rintro v ρ' L' hle ⟨rfl, rfl, rfl⟩ <;> (try simp only [List.cons_append, List.nil_append, List.append_eq])) | (refine i_op ?_; first | (refine iMv ?_; refine qMv ?_) | (refine iLd ?_; refine qLd ?_) | (refine iFa ?_; refine qFa ?_) | (refine iAd ?_; refine qAd ?_) | (refine iSb ?_; refine qSb ?_) | (refine iMl ?_; refine qMl ?_) | (refine iRm ?_; refine qRm ?_) | (refine iQu ?_; refine qQu ?_) | (refine iCm ?_; refine qCm ?_) | (refine iEx ?_; refine qEx ?_) | (refine iAs ?_; refine qAs ?_) | (refine iPk ?_; refine qPk ?_) | (refine iNc ?_; refine qNc ?_) | (refine iIa ?_; refine qIa ?_) | (refine iCv ?_; refine qCv ?_) | (refine iBi ?_; refine qBi ?_) | (refine iUn ?_; refine qUn ?_) | (refine iFl ?_; refine qFl ?_) | (refine iLu ?_; refine qLu ?_) | (refine iBu ?_; refine qBu ?_) | (refine iSl ?_; refine qSl ?_) | (refine iMf ?_; refine qMf ?_) | (refine iSt ?_; refine qSt ?_) | (refine iAl ?_; first | refine qAlA (fun _ => ?_) | refine qAlS (fun _ => ?_)) | (refine iBx ?_; first | refine qBxA (fun _ => ?_) | refine qBxS (fun _ => ?_)) | (refine iMm ?_; refine qMm (fun _ => ?_)) | (refine iBs ?_; refine qBs (fun _ => ?_)) | (refine i_gd ?_; first | refine qWant ?_ | refine qSkip ?_ | refine qSkip0 ?_ | refine qSkipU ?_)) | refine tl_nil ?_ | refine tc_seq ?_ | refine tc_region ?_ | refine te_seq ?_ | (refine i_cond ?_; first | refine qCt ?_ | refine qCf ?_) | refine tc_block ?_ | refine te_block_normal ?_ | refine te_block_ret ?_ | refine te_then_ret ?_ | refine te_block_hit ?_ | (refine i_miss ?_; refine qMiss ?_) | refine te_then_exit ?_ | refine tc_exit ?_ | refine tc_ret ?_ | refine tc_skip ?_)
  replace hm : MapOk ({ DS.new (sizeN k0) with armed := kk } : DS).secs es := hm
  generalize { DS.new (sizeN k0) with armed := kk } = D0 at *
  have hk8 := hkk.2
  clear hkk hkd hnew harm hnok
  refine tc_loop_e (fun (y : Nat × Hp × Nat × List MapEntry × Nat × DS × Nat) => ⟨[(37, .int .i64 y.1), (36, .int .i64 n), (35, .slice oa n cap), (7, .pointer (some ⟨b, 0, none⟩)), (9, .int .i64 kk), (10, .int .i64 y.2.2.2.2.2.2)], y.2.1,
      diskL b hb y.2.2.1 y.2.2.2.1 y.2.2.2.2.1 y.2.2.2.2.2.1 ++ R⟩)
    (fun y => y.1 ≤ n ∧ ρ.le y.2.1 ∧ MapOk y.2.2.2.2.2.1.secs y.2.2.2.1 ∧ SInv kk y.2.2.2.2.2.2 (sizeN k0) y.2.2.2.2.2.1) (fun y => n - y.1) (0, ρ', mb, es, ck, D0, 0) rfl
    ⟨by simp, Hp.le_trans hle1 hle2, hm, hinv⟩ ev_le rfl take_app' inferInstance ?_
  rintro ⟨k, ρ1, m1, es1, ck1, D, done⟩ ⟨h1, h2, h3, h4⟩
  dsimp only at h1 h2 h3 h4 ⊢
  by_cases hlt : k < n
  · have hk : k < ops.length := by omega
    obtain ⟨ob, off, C, T, fr, rfl, hC, hle5, hcs, hkp⟩ := (hO.mono h2).out k hk
    generalize ops[k] = p at hcs hkp
    obtain ⟨⟨kind, at', m, fill, ka, kn, kp⟩, ks⟩ := p
    dsimp only [OpV.cells] at hcs hkp
    have hklo := opK_lo ⟨kind, at', m, fill, ka, kn, kp⟩
    by_cases hgo : k < 40 ∧ opK ⟨kind, at', m, fill, ka, kn, kp⟩ < 6
    · obtain ⟨hk40, hk6⟩ := hgo
      have hrun := run_spec ρ1 b hb m1 es1 ck1 D ⟨kind, at', m, fill, ka, kn, kp⟩ ks h4.ok h3 hkp
      have hdl := h4.le
      have hlen := h4.len'
      have key : ∃ D' blk e d' , D.run ⟨kind, at', m, fill, ka, kn, kp⟩ ks = (D', blk, e) ∧ SInv kk d' (sizeN k0) D' ∧ (
          (D.dead = true ∧ e = 9 ∧ d' = done)
          ∨ (D.dead = false ∧ opK ⟨kind, at', m, fill, ka, kn, kp⟩ ≠ 5 ∧ (at' < 0 ∨ (sizeN k0 : Int) ≤ at') ∧ e = 2 ∧ d' = done)
          ∨ (D.dead = false ∧ opK ⟨kind, at', m, fill, ka, kn, kp⟩ = 4 ∧ 0 ≤ at' ∧ at' < sizeN k0 ∧ e = 0 ∧ d' = done ∧ D'.dead = false)
          ∨ (D.dead = false ∧ opK ⟨kind, at', m, fill, ka, kn, kp⟩ ≠ 4 ∧ (opK ⟨kind, at', m, fill, ka, kn, kp⟩ = 5 ∨ (0 ≤ at' ∧ at' < sizeN k0)) ∧ done = kk ∧ e = 9 ∧ d' = done ∧ D'.dead = true)
          ∨ (D.dead = false ∧ opK ⟨kind, at', m, fill, ka, kn, kp⟩ ≠ 4 ∧ (opK ⟨kind, at', m, fill, ka, kn, kp⟩ = 5 ∨ (0 ≤ at' ∧ at' < sizeN k0)) ∧ done ≠ kk ∧ e = 0 ∧ d' = done + 1 ∧ D'.dead = false)) := by
        cases hd : D.dead with
        | true =>
          obtain ⟨D', blk, e1, e2, e3⟩ := stop_dead (ks := ks) h4 hd hk6
          exact ⟨D', blk, 9, done, e1, e2, .inl ⟨rfl, rfl, rfl⟩⟩
        | false =>
          by_cases hr : opK ⟨kind, at', m, fill, ka, kn, kp⟩ = 5 ∨ (0 ≤ at' ∧ at' < sizeN k0)
          · by_cases h4' : opK ⟨kind, at', m, fill, ka, kn, kp⟩ = 4
            · have hr' := hr.resolve_left (by omega)
              obtain ⟨D', blk, e1, e2, e3⟩ := stop_read (ks := ks) h4 hd h4' hr'.1 hr'.2
              exact ⟨D', blk, 0, done, e1, e2, .inr (.inr (.inl ⟨rfl, h4', hr'.1, hr'.2, rfl, rfl, e3⟩))⟩
            · by_cases he : done = kk
              · obtain ⟨D', blk, e1, e2, e3⟩ := stop_last (ks := ks) h4 hd hk6 h4' hr he
                exact ⟨D', blk, 9, done, e1, e2, .inr (.inr (.inr (.inl ⟨rfl, h4', hr, he, rfl, rfl, e3⟩)))⟩
              · obtain ⟨D', blk, e1, e2, e3⟩ := stop_done (ks := ks) h4 hd hk6 h4' hr he
                exact ⟨D', blk, 0, done + 1, e1, e2, .inr (.inr (.inr (.inr ⟨rfl, h4', hr, he, rfl, rfl, e3⟩)))⟩
          · have h5 : opK ⟨kind, at', m, fill, ka, kn, kp⟩ ≠ 5 := fun h => hr (.inl h)
            have ho : at' < 0 ∨ (sizeN k0 : Int) ≤ at' := by omega
            obtain ⟨D', blk, e1, e2, e3⟩ := stop_arg (ks := ks) h4 hd hk6 h5 ho
            exact ⟨D', blk, 2, done, e1, e2, .inr (.inl ⟨rfl, h5, ho, rfl, rfl⟩)⟩
      obtain ⟨D', blk, e, d', hq, hinv', hkey⟩ := key
      rw [hq] at hrun
      have hlen' := hinv'.len'
      simp only [opK] at hkey hk6 hklo
      have hblk : (blk.map u8c).length = 64 := by
        have := run_blk h4.ok (o := ⟨kind, at', m, fill, ka, kn, kp⟩) (ks := ks)
        rw [hq] at this; simpa using this
      have hone := u8c_one blk
      have hszb := sizeN_le (k := k0)
      have hsz0 := sizeN_pos (k := k0)
      clear hq h4 hinv hO hbig
      have hdone : (done : Int) + 1 = ((done + 1 : Nat) : Int) := by omega
      have h5c : ((IntKind.u64.wrap kind).tmod 9 = 5) ∨ ((IntKind.u64.wrap kind).tmod 9 ≠ 5 ∧ at' < 0) ∨ ((IntKind.u64.wrap kind).tmod 9 ≠ 5 ∧ 0 ≤ at' ∧ at' < sizeN k0) ∨ ((IntKind.u64.wrap kind).tmod 9 ≠ 5 ∧ (sizeN k0 : Int) ≤ at') := by omega
      rcases hkey with ⟨hx, rfl, rfl⟩ | ⟨hx, k5, ko, rfl, rfl⟩ | ⟨hx, k4, ko, ko2, rfl, rfl, hy⟩ | ⟨hx, k4, k5, ke, rfl, rfl, hy⟩ | ⟨hx, k4, k5, ke, rfl, rfl, hy⟩
      all_goals rcases h5c with h5 | ⟨h5, ha⟩ | ⟨h5, ha, ha2⟩ | ⟨h5, ha⟩
      all_goals try (exfalso; omega)
      all_goals first | (have hz := hy; clear hz) | have hy := True.intro
      all_goals (repeat' (first | (refine tl_is (.func 21) ?_; refine qC rfl rfl (dead_disk _ _ _ _ _ _ _) ?_; rintro v ρ' L' hle ⟨rfl, rfl, rfl⟩ <;> (try simp only [List.cons_append, List.nil_append, List.append_eq, hx])) | (refine tl_is (.func 22) ?_; refine qC rfl rfl (hrun) ?_; rintro v ρ' L' hle ⟨rfl, hle2, mb2, es2, ck2, hm2, rfl⟩ <;> (try simp only [List.cons_append, List.nil_append, List.append_eq, bv])) | (refine i_op ?_; first | (refine iMv ?_; refine qMv ?_) | (refine iLd ?_; refine qLd ?_) | (refine iFa ?_; refine qFa ?_) | (refine iAd ?_; refine qAd ?_) | (refine iSb ?_; refine qSb ?_) | (refine iMl ?_; refine qMl ?_) | (refine iRm ?_; refine qRm ?_) | (refine iQu ?_; refine qQu ?_) | (refine iCm ?_; refine qCm ?_) | (refine iEx ?_; refine qEx ?_) | (refine iAs ?_; refine qAs ?_) | (refine iPk ?_; refine qPk ?_) | (refine iNc ?_; refine qNc ?_) | (refine iIa ?_; refine qIa ?_) | (refine iCv ?_; refine qCv ?_) | (refine iBi ?_; refine qBi ?_) | (refine iUn ?_; refine qUn ?_) | (refine iFl ?_; refine qFl ?_) | (refine iLu ?_; refine qLu ?_) | (refine iBu ?_; refine qBu ?_) | (refine iSl ?_; refine qSl ?_) | (refine iMf ?_; refine qMf ?_) | (refine iSt ?_; refine qSt ?_) | (refine iAl ?_; first | refine qAlA (fun _ => ?_) | refine qAlS (fun _ => ?_)) | (refine iBx ?_; first | refine qBxA (fun _ => ?_) | refine qBxS (fun _ => ?_)) | (refine iMm ?_; refine qMm (fun _ => ?_)) | (refine iBs ?_; refine qBs (fun _ => ?_)) | (refine i_gd ?_; first | refine qWant ?_ | refine qSkip ?_ | refine qSkip0 ?_ | refine qSkipU ?_)) | refine tl_nil ?_ | refine tc_seq ?_ | refine tc_region ?_ | refine te_seq ?_ | (refine i_cond ?_; first | refine qCt ?_ | refine qCf ?_) | refine tc_block ?_ | refine te_block_normal ?_ | refine te_block_ret ?_ | refine te_then_ret ?_ | refine te_block_hit ?_ | (refine i_miss ?_; refine qMiss ?_) | refine te_then_exit ?_ | refine tc_exit ?_ | refine tc_ret ?_ | refine tc_skip ?_))
      all_goals refine tc_any (Stays _ _ _) stays_refl ?_
      all_goals refine rMv 0 ?_
      all_goals (first | refine rAd 1 ?_ | refine rSb 1 ?_ | refine rMl 1 ?_ | refine rRm 1 ?_ | refine rQu 1 ?_ | refine rCm 1 ?_)
      all_goals refine rMv 2 ?_
      all_goals (first | refine wSkip 3 ?_ | refine wSkipU 3 ?_ | refine wFa 3 ?_ | (refine tr_guard (t := 62) rfl (fun hb => ?_) (fun hb => ?_) <;> (try simp only [decide_eq_true_eq, decide_eq_false_iff_not, Bool.not_eq_true, Bool.not_eq_false, beq_iff_eq, bne_iff_ne, ne_eq, Bool.not_eq_eq_eq_not, Bool.not_true, Bool.not_false, beq_eq_false_iff_ne, bne_eq_false_iff_eq] at hb) <;> first | refine wSkip 3 ?_ | refine wSkipU 3 ?_ | refine wFa 3 ?_))
      all_goals (first | refine wSkip 4 ?_ | refine wSkipU 4 ?_ | refine wLd 4 ?_ | (refine tr_guard (t := 62) rfl (fun hb => ?_) (fun hb => ?_) <;> (try simp only [decide_eq_true_eq, decide_eq_false_iff_not, Bool.not_eq_true, Bool.not_eq_false, beq_iff_eq, bne_iff_ne, ne_eq, Bool.not_eq_eq_eq_not, Bool.not_true, Bool.not_false, beq_eq_false_iff_ne, bne_eq_false_iff_eq] at hb) <;> first | refine wSkip 4 ?_ | refine wSkipU 4 ?_ | refine wLd 4 ?_))
      all_goals (first | refine wSkip 5 ?_ | refine wSkipU 5 ?_ | refine wAd 5 ?_ | refine wSb 5 ?_ | refine wMl 5 ?_ | refine wRm 5 ?_ | refine wQu 5 ?_ | refine wCm 5 ?_ | (refine tr_guard (t := 62) rfl (fun hb => ?_) (fun hb => ?_) <;> (try simp only [decide_eq_true_eq, decide_eq_false_iff_not, Bool.not_eq_true, Bool.not_eq_false, beq_iff_eq, bne_iff_ne, ne_eq, Bool.not_eq_eq_eq_not, Bool.not_true, Bool.not_false, beq_eq_false_iff_ne, bne_eq_false_iff_eq] at hb) <;> first | refine wSkip 5 ?_ | refine wSkipU 5 ?_ | refine wAd 5 ?_ | refine wSb 5 ?_ | refine wMl 5 ?_ | refine wRm 5 ?_ | refine wQu 5 ?_ | refine wCm 5 ?_))
      all_goals (first | refine wSkip 6 ?_ | refine wSkipU 6 ?_ | refine wMv 6 ?_ | (refine tr_guard (t := 62) rfl (fun hb => ?_) (fun hb => ?_) <;> (try simp only [decide_eq_true_eq, decide_eq_false_iff_not, Bool.not_eq_true, Bool.not_eq_false, beq_iff_eq, bne_iff_ne, ne_eq, Bool.not_eq_eq_eq_not, Bool.not_true, Bool.not_false, beq_eq_false_iff_ne, bne_eq_false_iff_eq] at hb) <;> first | refine wSkip 6 ?_ | refine wSkipU 6 ?_ | refine wMv 6 ?_))
      all_goals (first | refine wSkip 7 ?_ | refine wSkipU 7 ?_ | refine wFa 7 ?_ | (refine tr_guard (t := 66) rfl (fun hb => ?_) (fun hb => ?_) <;> (try simp only [decide_eq_true_eq, decide_eq_false_iff_not, Bool.not_eq_true, Bool.not_eq_false, beq_iff_eq, bne_iff_ne, ne_eq, Bool.not_eq_eq_eq_not, Bool.not_true, Bool.not_false, beq_eq_false_iff_ne, bne_eq_false_iff_eq] at hb) <;> first | refine wSkip 7 ?_ | refine wSkipU 7 ?_ | refine wFa 7 ?_))
      all_goals (first | refine wSkip 8 ?_ | refine wSkipU 8 ?_ | refine wLd 8 ?_ | (refine tr_guard (t := 66) rfl (fun hb => ?_) (fun hb => ?_) <;> (try simp only [decide_eq_true_eq, decide_eq_false_iff_not, Bool.not_eq_true, Bool.not_eq_false, beq_iff_eq, bne_iff_ne, ne_eq, Bool.not_eq_eq_eq_not, Bool.not_true, Bool.not_false, beq_eq_false_iff_ne, bne_eq_false_iff_eq] at hb) <;> first | refine wSkip 8 ?_ | refine wSkipU 8 ?_ | refine wLd 8 ?_))
      all_goals (first | refine wSkip 9 ?_ | refine wSkipU 9 ?_ | refine wMv 9 ?_ | (refine tr_guard (t := 66) rfl (fun hb => ?_) (fun hb => ?_) <;> (try simp only [decide_eq_true_eq, decide_eq_false_iff_not, Bool.not_eq_true, Bool.not_eq_false, beq_iff_eq, bne_iff_ne, ne_eq, Bool.not_eq_eq_eq_not, Bool.not_true, Bool.not_false, beq_eq_false_iff_ne, bne_eq_false_iff_eq] at hb) <;> first | refine wSkip 9 ?_ | refine wSkipU 9 ?_ | refine wMv 9 ?_))
      all_goals (first | refine wSkip 10 ?_ | refine wSkipU 10 ?_ | (refine rStep (i := 10) ?_; ((try refine qWant ?_); (first | (refine tl_is (.func 11) ?_; refine qC rfl rfl (len_disk _ _ _ _ _ _ _) ?_; rintro v ρ' L' hle ⟨rfl, rfl, rfl⟩ <;> (try simp only [List.cons_append, List.nil_append, List.append_eq])) | (refine iSt ?_; refine qSt ?_) | (refine iAl ?_; first | refine qAlA (fun _ => ?_) | refine qAlS (fun _ => ?_)) | (refine iBx ?_; first | refine qBxA (fun _ => ?_) | refine qBxS (fun _ => ?_)) | (refine iMm ?_; refine qMm (fun _ => ?_)) | (refine iBs ?_; refine qBs (fun _ => ?_))); (try simp only [List.cons_append, List.nil_append, List.append_eq]); refine tl_nil ?_; refine rNext ?_)))
      all_goals refine rFull ?_
      all_goals (first | refine wSkip 11 ?_ | refine wSkipU 11 ?_ | refine wAd 11 ?_ | refine wSb 11 ?_ | refine wMl 11 ?_ | refine wRm 11 ?_ | refine wQu 11 ?_ | refine wCm 11 ?_ | (refine tr_guard (t := 66) rfl (fun hb => ?_) (fun hb => ?_) <;> (try simp only [decide_eq_true_eq, decide_eq_false_iff_not, Bool.not_eq_true, Bool.not_eq_false, beq_iff_eq, bne_iff_ne, ne_eq, Bool.not_eq_eq_eq_not, Bool.not_true, Bool.not_false, beq_eq_false_iff_ne, bne_eq_false_iff_eq] at hb) <;> first | refine wSkip 11 ?_ | refine wSkipU 11 ?_ | refine wAd 11 ?_ | refine wSb 11 ?_ | refine wMl 11 ?_ | refine wRm 11 ?_ | refine wQu 11 ?_ | refine wCm 11 ?_))
      all_goals (first | refine wSkip 12 ?_ | refine wSkipU 12 ?_ | refine wPk 12 ?_ | (refine tr_guard (t := 62) rfl (fun hb => ?_) (fun hb => ?_) <;> (try simp only [decide_eq_true_eq, decide_eq_false_iff_not, Bool.not_eq_true, Bool.not_eq_false, beq_iff_eq, bne_iff_ne, ne_eq, Bool.not_eq_eq_eq_not, Bool.not_true, Bool.not_false, beq_eq_false_iff_ne, bne_eq_false_iff_eq] at hb) <;> first | refine wSkip 12 ?_ | refine wSkipU 12 ?_ | refine wPk 12 ?_))
      all_goals refine rPk 13 ?_
      all_goals refine rAs 14 ?_
      all_goals refine rDone ?_
      all_goals (repeat' (first | (refine tl_is (.func 21) ?_; refine qC rfl rfl (dead_disk _ _ _ _ _ _ _) ?_; rintro v ρ' L' hle ⟨rfl, rfl, rfl⟩ <;> (try simp only [List.cons_append, List.nil_append, List.append_eq, hy])) | (refine i_op ?_; first | (refine iMv ?_; refine qMv ?_) | (refine iLd ?_; refine qLd ?_) | (refine iFa ?_; refine qFa ?_) | (refine iAd ?_; refine qAd ?_) | (refine iSb ?_; refine qSb ?_) | (refine iMl ?_; refine qMl ?_) | (refine iRm ?_; refine qRm ?_) | (refine iQu ?_; refine qQu ?_) | (refine iCm ?_; refine qCm ?_) | (refine iEx ?_; refine qEx ?_) | (refine iAs ?_; refine qAs ?_) | (refine iPk ?_; refine qPk ?_) | (refine iNc ?_; refine qNc ?_) | (refine iIa ?_; refine qIa ?_) | (refine iCv ?_; refine qCv ?_) | (refine iBi ?_; refine qBi ?_) | (refine iUn ?_; refine qUn ?_) | (refine iFl ?_; refine qFl ?_) | (refine iLu ?_; refine qLu ?_) | (refine iBu ?_; refine qBu ?_) | (refine iSl ?_; refine qSl ?_) | (refine iMf ?_; refine qMf ?_) | (refine iSt ?_; refine qSt ?_) | (refine iAl ?_; first | refine qAlA (fun _ => ?_) | refine qAlS (fun _ => ?_)) | (refine iBx ?_; first | refine qBxA (fun _ => ?_) | refine qBxS (fun _ => ?_)) | (refine iMm ?_; refine qMm (fun _ => ?_)) | (refine iBs ?_; refine qBs (fun _ => ?_)) | (refine i_gd ?_; first | refine qWant ?_ | refine qSkip ?_ | refine qSkip0 ?_ | refine qSkipU ?_)) | refine tl_nil ?_ | refine tc_seq ?_ | refine tc_region ?_ | refine te_seq ?_ | (refine i_cond ?_; first | refine qCt ?_ | refine qCf ?_) | refine tc_block ?_ | refine te_block_normal ?_ | refine te_block_ret ?_ | refine te_then_ret ?_ | refine te_block_hit ?_ | (refine i_miss ?_; refine qMiss ?_) | refine te_then_exit ?_ | refine tc_exit ?_ | refine tc_ret ?_ | refine tc_skip ?_))
      all_goals first
        | refine te_round_e (Lm := diskL b hb mb2 es2 ck2 D') (R := R) (k + 1, _, mb2, es2, ck2, D', d') rfl ⟨by omega, Hp.le_trans h2 hle2, hm2, hinv'⟩ ev_le rfl tk inferInstance (by dsimp only; omega)
        | refine te_round_e (Lm := diskL b hb mb2 es2 ck2 D') (R := R) (k + 1, _, mb2, es2, ck2, D', done + 1) rfl ⟨by omega, Hp.le_trans h2 hle2, hm2, hinv'⟩ ev_le rfl tk inferInstance (by dsimp only; omega)
    · simp only [opK] at hgo hklo
      by_cases hk40 : k < 40
      · have hk6 : ¬ (IntKind.u64.wrap kind).tmod 9 < 6 := fun h => hgo ⟨hk40, h⟩
        repeat' (first | (refine i_op ?_; first | (refine iMv ?_; refine qMv ?_) | (refine iLd ?_; refine qLd ?_) | (refine iFa ?_; refine qFa ?_) | (refine iAd ?_; refine qAd ?_) | (refine iSb ?_; refine qSb ?_) | (refine iMl ?_; refine qMl ?_) | (refine iRm ?_; refine qRm ?_) | (refine iQu ?_; refine qQu ?_) | (refine iCm ?_; refine qCm ?_) | (refine iEx ?_; refine qEx ?_) | (refine iAs ?_; refine qAs ?_) | (refine iPk ?_; refine qPk ?_) | (refine iNc ?_; refine qNc ?_) | (refine iIa ?_; refine qIa ?_) | (refine iCv ?_; refine qCv ?_) | (refine iBi ?_; refine qBi ?_) | (refine iUn ?_; refine qUn ?_) | (refine iFl ?_; refine qFl ?_) | (refine iLu ?_; refine qLu ?_) | (refine iBu ?_; refine qBu ?_) | (refine iSl ?_; refine qSl ?_) | (refine iMf ?_; refine qMf ?_) | (refine iSt ?_; refine qSt ?_) | (refine iAl ?_; first | refine qAlA (fun _ => ?_) | refine qAlS (fun _ => ?_)) | (refine iBx ?_; first | refine qBxA (fun _ => ?_) | refine qBxS (fun _ => ?_)) | (refine iMm ?_; refine qMm (fun _ => ?_)) | (refine iBs ?_; refine qBs (fun _ => ?_)) | (refine i_gd ?_; first | refine qWant ?_ | refine qSkip ?_ | refine qSkip0 ?_ | refine qSkipU ?_)) | refine tl_nil ?_ | refine tc_seq ?_ | refine tc_region ?_ | refine te_seq ?_ | (refine i_cond ?_; first | refine qCt ?_ | refine qCf ?_) | refine tc_block ?_ | refine te_block_normal ?_ | refine te_block_ret ?_ | refine te_then_ret ?_ | refine te_block_hit ?_ | (refine i_miss ?_; refine qMiss ?_) | refine te_then_exit ?_ | refine tc_exit ?_ | refine tc_ret ?_ | refine tc_skip ?_)
        refine te_round_e (Lm := diskL b hb m1 es1 ck1 D) (R := R) (k + 1, _, m1, es1, ck1, D, done) rfl ⟨by omega, h2, h3, h4⟩ ev_le rfl tk inferInstance (by dsimp only; omega)
      · repeat' (first | (refine i_op ?_; first | (refine iMv ?_; refine qMv ?_) | (refine iLd ?_; refine qLd ?_) | (refine iFa ?_; refine qFa ?_) | (refine iAd ?_; refine qAd ?_) | (refine iSb ?_; refine qSb ?_) | (refine iMl ?_; refine qMl ?_) | (refine iRm ?_; refine qRm ?_) | (refine iQu ?_; refine qQu ?_) | (refine iCm ?_; refine qCm ?_) | (refine iEx ?_; refine qEx ?_) | (refine iAs ?_; refine qAs ?_) | (refine iPk ?_; refine qPk ?_) | (refine iNc ?_; refine qNc ?_) | (refine iIa ?_; refine qIa ?_) | (refine iCv ?_; refine qCv ?_) | (refine iBi ?_; refine qBi ?_) | (refine iUn ?_; refine qUn ?_) | (refine iFl ?_; refine qFl ?_) | (refine iLu ?_; refine qLu ?_) | (refine iBu ?_; refine qBu ?_) | (refine iSl ?_; refine qSl ?_) | (refine iMf ?_; refine qMf ?_) | (refine iSt ?_; refine qSt ?_) | (refine iAl ?_; first | refine qAlA (fun _ => ?_) | refine qAlS (fun _ => ?_)) | (refine iBx ?_; first | refine qBxA (fun _ => ?_) | refine qBxS (fun _ => ?_)) | (refine iMm ?_; refine qMm (fun _ => ?_)) | (refine iBs ?_; refine qBs (fun _ => ?_)) | (refine i_gd ?_; first | refine qWant ?_ | refine qSkip ?_ | refine qSkip0 ?_ | refine qSkipU ?_)) | refine tl_nil ?_ | refine tc_seq ?_ | refine tc_region ?_ | refine te_seq ?_ | (refine i_cond ?_; first | refine qCt ?_ | refine qCf ?_) | refine tc_block ?_ | refine te_block_normal ?_ | refine te_block_ret ?_ | refine te_then_ret ?_ | refine te_block_hit ?_ | (refine i_miss ?_; refine qMiss ?_) | refine te_then_exit ?_ | refine tc_exit ?_ | refine tc_ret ?_ | refine tc_skip ?_)
        refine te_round_e (Lm := diskL b hb m1 es1 ck1 D) (R := R) (k + 1, _, m1, es1, ck1, D, done) rfl ⟨by omega, h2, h3, h4⟩ ev_le rfl tk inferInstance (by dsimp only; omega)
  · have hk2 : k = n := by omega
    subst hk2
    have hcr := fun ρ => crash_spec ρ b hb m1 es1 ck1 D h4.ok h3 none 0 0 [] (fun _ => false) (fun bk nth _ => crash1_over ρ bk nth none 0 0 [] (by omega))
    simp only [List.append_nil] at hcr
    repeat' (first | (refine tl_is (.func 18) ?_; refine qC rfl rfl (hcr _) ?_; rintro v ρ' L' hle ⟨rfl, hle2, mb2, ck2, rfl⟩ <;> (try simp only [List.cons_append, List.nil_append, List.append_eq])) | (refine tl_is (.func 21) ?_; refine qC rfl rfl (dead_disk _ _ _ _ _ _ _) ?_; rintro v ρ' L' hle ⟨rfl, rfl, rfl⟩ <;> (try simp only [List.cons_append, List.nil_append, List.append_eq, DS.crash])) | (refine i_op ?_; first | (refine iMv ?_; refine qMv ?_) | (refine iLd ?_; refine qLd ?_) | (refine iFa ?_; refine qFa ?_) | (refine iAd ?_; refine qAd ?_) | (refine iSb ?_; refine qSb ?_) | (refine iMl ?_; refine qMl ?_) | (refine iRm ?_; refine qRm ?_) | (refine iQu ?_; refine qQu ?_) | (refine iCm ?_; refine qCm ?_) | (refine iEx ?_; refine qEx ?_) | (refine iAs ?_; refine qAs ?_) | (refine iPk ?_; refine qPk ?_) | (refine iNc ?_; refine qNc ?_) | (refine iIa ?_; refine qIa ?_) | (refine iCv ?_; refine qCv ?_) | (refine iBi ?_; refine qBi ?_) | (refine iUn ?_; refine qUn ?_) | (refine iFl ?_; refine qFl ?_) | (refine iLu ?_; refine qLu ?_) | (refine iBu ?_; refine qBu ?_) | (refine iSl ?_; refine qSl ?_) | (refine iMf ?_; refine qMf ?_) | (refine iSt ?_; refine qSt ?_) | (refine iAl ?_; first | refine qAlA (fun _ => ?_) | refine qAlS (fun _ => ?_)) | (refine iBx ?_; first | refine qBxA (fun _ => ?_) | refine qBxS (fun _ => ?_)) | (refine iMm ?_; refine qMm (fun _ => ?_)) | (refine iBs ?_; refine qBs (fun _ => ?_)) | (refine i_gd ?_; first | refine qWant ?_ | refine qSkip ?_ | refine qSkip0 ?_ | refine qSkipU ?_)) | refine tl_nil ?_ | refine tc_seq ?_ | refine tc_region ?_ | refine te_seq ?_ | (refine i_cond ?_; first | refine qCt ?_ | refine qCf ?_) | refine tc_block ?_ | refine te_block_normal ?_ | refine te_block_ret ?_ | refine te_then_ret ?_ | refine te_block_hit ?_ | (refine i_miss ?_; refine qMiss ?_) | refine te_then_exit ?_ | refine tc_exit ?_ | refine tc_ret ?_ | refine tc_skip ?_)
    have hfin := Hp.le_trans h2 hle2
    exact te_end rfl rfl rfl (res1 rfl (r1_tmp rfl)) hfin take_nil' (by infer_instance) ⟨rfl, hfin, rfl⟩
end Go.Proofs.E

namespace Go.Proofs.Ythbgnmilbgecfaa.DiskStopsLaw
open Go Go.ChangeShapes Go.WideShapes Go.ChangeAt Go.RowKit Go.Proofs.E
set_option linter.unusedVariables false

theorem own : ownKnob Try.prog.godebug = none := by kernel_rfl
theorem laidOut : laidOutB Try.prog = true := by kernel_rfl

set_option maxRecDepth 100000 in
theorem lifted (os : Os) (started : os.Started) (H : Type) (enc : TypeId × Value → H) :
    ReturnsInHanded {} Try.checked os 4 .any (Rows.diskStopsSpec.pre6 enc Try.prog Try.f4 Rows.diskStopsRow.domain false) (Rows.diskStopsSpec.post enc Try.prog Try.f4 false true false false) := by
  refine returnsInHanded_of_change_sized (C := Try.checked) own started (by kernel_rfl) Try.func4
    (ChangeSpec.witness6 (enc := enc) (C := Try.checked) false ⟨#[], #[.int .i64 0, .slice none 0 0, .int .i64 0], []⟩ 8 (by kernel_rfl) (by kernel_rfl) (by kernel_rfl) (by kernel_rfl)) ?_
  intro W base args ds gs before hval0 hW hcnd hsz0 _
  have hval : ∀ (j : Nat) t v, Try.f4.params[j]? = some t → args[j]? = some v → Value.okWide Try.prog W .any base t v := hval0
  have hW' := hW
  obtain ⟨p, q, hA0, hV, rfl, hfz, hnd⟩ := hW
  have hA : DataW.TrodAll enc Try.prog W 0 (fun _ => true) true Try.f4.params.toList args.toList ds p := hA0
  have hsz : (DataW.weightsEach Try.prog (Try.f4.params.toList ++ Rows.diskStopsSpec.plain.varTypes Try.prog) (ds ++ gs)).all (· ≤ reachBytes) = true := hsz0
  rw [Try.params4] at hA hval hsz
  obtain ⟨v0, vs0, d0, ds0, p0, q0, hargs, rfl, rfl, h0, r0⟩ := trodAll_cons hA
  obtain ⟨v1, vs1, d1, ds1, p1, q1, rfl, rfl, rfl, h1, r1⟩ := trodAll_cons r0
  obtain ⟨v2, vs2, d2, ds2, p2, q2, rfl, rfl, rfl, h2, r2⟩ := trodAll_cons r1
  obtain ⟨rfl, rfl, rfl⟩ := trodAll_nil r2
  obtain rfl : args = #[v0, v1, v2] := by cases args; simp_all
  obtain ⟨rfl, rfl⟩ := trodVars_none hV
  have k0 := h0
  have k1 := h1
  have k2 := h2
  have lt0 : ∀ x ∈ p0, x.block < W.heap.size := by obtain ⟨m, hm⟩ := k0; exact DataW.trod_lt m _ _ _ hm
  have lt1 : ∀ x ∈ p1, x.block < W.heap.size := by obtain ⟨m, hm⟩ := k1; exact DataW.trod_lt m _ _ _ hm
  have lt2 : ∀ x ∈ p2, x.block < W.heap.size := by obtain ⟨m, hm⟩ := k2; exact DataW.trod_lt m _ _ _ hm
  obtain ⟨a0, rfl, _, _, w0⟩ := open_int Try.underlying3 (hval 0 3 v0 rfl rfl) h0
  replace w0 := wf_bounds w0
  obtain ⟨a1, n1, c1, rfl⟩ := okWide_slice Try.underlying22 (hval 1 22 v1 rfl rfl)
  have b1 := top_slice hsz (j := 1) rfl rfl Try.underlying22 k1 rfl
  have bb1 : Try.prog.bytesOf 25 = 56 := by kernel_rfl
  rw [bb1] at b1
  simp only [reachBytes] at b1
  obtain ⟨s1, e1⟩ := opn_ops _ _ _ h1.choose_spec
  obtain ⟨⟨y1, m1, z1, x1⟩, ec1⟩ : ∃ s, s = s1 := ⟨s1, rfl⟩
  subst ec1
  have ec1 := e1.cells
  simp only [Value.cells, List.cons.injEq, Value.slice.injEq, and_true] at ec1
  obtain ⟨rfl, rfl, rfl⟩ := ec1
  obtain ⟨a2, rfl, _, _, w2⟩ := open_int Try.underlying3 (hval 2 3 v2 rfl rfl) h2
  replace w2 := wf_bounds w2
  clear hA0 hval0
  have hO := opsIn_of e1 (by dsimp only; omega)
  refine (Spec.law (stops_spec (hpOf W) a0 a1 n1 c1 x1 hO a2)).mono fun e W' ⟨he, bel⟩ => ?_
  subst he
  exact ⟨_, rfl, _, _, _, [], _, [], hW', trodAll_mk1 (shut_bool Try.underlying4 _), (trodAll_cons_mk (Below.trod laidOut (by kernel_rfl) (of_decide_eq_true (by kernel_rfl)) k0 bel lt0) (trodAll_cons_mk (Below.trod laidOut (by kernel_rfl) (of_decide_eq_true (by kernel_rfl)) k1 bel lt1) (trodAll_cons_mk (Below.trod laidOut (by kernel_rfl) (of_decide_eq_true (by kernel_rfl)) k2 bel lt2) trodAll_mk0))), rfl, bel.frame _, fun h => by cases h⟩

theorem over : Rows.diskStopsRow.holds Try.pinned (OpenSpec.ofChange Rows.diskStopsSpec) :=
  OpenClaim.holds_of_wide 4 Try.f4 rfl rfl rfl rfl rfl rfl rfl ⟨rfl, rfl, rfl, rfl, rfl⟩ rfl rfl rfl rfl rfl (by kernel_rfl) Try.func4 (by kernel_rfl)
    (of_decide_eq_true (by kernel_rfl)) (by unfold Func.isWrapper; first | (rw [if_pos (by decide +kernel)]; kernel_rfl) | (rw [if_neg (by decide +kernel)]; exact ⟨rfl, rfl⟩))
    (fun os started H enc _ => lifted os started H enc)

theorem proved : Rows.DiskStopsSaid := over
end Go.Proofs.Ythbgnmilbgecfaa.DiskStopsLaw

