/- Disks of layer 2 and rings of layer 4 as data, and what their functions come to. Part 4 of 5. -/
import Derived.Test.YtkgenlmcdbafmaaD3
namespace Go.Proofs.E
open Go
set_option linter.unusedVariables false
set_option linter.unusedSimpArgs false
set_option linter.unusedSectionVars false
set_option maxRecDepth 4000
set_option maxHeartbeats 1000000
attribute [local irreducible] Yl TL TC TE Spec YSpec R1 Hp.le EnvLe TS TR YS Stays
theorem sync11 (ρ : Hp) (nth : Nat) : Spec Try.prog 205 [.int .i64 (nth : Nat)] ρ [] (fun v ρ' L' => v = .bool true ∧ ρ' = ρ ∧ L' = []) := by
  refine spec_enter Try.func205 rfl rfl rfl fun u R => ?_
  simp only [argsE, List.cons_append, List.nil_append]
  repeat' (first | (refine i_op ?_; first | (refine i_qq ?_; refine qQ ?_) | refine qEf ?_) | refine tl_nil ?_ | (refine i_tc ?_; refine qTc ?_) | (refine i_te ?_; refine qTe ?_) | intro _)
  exact qE ⟨rfl, rfl, rfl⟩
theorem sync2 (ρ : Hp) (X : SH) : Spec Try.prog 206 [] ρ X (fun v ρ' L' => v = .tuple ⟨[]⟩ ∧ ρ' = ρ ∧ L' = X) := by
  refine spec_enter Try.func206 rfl rfl rfl fun u R => ?_
  simp only [argsE, List.cons_append, List.nil_append]
  repeat' (first | (refine i_op ?_; first | (refine i_qq ?_; refine qQ ?_) | refine qEf ?_) | refine tl_nil ?_ | (refine i_tc ?_; refine qTc ?_) | (refine i_te ?_; refine qTe ?_) | intro _)
  exact te_end rfl rfl rfl (res0 rfl) (Hp.le_refl _) take_app' (by infer_instance) ⟨rfl, rfl, rfl⟩
theorem sync1 (ρ : Hp) (b : Nat) (hb : HB) (mb bx : Nat) (es : List MapEntry) (ck : Nat) (s : Secs) (ops armed failing : Int) (dead : Bool) (hs : SecsOk s) (hm : MapOk s es) :
    Spec Try.prog 204 [.pointer (some ⟨bx, 0, none⟩)] ρ ([(b, dO hb mb s.length ops armed failing dead)] :: [[(hb.b, .cells ⟨heldC s ++ hb.sp⟩ 102 (0, 0))], [(mb, .map ⟨es⟩ ck)], [(bx, .cells ⟨[.pointer (some ⟨b, 0, none⟩)]⟩ 45 (0, 0))]])
      (fun v ρ' L' => v = .tuple ⟨[]⟩ ∧ ρ.le ρ' ∧ ∃ mb' ck', L' = [[(b, dO hb mb' s.length ops armed failing dead)], [(hb.b, .cells ⟨heldC (settled (fun _ => true) s) ++ hb.sp⟩ 102 (0, 0))], [(mb', .map ⟨[]⟩ ck')]]) := by
  refine spec_enter Try.func204 rfl rfl rfl fun u R => ?_
  simp only [argsE, List.cons_append, List.nil_append]
  repeat' (first | (refine tl_is (.func 100) ?_; refine qC rfl rfl (settle_spec _ _ _ _ _ _ _ _ _ _ _ 205 [] [] (fun _ => true) (fun nth _ => sync11 _ nth) hs hm) ?_; rintro v ρ' L' hle ⟨rfl, hle2, mb', ck', rfl⟩ <;> (try simp only [List.cons_append, List.nil_append, List.append_eq])) | (refine i_op ?_; first | (refine i_qq ?_; refine qQ ?_) | refine qEf ?_) | refine tl_nil ?_ | (refine i_tc ?_; refine qTc ?_) | (refine i_te ?_; refine qTe ?_) | intro _)
  exact te_end rfl rfl rfl (res0 rfl) hle2 tk (by infer_instance) ⟨rfl, hle2, mb', ck', rfl⟩
/-- what a Sync comes to -/
def DS.sync (D : DS) : DS × Int :=
  if D.dead then (D, 9)
  else if D.armed = 0 then ({ D.tick with dead := true }, 9)
  else if D.failing = 0 then (D.tick, 8)
  else ({ D.tick with armed := cnt D.armed, secs := settled (fun _ => true) D.secs }, 0)
theorem dsync_spec (ρ : Hp) (b : Nat) (hb : HB) (mb : Nat) (es : List MapEntry) (ck : Nat) (D : DS) (hD : D.Ok) (hm : MapOk D.secs es) :
    Spec Try.prog 149 [.pointer (some ⟨b, 0, none⟩)] ρ (diskL b hb mb es ck D)
      (fun v ρ' L' => v = .int .i64 D.sync.2 ∧ ρ.le ρ' ∧ ∃ mb' es' ck', MapOk D.sync.1.secs es' ∧ L' = diskL b hb mb' es' ck' D.sync.1) := by
  obtain ⟨s, ops, armed, failing, dead⟩ := D
  obtain ⟨hs, a1, a2, f1, f2⟩ := hD
  dsimp only at hs a1 a2 f1 f2 hm
  have hpos : (0 : Int) < s.length := by have := hs.pos; omega
  cases dead with
  | true =>
    have he : DS.sync ⟨s, ops, armed, failing, true⟩ = (⟨s, ops, armed, failing, true⟩, 9) := by simp [DS.sync]
    simp only [he]
    refine spec_enter Try.func149 rfl rfl rfl fun u R => ?_
    simp only [argsE, List.cons_append, List.nil_append, diskL]
    repeat' (first | (refine tl_is (.func 112) ?_; refine qC rfl rfl (does_dead _ _ _ _ _ _ _ _ _ _ _) ?_; rintro v ρ' L' hle ⟨rfl, rfl, rfl⟩ <;> (try simp only [List.cons_append, List.nil_append, List.append_eq])) | (refine i_op ?_; first | (refine i_qq ?_; refine qQ ?_) | refine qEf ?_) | refine tl_nil ?_ | (refine i_tc ?_; refine qTc ?_) | (refine i_te ?_; refine qTe ?_) | intro _)
    exact qE ⟨rfl, Hp.le_refl _, mb, es, ck, hm, rfl⟩
  | false =>
    by_cases ha : armed = 0
    · subst ha
      have he : DS.sync ⟨s, ops, 0, failing, false⟩ = (⟨s, IntKind.i64.wrap (ops + 1), 0, cnt failing, true⟩, 9) := by simp [DS.sync, DS.tick]
      simp only [he]
      refine spec_enter Try.func149 rfl rfl rfl fun u R => ?_
      simp only [argsE, List.cons_append, List.nil_append, diskL]
      repeat' (first | (refine tl_is (.func 112) ?_; refine qC rfl rfl (does_dies _ _ _ _ _ _ _ _ _ _ _ [] _ (Int.le_refl 0) hpos f1 f2 (sync2 _ _)) ?_; rintro v ρ' L' hle ⟨rfl, v0, h0, rfl, rfl⟩ <;> (try simp only [List.cons_append, List.nil_append, List.append_eq])) | (refine i_op ?_; first | (refine i_qq ?_; refine qQ ?_) | refine qEf ?_) | refine tl_nil ?_ | (refine i_tc ?_; refine qTc ?_) | (refine i_te ?_; refine qTe ?_) | intro _)
      exact qE ⟨rfl, Hp.le_refl _, mb, es, ck, hm, rfl⟩
    · by_cases hf : failing = 0
      · subst hf
        have he : DS.sync ⟨s, ops, armed, 0, false⟩ = (⟨s, IntKind.i64.wrap (ops + 1), armed, -1, false⟩, 8) := by simp [DS.sync, DS.tick, ha, cnt]
        simp only [he]
        refine spec_enter Try.func149 rfl rfl rfl fun u R => ?_
        simp only [argsE, List.cons_append, List.nil_append, diskL]
        repeat' (first | (refine tl_is (.func 112) ?_; refine qC rfl rfl (does_fail_w _ _ _ _ _ _ _ _ _ _ _ (Int.le_refl 0) hpos ha) ?_; rintro v ρ' L' hle ⟨rfl, rfl, rfl⟩ <;> (try simp only [List.cons_append, List.nil_append, List.append_eq])) | (refine i_op ?_; first | (refine i_qq ?_; refine qQ ?_) | refine qEf ?_) | refine tl_nil ?_ | (refine i_tc ?_; refine qTc ?_) | (refine i_te ?_; refine qTe ?_) | intro _)
        exact qE ⟨rfl, Hp.le_refl _, mb, es, ck, hm, rfl⟩
      · have he : DS.sync ⟨s, ops, armed, failing, false⟩ = (⟨settled (fun _ => true) s, IntKind.i64.wrap (ops + 1), cnt armed, cnt failing, false⟩, 0) := by simp [DS.sync, DS.tick, ha, hf]
        simp only [he]
        refine spec_enter Try.func149 rfl rfl rfl fun u R => ?_
        simp only [argsE, List.cons_append, List.nil_append, diskL, settled_length]
        repeat' (first | (refine tl_is (.func 112) ?_; refine qC rfl rfl (does_ok_w _ _ _ _ _ _ _ _ _ _ _ _ _ _ _ (Int.le_refl 0) hpos hf f1 f2 ha a1 a2 (sync1 _ _ _ _ _ es ck s _ _ _ _ hs hm)) ?_; rintro v ρ' L' hle ⟨rfl, v0, h0, hle2, mb', ck', rfl⟩ <;> (try simp only [List.cons_append, List.nil_append, List.append_eq])) | (refine i_op ?_; first | (refine i_qq ?_; refine qQ ?_) | refine qEf ?_) | refine tl_nil ?_ | (refine i_tc ?_; refine qTc ?_) | (refine i_te ?_; refine qTe ?_) | intro _)
        exact te_end rfl rfl rfl (res1 rfl (r1_tmp rfl)) hle2 tk (by infer_instance) ⟨rfl, hle2, mb', [], ck', MapOk.empty emptyC_settled, rfl⟩
def DS.crash (keep : Nat → Bool) (D : DS) : DS := ⟨settled keep D.secs, D.ops, -1, -1, false⟩
theorem crash_spec (ρ : Hp) (b : Nat) (hb : HB) (mb : Nat) (es : List MapEntry) (ck : Nat) (D : DS) (hD : D.Ok) (hm : MapOk D.secs es) (ka : Option Addr) (kn kp : Nat) (X : SH) (keep : Nat → Bool)
    (hK : ∀ bk nth, nth < 2048 → Spec Try.prog 101 [.int .i64 (nth : Nat), .pointer (some ⟨bk, 0, none⟩)] ρ ([(bk, .cells ⟨[.slice ka kn kp]⟩ 68 (0, 0))] :: X) (fun v ρ' L' => v = .bool (keep nth) ∧ ρ' = ρ ∧ L' = [(bk, .cells ⟨[.slice ka kn kp]⟩ 68 (0, 0))] :: X)) :
    Spec Try.prog 50 [.pointer (some ⟨b, 0, none⟩), .slice ka kn kp] ρ (diskL b hb mb es ck D ++ X)
      (fun v ρ' L' => v = .int .i64 0 ∧ ρ.le ρ' ∧ ∃ mb' ck', L' = diskL b hb mb' [] ck' (D.crash keep) ++ X) := by
  obtain ⟨s, ops, armed, failing, dead⟩ := D
  obtain ⟨hs, a1, a2, f1, f2⟩ := hD
  dsimp only at hs a1 a2 f1 f2 hm
  have hpos := hs.pos
  refine spec_enter Try.func50 rfl rfl rfl fun u R => ?_
  simp only [argsE, List.cons_append, List.nil_append, diskL, DS.crash, settled_length]
  repeat' (first | (refine tl_is (.func 100) ?_; refine tl_call rfl rfl (settle_spec _ _ _ _ _ _ _ _ _ _ _ 101 [.pointer (some ⟨_, 0, none⟩)] ([(_, .cells ⟨[.slice ka kn kp]⟩ 68 (0, 0))] :: X) keep (fun nth h => hK _ nth h) hs hm) tk rfl ?_; rintro v ρ' L' hle ⟨rfl, hle2, mb', ck', rfl⟩; simp only [List.cons_append, List.nil_append, dO]) | (refine i_op ?_; first | (refine i_qq ?_; refine qQ ?_) | refine qEf ?_) | refine tl_nil ?_ | (refine i_tc ?_; refine qTc ?_) | (refine i_te ?_; refine qTe ?_) | intro _)
  exact te_end rfl rfl rfl (res1 rfl (r1_tmp rfl)) hle2 tk (by infer_instance) ⟨rfl, hle2, mb', ck', rfl⟩
/-! ## what a Crash keeps, by a list of flags -/
def keepB (ks : List Bool) (nth : Nat) : Bool := ks[nth]?.getD false
theorem crash1_over (ρ : Hp) (bk nth : Nat) (ka : Option Addr) (kn kp : Nat) (X : SH) (h : kn ≤ nth) : Spec Try.prog 101 [.int .i64 (nth : Nat), .pointer (some ⟨bk, 0, none⟩)] ρ ([(bk, .cells ⟨[.slice ka kn kp]⟩ 68 (0, 0))] :: X) (fun v ρ' L' => v = .bool false ∧ ρ' = ρ ∧ L' = [(bk, .cells ⟨[.slice ka kn kp]⟩ 68 (0, 0))] :: X) := by
  refine spec_enter Try.func101 rfl rfl rfl fun u R => ?_
  simp only [argsE, List.cons_append, List.nil_append]
  repeat' (first | (refine i_op ?_; first | (refine i_qq ?_; refine qQ ?_) | refine qEf ?_) | refine tl_nil ?_ | (refine i_tc ?_; refine qTc ?_) | (refine i_te ?_; refine qTe ?_) | intro _)
  exact te_end rfl rfl rfl (res1 rfl (r1_tmp rfl)) (Hp.le_refl _) (take_cons' rem_here' take_app') (by infer_instance) ⟨rfl, rfl, rfl⟩
theorem crash1_at (ρ : Hp) (bk nth kb o kn kp : Nat) (C : List Value) (T : TypeId) (fr : Nat × Nat) (f : Bool) (h : nth < kn) (hc : C[o + nth * 1]? = some (.bool f)) : Spec Try.prog 101 [.int .i64 (nth : Nat), .pointer (some ⟨bk, 0, none⟩)] ρ [[(bk, .cells ⟨[.slice (some ⟨kb, o, none⟩) kn kp]⟩ 68 (0, 0))], [(kb, .cells ⟨C⟩ T fr)]] (fun v ρ' L' => v = .bool f ∧ ρ' = ρ ∧ L' = [[(bk, .cells ⟨[.slice (some ⟨kb, o, none⟩) kn kp]⟩ 68 (0, 0))], [(kb, .cells ⟨C⟩ T fr)]]) := by
  refine spec_enter Try.func101 rfl rfl rfl fun u R => ?_
  simp only [argsE, List.cons_append, List.nil_append]
  repeat' (first | (refine i_op ?_; first | (refine i_qq ?_; refine qQ ?_) | refine qEf ?_) | refine tl_nil ?_ | (refine i_tc ?_; refine qTc ?_) | (refine i_te ?_; refine qTe ?_) | intro _)
  exact te_end rfl rfl rfl (res1 rfl (r1_tmp rfl)) (Hp.le_refl _) tk (by infer_instance) ⟨rfl, rfl, rfl⟩
theorem crash1_imm (ρ : Hp) (bk nth kb o kn kp : Nat) (C : List Value) (T : TypeId) (fr : Nat × Nat) (f : Bool) (h : nth < kn) (hc : C[o + nth * 1]? = some (.bool f)) (hb : ρ kb = some (.cells ⟨C⟩ T fr)) : Spec Try.prog 101 [.int .i64 (nth : Nat), .pointer (some ⟨bk, 0, none⟩)] ρ [[(bk, .cells ⟨[.slice (some ⟨kb, o, none⟩) kn kp]⟩ 68 (0, 0))]] (fun v ρ' L' => v = .bool f ∧ ρ' = ρ ∧ L' = [[(bk, .cells ⟨[.slice (some ⟨kb, o, none⟩) kn kp]⟩ 68 (0, 0))]]) := by
  refine spec_enter Try.func101 rfl rfl rfl fun u R => ?_
  simp only [argsE, List.cons_append, List.nil_append]
  repeat' (first | (refine i_op ?_; first | (refine i_qq ?_; refine qQ ?_) | refine qEf ?_) | refine tl_nil ?_ | (refine i_tc ?_; refine qTc ?_) | (refine i_te ?_; refine qTe ?_) | intro _)
  exact te_end rfl rfl rfl (res1 rfl (r1_tmp rfl)) (Hp.le_refl _) tk (by infer_instance) ⟨rfl, rfl, rfl⟩
end Go.Proofs.E

namespace Go.Proofs.E
open Go
set_option linter.unusedVariables false
set_option linter.unusedSimpArgs false
set_option linter.unusedSectionVars false
set_option maxRecDepth 4000
set_option maxHeartbeats 1000000
attribute [local irreducible] Yl TL TC TE Spec YSpec R1 Hp.le EnvLe TS TR YS Stays
def DS.arm (D : DS) (n : Int) : DS × Int := if D.dead then (D, 9) else ({ D with armed := max n (-1) }, 0)
def DS.fail (D : DS) (n : Int) : DS × Int := if D.dead then (D, 9) else ({ D with failing := max n (-1) }, 0)
theorem arm_spec (ρ : Hp) (b : Nat) (hb : HB) (mb n : Nat) (ops armed failing k : Int) (dead : Bool) : Spec Try.prog 47 [.pointer (some ⟨b, 0, none⟩), .int .i64 k] ρ [[(b, dO hb mb n ops armed failing dead)]]
    (fun v ρ' L' => v = .int .i64 (if dead then 9 else 0) ∧ ρ' = ρ ∧ L' = [[(b, dO hb mb n ops (if dead then armed else max k (-1)) failing dead)]]) := by
  cases dead with
  | true =>
    simp only [if_true]
    refine spec_enter Try.func47 rfl rfl rfl fun u R => ?_
    simp only [argsE, List.cons_append, List.nil_append]
    repeat' (first | (refine tl_is (.func 99) ?_; refine qC rfl rfl (lives_dead _ _ _ _ _ _ _ _) ?_; rintro v ρ' L' hle ⟨rfl, rfl, rfl⟩ <;> (try simp only [List.cons_append, List.nil_append, List.append_eq])) | (refine i_op ?_; first | (refine i_qq ?_; refine qQ ?_) | refine qEf ?_) | refine tl_nil ?_ | (refine i_tc ?_; refine qTc ?_) | (refine i_te ?_; refine qTe ?_) | intro _)
    exact qE ⟨rfl, rfl, rfl⟩
  | false =>
    simp only [Bool.false_eq_true, if_false]
    refine spec_enter Try.func47 rfl rfl rfl fun u R => ?_
    simp only [argsE, List.cons_append, List.nil_append]
    repeat' (first | (refine tl_is (.func 99) ?_; refine qC rfl rfl (lives_ok _ _ _ _ _ _ _ _) ?_; rintro v ρ' L' hle ⟨rfl, rfl, rfl⟩ <;> (try simp only [List.cons_append, List.nil_append, List.append_eq, dO])) | (refine i_op ?_; first | (refine i_qq ?_; refine qQ ?_) | refine qEf ?_) | refine tl_nil ?_ | (refine i_tc ?_; refine qTc ?_) | (refine i_te ?_; refine qTe ?_) | intro _)
    exact qE ⟨rfl, rfl, rfl⟩
theorem fail_spec (ρ : Hp) (b : Nat) (hb : HB) (mb n : Nat) (ops armed failing k : Int) (dead : Bool) : Spec Try.prog 48 [.pointer (some ⟨b, 0, none⟩), .int .i64 k] ρ [[(b, dO hb mb n ops armed failing dead)]]
    (fun v ρ' L' => v = .int .i64 (if dead then 9 else 0) ∧ ρ' = ρ ∧ L' = [[(b, dO hb mb n ops armed (if dead then failing else max k (-1)) dead)]]) := by
  cases dead with
  | true =>
    simp only [if_true]
    refine spec_enter Try.func48 rfl rfl rfl fun u R => ?_
    simp only [argsE, List.cons_append, List.nil_append]
    repeat' (first | (refine tl_is (.func 99) ?_; refine qC rfl rfl (lives_dead _ _ _ _ _ _ _ _) ?_; rintro v ρ' L' hle ⟨rfl, rfl, rfl⟩ <;> (try simp only [List.cons_append, List.nil_append, List.append_eq])) | (refine i_op ?_; first | (refine i_qq ?_; refine qQ ?_) | refine qEf ?_) | refine tl_nil ?_ | (refine i_tc ?_; refine qTc ?_) | (refine i_te ?_; refine qTe ?_) | intro _)
    exact qE ⟨rfl, rfl, rfl⟩
  | false =>
    simp only [Bool.false_eq_true, if_false]
    refine spec_enter Try.func48 rfl rfl rfl fun u R => ?_
    simp only [argsE, List.cons_append, List.nil_append]
    repeat' (first | (refine tl_is (.func 99) ?_; refine qC rfl rfl (lives_ok _ _ _ _ _ _ _ _) ?_; rintro v ρ' L' hle ⟨rfl, rfl, rfl⟩ <;> (try simp only [List.cons_append, List.nil_append, List.append_eq, dO])) | (refine i_op ?_; first | (refine i_qq ?_; refine qQ ?_) | refine qEf ?_) | refine tl_nil ?_ | (refine i_tc ?_; refine qTc ?_) | (refine i_te ?_; refine qTe ?_) | intro _)
    exact qE ⟨rfl, rfl, rfl⟩
theorem dead_spec (ρ : Hp) (b : Nat) (hb : HB) (mb n : Nat) (ops armed failing : Int) (dead : Bool) : Spec Try.prog 108 [.pointer (some ⟨b, 0, none⟩)] ρ [[(b, dO hb mb n ops armed failing dead)]]
    (fun v ρ' L' => v = .bool dead ∧ ρ' = ρ ∧ L' = [[(b, dO hb mb n ops armed failing dead)]]) := by
  refine spec_enter Try.func108 rfl rfl rfl fun u R => ?_
  simp only [argsE, List.cons_append, List.nil_append, dO]
  repeat' (first | (refine i_op ?_; first | (refine i_qq ?_; refine qQ ?_) | refine qEf ?_) | refine tl_nil ?_ | (refine i_tc ?_; refine qTc ?_) | (refine i_te ?_; refine qTe ?_) | intro _)
  exact qE ⟨rfl, rfl, rfl⟩
theorem len_spec (ρ : Hp) (b : Nat) (hb : HB) (mb n : Nat) (ops armed failing : Int) (dead : Bool) : Spec Try.prog 95 [.pointer (some ⟨b, 0, none⟩)] ρ [[(b, dO hb mb n ops armed failing dead)]]
    (fun v ρ' L' => v = .int .i64 (n : Nat) ∧ ρ' = ρ ∧ L' = [[(b, dO hb mb n ops armed failing dead)]]) := by
  refine spec_enter Try.func95 rfl rfl rfl fun u R => ?_
  simp only [argsE, List.cons_append, List.nil_append, dO]
  repeat' (first | (refine i_op ?_; first | (refine i_qq ?_; refine qQ ?_) | refine qEf ?_) | refine tl_nil ?_ | (refine i_tc ?_; refine qTc ?_) | (refine i_te ?_; refine qTe ?_) | intro _)
  exact qE ⟨rfl, rfl, rfl⟩
theorem ops_spec (ρ : Hp) (b : Nat) (hb : HB) (mb n : Nat) (ops armed failing : Int) (dead : Bool) : Spec Try.prog 107 [.pointer (some ⟨b, 0, none⟩)] ρ [[(b, dO hb mb n ops armed failing dead)]]
    (fun v ρ' L' => v = .int .i64 ops ∧ ρ' = ρ ∧ L' = [[(b, dO hb mb n ops armed failing dead)]]) := by
  refine spec_enter Try.func107 rfl rfl rfl fun u R => ?_
  simp only [argsE, List.cons_append, List.nil_append, dO]
  repeat' (first | (refine i_op ?_; first | (refine i_qq ?_; refine qQ ?_) | refine qEf ?_) | refine tl_nil ?_ | (refine i_tc ?_; refine qTc ?_) | (refine i_te ?_; refine qTe ?_) | intro _)
  exact qE ⟨rfl, rfl, rfl⟩
def fresh (n : Nat) : Secs := List.replicate n (zblk, none)
def DS.new (n : Nat) : DS := ⟨fresh n, 0, -1, -1, false⟩
theorem fresh_ok {n : Nat} (h0 : 0 < n) (h1 : n ≤ 2048) : SecsOk (fresh n) := by
  refine ⟨by simpa [fresh] using h1, by simpa [fresh] using h0, fun p hp => ?_, fun p hp c hc => ?_⟩ <;> (obtain ⟨_, rfl⟩ := List.mem_replicate.1 hp)
  · rfl
  · cases hc
theorem fresh_empty {n : Nat} : emptyC (fresh n) := fun p hp => by obtain ⟨_, rfl⟩ := List.mem_replicate.1 hp; rfl
theorem madeCells_rep (x : Value) (m : Nat) : ∀ n, 0 < m → madeCells ⟨List.replicate m x⟩ n = ⟨List.replicate n x⟩ := by
  intro n hm
  apply Array.ext
  · simp [madeCells]
  · intro i h1 h2
    have h3 : i % m < m := Nat.mod_lt _ hm
    simp [madeCells, h3]
theorem heldC_fresh (n : Nat) : heldC (fresh n) = List.replicate (n * 64) (.int .u8 0) := by
  unfold heldC fresh
  rw [List.map_replicate]
  have : zblk.map u8c = List.replicate 64 (Value.int .u8 0) := by rfl
  rw [this, List.flatten_replicate_replicate]
theorem new_spec (ρ : Hp) (n : Nat) (h0 : 0 < n) (h1 : n ≤ 2048) : Spec Try.prog 51 [.int .i64 (n : Nat)] ρ [] (fun v ρ' L' => ρ' = ρ ∧ ∃ b hb mb ck, v = .tuple ⟨[.pointer (some ⟨b, 0, none⟩), .int .i64 0]⟩ ∧ L' = diskL b hb mb [] ck (DS.new n)) := by
  refine spec_enter Try.func51 rfl rfl rfl fun u R => ?_
  have hl : (DS.new n).secs.length = n := by simp [DS.new, fresh]
  simp only [argsE, List.cons_append, List.nil_append, diskL, hl]
  simp only [DS.new, heldC_fresh]
  repeat' (first | (refine tl_makeSlice rfl rfl (by omega) (by omega) (by omega) (by omega) rfl (fun hbn => ?_); simp only [Value.cells, madeCells_rep _ 64 _ (by decide), Int.toNat_natCast]) | (refine i_op ?_; first | (refine i_qq ?_; refine qQ ?_) | refine qEf ?_) | refine tl_nil ?_ | (refine i_tc ?_; refine qTc ?_) | (refine i_te ?_; refine qTe ?_) | intro _)
  rename_i bm bd
  refine qE (L' := [[(bd, .cells _ 169 (0, 0))], [(hbn, _)], [(bm, .map _ _)]]) ⟨rfl, bd, ⟨hbn, n, []⟩, bm, 0, rfl, ?_⟩
  simp only [List.append_nil]
  rfl
theorem Hp.le_get {ρ ρ' : Hp} (h : ρ.le ρ') {b : Nat} {o : Obj} (hb : ρ b = some o) : ρ' b = some o := hp_get h hb

def bb (f : Bool) : Value := .bool f
theorem bb_one (l : List Bool) : (l.map bb).all (·.oneCell') = true := by
  rw [List.all_eq_true]; intro v hv; obtain ⟨b, _, rfl⟩ := List.mem_map.1 hv; rfl
/-- flags that lie in what the call was handed -/
structure KeepIn (ρ : Hp) (ka : Option Addr) (kn kp : Nat) (ks : List Bool) : Prop where
  le : kn ≤ kp
  len : ks.length = kn
  big : kn ≤ 9223372036854775807
  out : kn = 0 ∨ ∃ kb off C T fr, ka = some ⟨kb, off, none⟩ ∧ ρ kb = some (.cells ⟨C⟩ T fr) ∧ (C.drop off).take kn = ks.map bb
theorem KeepIn.mono {ρ ρ' : Hp} {ka kn kp ks} (h : KeepIn ρ ka kn kp ks) (hle : ρ.le ρ') : KeepIn ρ' ka kn kp ks :=
  ⟨h.le, h.len, h.big, by
    rcases h.out with h0 | ⟨kb, off, C, T, fr, h1, h2, h3⟩
    · exact .inl h0
    · exact .inr ⟨kb, off, C, T, fr, h1, Hp.le_get hle h2, h3⟩⟩
theorem crash1_own (ρ : Hp) (a : Option Addr) (n cap : Nat) (ks : List Bool) (sp : List Value) (hn : n = ks.length) (h : OwnS (.slice a n cap) n (ks.map bb) sp 1) (bk nth : Nat) : Spec Try.prog 101 [.int .i64 (nth : Nat), .pointer (some ⟨bk, 0, none⟩)] ρ ([(bk, .cells ⟨[.slice a n cap]⟩ 68 (0, 0))] :: [ownC (.slice a n cap) (ks.map bb) sp 4]) (fun v ρ' L' => v = .bool (keepB ks nth) ∧ ρ' = ρ ∧ L' = [(bk, .cells ⟨[.slice a n cap]⟩ 68 (0, 0))] :: [ownC (.slice a n cap) (ks.map bb) sp 4]) := by
  by_cases hlt : nth < n
  · rcases h.out with ⟨h1, h2, h3, h4⟩ | ⟨b, c, h1, h2, h3, h4⟩
    · omega
    · cases h1
      refine crash1_at ρ bk nth b 0 n cap (ks.map bb ++ sp) 4 (0, 0) (keepB ks nth) hlt ?_
      have h5 : nth < ks.length := by omega
      rw [Nat.zero_add, Nat.mul_one, List.getElem?_append_left (by simpa using h5)]
      simp [keepB, bb, h5]
  · have : keepB ks nth = false := by
      have : ks[nth]? = none := List.getElem?_eq_none (by omega)
      simp [keepB, this]
    rw [this]
    exact crash1_over ρ bk nth a n cap _ (by omega)
theorem MapOk.arm {D : DS} {es n} (h : MapOk D.secs es) : MapOk (D.arm n).1.secs es := by unfold DS.arm; split <;> exact h
theorem MapOk.fail {D : DS} {es n} (h : MapOk D.secs es) : MapOk (D.fail n).1.secs es := by unfold DS.fail; split <;> exact h
theorem arm_disk (ρ : Hp) (b : Nat) (hb : HB) (mb : Nat) (es : List MapEntry) (ck : Nat) (D : DS) (k : Int) : Spec Try.prog 47 [.pointer (some ⟨b, 0, none⟩), .int .i64 k] ρ (diskL b hb mb es ck D) (fun v ρ' L' => v = .int .i64 (D.arm k).2 ∧ ρ' = ρ ∧ L' = diskL b hb mb es ck (D.arm k).1) := by
  refine ((arm_spec ρ b hb mb D.secs.length D.ops D.armed D.failing k D.dead).frame [[(hb.b, .cells ⟨heldC D.secs ++ hb.sp⟩ 102 (0, 0))], [(mb, .map ⟨es⟩ ck)]]).mono ?_
  rintro v ρ' L' _ ⟨L1, rfl, rfl, rfl, rfl⟩
  obtain ⟨s, o, a, f, d⟩ := D
  cases d <;> exact ⟨rfl, rfl, rfl⟩
theorem fail_disk (ρ : Hp) (b : Nat) (hb : HB) (mb : Nat) (es : List MapEntry) (ck : Nat) (D : DS) (k : Int) : Spec Try.prog 48 [.pointer (some ⟨b, 0, none⟩), .int .i64 k] ρ (diskL b hb mb es ck D) (fun v ρ' L' => v = .int .i64 (D.fail k).2 ∧ ρ' = ρ ∧ L' = diskL b hb mb es ck (D.fail k).1) := by
  refine ((fail_spec ρ b hb mb D.secs.length D.ops D.armed D.failing k D.dead).frame [[(hb.b, .cells ⟨heldC D.secs ++ hb.sp⟩ 102 (0, 0))], [(mb, .map ⟨es⟩ ck)]]).mono ?_
  rintro v ρ' L' _ ⟨L1, rfl, rfl, rfl, rfl⟩
  obtain ⟨s, o, a, f, d⟩ := D
  cases d <;> exact ⟨rfl, rfl, rfl⟩
theorem len_disk (ρ : Hp) (b : Nat) (hb : HB) (mb : Nat) (es : List MapEntry) (ck : Nat) (D : DS) : Spec Try.prog 95 [.pointer (some ⟨b, 0, none⟩)] ρ (diskL b hb mb es ck D) (fun v ρ' L' => v = .int .i64 (D.secs.length : Nat) ∧ ρ' = ρ ∧ L' = diskL b hb mb es ck D) := by
  refine ((len_spec ρ b hb mb D.secs.length D.ops D.armed D.failing D.dead).frame [[(hb.b, .cells ⟨heldC D.secs ++ hb.sp⟩ 102 (0, 0))], [(mb, .map ⟨es⟩ ck)]]).mono ?_
  rintro v ρ' L' _ ⟨L1, rfl, rfl, rfl, rfl⟩
  exact ⟨rfl, rfl, rfl⟩
theorem dead_disk (ρ : Hp) (b : Nat) (hb : HB) (mb : Nat) (es : List MapEntry) (ck : Nat) (D : DS) : Spec Try.prog 108 [.pointer (some ⟨b, 0, none⟩)] ρ (diskL b hb mb es ck D) (fun v ρ' L' => v = .bool D.dead ∧ ρ' = ρ ∧ L' = diskL b hb mb es ck D) := by
  refine ((dead_spec ρ b hb mb D.secs.length D.ops D.armed D.failing D.dead).frame [[(hb.b, .cells ⟨heldC D.secs ++ hb.sp⟩ 102 (0, 0))], [(mb, .map ⟨es⟩ ck)]]).mono ?_
  rintro v ρ' L' _ ⟨L1, rfl, rfl, rfl, rfl⟩
  exact ⟨rfl, rfl, rfl⟩
theorem read_len {D : DS} (hD : D.Ok) (i : Int) : (D.read i).2.1.length = 64 := by
  unfold DS.read
  split
  · rfl
  · split
    · rfl
    · split
      · rfl
      · rename_i h1 h2 h3
        have hlt : i.toNat < D.secs.length := by omega
        simp only [List.getElem?_eq_getElem hlt, Option.getD_some]
        unfold says1
        cases hc : D.secs[i.toNat].2 with
        | none => exact hD.secs.held _ (List.getElem_mem hlt)
        | some c => exact hD.secs.cached _ (List.getElem_mem hlt) c hc
theorem read_secs {D : DS} (i : Int) : (D.read i).1.secs = D.secs := by
  unfold DS.read
  split
  · rfl
  · split
    · rfl
    · split <;> rfl
theorem MapOk.read {D : DS} {es i} (h : MapOk D.secs es) : MapOk (D.read i).1.secs es := by rw [read_secs]; exact h
theorem new_okD {n : Nat} (h0 : 0 < n) (h1 : n ≤ 2048) : (DS.new n).Ok := ⟨fresh_ok h0 h1, by simp [DS.new], by simp [DS.new], by simp [DS.new], by simp [DS.new]⟩
theorem OwnS.pos {v n xs sp sz} (h : OwnS v n xs sp sz) (h0 : 0 < n) : ∃ b cap, v = .slice (some ⟨b, 0, none⟩) n cap := by
  rcases h.out with ⟨_, h2, _⟩ | ⟨b, cap, h1, _⟩
  · omega
  · exact ⟨b, cap, h1⟩
theorem OwnS.full {n : Nat} (b : Nat) (xs : List Value) (h : xs.length = n) : OwnS (.slice (some ⟨b, 0, none⟩) n n) n xs [] 1 := ⟨.inr ⟨b, n, rfl, by omega, by simp; omega, Nat.le_refl _⟩⟩
theorem cnt_lo {n : Int} : -1 ≤ cnt n := by unfold cnt; omega
theorem cnt_hi {n : Int} (h : n ≤ 9223372036854775807) : cnt n ≤ 9223372036854775807 := by unfold cnt; omega
theorem DS.Ok.tick {D : DS} (h : D.Ok) : D.tick.Ok := ⟨h.secs, h.a1, h.a2, cnt_lo, cnt_hi h.f2⟩
theorem DS.Ok.read {D : DS} {i : Int} (h : D.Ok) : (D.read i).1.Ok := by
  unfold DS.read
  split
  · exact h
  · split
    · exact h
    · split <;> exact h.tick
theorem DS.Ok.write {D : DS} {i : Int} {b : Blk} (h : D.Ok) (hb : b.length = 64) : (D.write i b).1.Ok := by
  unfold DS.write
  split
  · exact h
  · split
    · exact h
    · rename_i h1 h2
      have hi : i.toNat < D.secs.length := by omega
      split
      · exact ⟨h.secs.putC hb hi, h.tick.a1, h.tick.a2, h.tick.f1, h.tick.f2⟩
      · split
        · exact h.tick
        · exact ⟨h.secs.putC hb hi, cnt_lo, cnt_hi h.a2, h.tick.f1, h.tick.f2⟩
theorem DS.Ok.sync {D : DS} (h : D.Ok) : D.sync.1.Ok := by
  unfold DS.sync
  split
  · exact h
  · split
    · exact ⟨h.secs, h.tick.a1, h.tick.a2, h.tick.f1, h.tick.f2⟩
    · split
      · exact h.tick
      · exact ⟨h.secs.settled, cnt_lo, cnt_hi h.a2, h.tick.f1, h.tick.f2⟩
theorem DS.Ok.crash {D : DS} {keep} (h : D.Ok) : (D.crash keep).Ok := ⟨h.secs.settled, by simp [DS.crash], by simp [DS.crash], by simp [DS.crash], by simp [DS.crash]⟩
/-- a disk that is alive, with nothing set to fail -/
structure DS.Calm (D : DS) : Prop where
  dead : D.dead = false
  armed : D.armed = -1
  failing : D.failing = -1
theorem new_calm {n} : (DS.new n).Calm := ⟨rfl, rfl, rfl⟩
theorem DS.Calm.read {D : DS} {i : Int} (h : D.Calm) : (D.read i).1.Calm := by
  obtain ⟨s, o, a, f, d⟩ := D
  obtain ⟨h1, h2, h3⟩ := h
  simp only at h1 h2 h3
  subst h1; subst h2; subst h3
  unfold DS.read
  simp only [Bool.false_eq_true, if_false]
  split
  · exact ⟨rfl, rfl, rfl⟩
  · exact ⟨rfl, rfl, rfl⟩
theorem DS.Calm.write {D : DS} {i : Int} {b : Blk} (h : D.Calm) : (D.write i b).1.Calm := by
  obtain ⟨s, o, a, f, d⟩ := D
  obtain ⟨h1, h2, h3⟩ := h
  simp only at h1 h2 h3
  subst h1; subst h2; subst h3
  unfold DS.write
  simp only [Bool.false_eq_true, if_false]
  split
  · exact ⟨rfl, rfl, rfl⟩
  · exact ⟨rfl, rfl, rfl⟩
theorem DS.Calm.sync_eq {D : DS} (h : D.Calm) : D.sync = (⟨settled (fun _ => true) D.secs, IntKind.i64.wrap (D.ops + 1), -1, -1, false⟩, 0) := by
  obtain ⟨s, o, a, f, d⟩ := D
  obtain ⟨h1, h2, h3⟩ := h
  simp only at h1 h2 h3
  subst h1; subst h2; subst h3
  rfl
end Go.Proofs.E

namespace Go.Proofs.E
open Go
set_option linter.unusedVariables false
set_option linter.unusedSimpArgs false
set_option linter.unusedSectionVars false
set_option maxRecDepth 4000
set_option maxHeartbeats 1000000
attribute [local irreducible] Yl TL TC TE Spec YSpec R1 Hp.le EnvLe TS TR YS Stays
theorem isP_putC {s : Secs} {i j : Nat} {b : Blk} (hi : i < s.length) : isP (putC s i b) j = (isP s j || decide (j = i)) := by
  unfold isP putC
  rw [List.getElem?_set]
  by_cases e : i = j
  · subst e; simp [hi]
  · have : ¬ j = i := fun h => e h.symm
    simp [e, this]
theorem isP_empty {s : Secs} (h : emptyC s) (j : Nat) : isP s j = false := by
  unfold isP
  cases hs : s[j]? with
  | none => rfl
  | some p =>
    have := h p (List.mem_of_getElem? hs)
    simp [this]
theorem filter_eq_one (n i : Nat) (hi : i < n) : (List.range n).filter (fun j => decide (j = i)) = [i] := by
  induction n with
  | zero => omega
  | succ n ih =>
    rw [List.range_succ, List.filter_append]
    by_cases e : i = n
    · subst e
      have : (List.range i).filter (fun j => decide (j = i)) = [] := by
        rw [List.filter_eq_nil_iff]; intro a ha; simp at ha ⊢; omega
      simp [this]
    · rw [ih (by omega)]
      have : ¬ n = i := fun h => e h.symm
      simp [this]
theorem DS.Calm.read_eq {D : DS} {i : Nat} (h : D.Calm) (hi : i < D.secs.length) : D.read i = (⟨D.secs, IntKind.i64.wrap (D.ops + 1), -1, -1, false⟩, says1 D.secs[i], 0) := by
  obtain ⟨s, o, a, f, d⟩ := D
  obtain ⟨h1, h2, h3⟩ := h
  simp only at h1 h2 h3
  subst h1; subst h2; subst h3
  simp only at hi
  have hn : ¬ ((i : Int) < 0 ∨ (s.length : Int) ≤ i) := by omega
  have hc : cnt (-1) = -1 := by decide
  unfold DS.read
  simp only [hn, if_false, Bool.false_eq_true, DS.tick, hc, show ¬ ((-1 : Int) = 0) by decide, Int.toNat_natCast, List.getElem?_eq_getElem hi, Option.getD_some]
theorem DS.Calm.write_eq {D : DS} {i : Nat} {b : Blk} (h : D.Calm) (hi : i < D.secs.length) : D.write i b = (⟨putC D.secs i b, IntKind.i64.wrap (D.ops + 1), -1, -1, false⟩, 0) := by
  obtain ⟨s, o, a, f, d⟩ := D
  obtain ⟨h1, h2, h3⟩ := h
  simp only at h1 h2 h3
  subst h1; subst h2; subst h3
  simp only at hi
  have hn : ¬ ((i : Int) < 0 ∨ (s.length : Int) ≤ i) := by omega
  have hc : cnt (-1) = -1 := by decide
  unfold DS.write
  simp only [hn, if_false, Bool.false_eq_true, DS.tick, hc, show ¬ ((-1 : Int) = 0) by decide, Int.toNat_natCast]
theorem DS.Calm.mk' {s o} : (⟨s, o, -1, -1, false⟩ : DS).Calm := ⟨rfl, rfl, rfl⟩
theorem DS.Ok.mk' {s o} (h : SecsOk s) : (⟨s, o, -1, -1, false⟩ : DS).Ok := ⟨h, by simp, by simp, by simp, by simp⟩
theorem putC_self {s : Secs} {i : Nat} {b : Blk} (hi : i < s.length) (h' : i < (putC s i b).length) : (putC s i b)[i] = (s[i].1, some b) := by
  simp [putC, hi]
theorem settled_at {keep : Nat → Bool} {s : Secs} {i : Nat} (hi : i < s.length) (h' : i < (settled keep s).length) :
    (settled keep s)[i] = (if isP s i && keep (pendTo s i).length then (s[i].2.getD s[i].1, none) else (s[i].1, none)) := by
  have hlt : isP s i = true → (pendTo s i).length < (pend s).length := fun hp => by
    have := (pendTo_pre (s := s) (k := i + 1) (m := s.length) (by omega)).length_le
    rw [pendTo_succ_t hp] at this
    simp only [List.length_append, List.length_singleton] at this
    unfold pend; omega
  simp only [settled, setAfter, List.getElem_map, List.getElem_mapIdx]
  cases hp : isP s i with
  | false => simp
  | true =>
    have := hlt hp
    simp only [this, decide_true, Bool.true_and]
    cases keep (pendTo s i).length <;> simp
theorem says_settled {keep : Nat → Bool} {s : Secs} {i : Nat} (hi : i < s.length) (h' : i < (settled keep s).length) :
    says1 (settled keep s)[i] = if isP s i && keep (pendTo s i).length then says1 s[i] else s[i].1 := by
  rw [settled_at hi]
  split <;> simp [says1]
theorem crash_own (ρ : Hp) (b : Nat) (hb : HB) (mb : Nat) (es : List MapEntry) (ck : Nat) (D : DS) (hD : D.Ok) (hm : MapOk D.secs es) (a : Option Addr) (n cap : Nat) (ks : List Bool) (sp : List Value) (hn : n = ks.length) (h : OwnS (.slice a n cap) n (ks.map bb) sp 1) :
    Spec Try.prog 50 [.pointer (some ⟨b, 0, none⟩), .slice a n cap] ρ (diskL b hb mb es ck D ++ [ownC (.slice a n cap) (ks.map bb) sp 4])
      (fun v ρ' L' => v = .int .i64 0 ∧ ρ.le ρ' ∧ ∃ mb' ck', L' = diskL b hb mb' [] ck' (D.crash (keepB ks)) ++ [ownC (.slice a n cap) (ks.map bb) sp 4]) :=
  crash_spec ρ b hb mb es ck D hD hm a n cap [ownC (.slice a n cap) (ks.map bb) sp 4] (keepB ks) (fun bk nth _ => crash1_own ρ a n cap ks sp hn h bk nth)
/-! ## Copy -/
theorem clone46 (ρ : Hp) (b n cap : Nat) (xs sp : List Value) (hl : xs.length = n * 64) (hn : 0 < n) (hbig : n ≤ 100000) (h1 : xs.all (·.oneCell') = true) :
    Spec Try.prog 237 [.slice (some ⟨b, 0, none⟩) n cap] ρ [[(b, .cells ⟨xs ++ sp⟩ 102 (0, 0))]] (fun v ρ' L' => ρ' = ρ ∧ ∃ sp', OwnS v n xs sp' 64 ∧ L' = [[(b, .cells ⟨xs ++ sp⟩ 102 (0, 0))], ownC v xs sp' 102]) := by
  refine spec_enter Try.func237 rfl rfl rfl fun u R => ?_
  simp only [argsE, List.cons_append, List.nil_append]
  have hsrc : ((xs ++ sp).drop 0).take (n * 64) = xs := by simp [hl]
  repeat' (first | (refine i_op ?_; first | (refine i_qq ?_; refine qQ ?_) | refine qEf ?_) | refine tl_nil ?_ | (refine i_tc ?_; refine qTc ?_) | (refine i_te ?_; refine qTe ?_) | intro _)
  refine tl_append (n := 0) (xs := []) (sp := []) (ys := xs) rfl rfl (OwnS.zero _ 64) (hR := rem_here') (Src.find (n := n * 64) hsrc) hl h1 hn rfl (by omega) (by omega) rfl (fun v' sp' hown' => ?_)
  simp only [Nat.zero_add, List.nil_append] at hown' ⊢
  repeat' (first | (refine i_op ?_; first | (refine i_qq ?_; refine qQ ?_) | refine qEf ?_) | refine tl_nil ?_ | (refine i_tc ?_; refine qTc ?_) | (refine i_te ?_; refine qTe ?_) | intro _)
  exact te_end rfl rfl rfl (res1 rfl (r1_tmp rfl)) (Hp.le_refl _) tk (by infer_instance) ⟨rfl, sp', hown', rfl⟩
theorem mclone47 (ρ : Hp) (b : Nat) (es : Array MapEntry) (ck : Nat) : Spec Try.prog 238 [.map (some b)] ρ [[(b, .map es ck)]] (fun v ρ' L' => ρ' = ρ ∧ ∃ b', v = .map (some b') ∧ L' = [[(b, .map es ck)], [(b', .map es ck)]]) := by
  refine spec_enter Try.func238 rfl rfl rfl fun u R => ?_
  simp only [argsE, List.cons_append, List.nil_append]
  repeat' (first | (refine tl_is (.func 246) ?_; refine tl_mapsClone rfl Try.func246 rfl rfl rfl rfl rfl (fun _ => ?_)) | (refine i_op ?_; first | (refine i_qq ?_; refine qQ ?_) | refine qEf ?_) | refine tl_nil ?_ | (refine i_tc ?_; refine qTc ?_) | (refine i_te ?_; refine qTe ?_) | intro _)
  exact qE ⟨rfl, _, rfl, rfl⟩
theorem copy_nil (ρ : Hp) : Spec Try.prog 215 [.pointer none] ρ [] (fun v ρ' L' => v = .pointer none ∧ ρ' = ρ ∧ L' = []) := by
  refine spec_enter Try.func215 rfl rfl rfl fun u R => ?_
  simp only [argsE, List.cons_append, List.nil_append]
  repeat' (first | (refine i_op ?_; first | (refine i_qq ?_; refine qQ ?_) | refine qEf ?_) | refine tl_nil ?_ | (refine i_tc ?_; refine qTc ?_) | (refine i_te ?_; refine qTe ?_) | intro _)
  exact qE ⟨rfl, rfl, rfl⟩
theorem heldC_one (s : Secs) : (heldC s).all (·.oneCell') = true := by
  unfold heldC
  rw [List.all_flatten, List.all_map, List.all_eq_true]
  intro p _
  exact u8c_one p.1
theorem copy_spec (ρ : Hp) (b : Nat) (hb : HB) (mb : Nat) (es : List MapEntry) (ck : Nat) (D : DS) (hD : D.Ok) :
    Spec Try.prog 215 [.pointer (some ⟨b, 0, none⟩)] ρ (diskL b hb mb es ck D) (fun v ρ' L' => ρ' = ρ ∧ ∃ b' hb' mb', v = .pointer (some ⟨b', 0, none⟩) ∧ L' = diskL b hb mb es ck D ++ diskL b' hb' mb' es ck D) := by
  obtain ⟨s, ops, armed, failing, dead⟩ := D
  have hs := hD.secs
  dsimp only at hs
  have hlen := hs.len
  have hpos := hs.pos
  have hl := heldC_length hs.held
  have h1 := heldC_one s
  refine spec_enter Try.func215 rfl rfl rfl fun u R => ?_
  simp only [argsE, List.cons_append, List.nil_append, diskL, dO]
  repeat' (first | (refine i_op ?_; first | (refine i_qq ?_; refine qQ ?_) | refine qEf ?_) | refine tl_nil ?_ | (refine i_tc ?_; refine qTc ?_) | (refine i_te ?_; refine qTe ?_) | intro _)
  rename_i bc
  refine tc_any (Stays _ _ ([[(b, .cells ⟨[.slice (some ⟨hb.b, 0, none⟩) s.length hb.cap, .map (some mb), .int .i64 ops, .int .i64 armed, .int .i64 failing, .bool dead]⟩ 169 (0, 0))]])) (stays_of (Hp.le_refl _)) ?_
  all_goals refine rMv 0 ?_
  all_goals refine rNc 1 ?_
  all_goals refine rFa 2 ?_
  all_goals refine rLd 3 ?_
  all_goals refine rMv 5 ?_
  all_goals refine rNc 6 ?_
  all_goals refine rFa 7 ?_
  all_goals refine rLd 8 ?_
  all_goals (refine rStep (i := 4) ?_; ((try refine qWant ?_); (first | (refine tl_is (.func 237) ?_; refine qC rfl rfl (clone46 _ hb.b s.length hb.cap (heldC s) hb.sp hl hpos (by omega) h1) ?_; rintro v ρ' L' hle ⟨rfl, sp', hown, rfl⟩; obtain ⟨hb', hc', rfl⟩ := hown.pos hpos; simp only [ownC, List.cons_append, List.nil_append]) | (refine qEf ?_; try intro _)) <;> ((try simp only [List.cons_append, List.nil_append, List.append_eq]); refine tl_nil ?_; refine rNext ?_)))
  all_goals (refine rStep (i := 9) ?_; ((try refine qWant ?_); (first | (refine tl_is (.func 238) ?_; refine qC rfl rfl (mclone47 _ mb _ ck) ?_; rintro v ρ' L' hle ⟨rfl, mb', rfl, rfl⟩ <;> (try simp only [List.cons_append, List.nil_append, List.append_eq])) | (refine qEf ?_; try intro _)) <;> ((try simp only [List.cons_append, List.nil_append, List.append_eq]); refine tl_nil ?_; refine rNext ?_)))
  all_goals refine rFa 10 ?_
  all_goals (refine rStep (i := 11) ?_; ((try refine qWant ?_); (first | (refine qEf ?_; try intro _)) <;> ((try simp only [List.cons_append, List.nil_append, List.append_eq]); refine tl_nil ?_; refine rNext ?_)))
  all_goals refine rFa 12 ?_
  all_goals (refine rStep (i := 13) ?_; ((try refine qWant ?_); (first | (refine qEf ?_; try intro _)) <;> ((try simp only [List.cons_append, List.nil_append, List.append_eq]); refine tl_nil ?_; refine rNext ?_)))
  all_goals refine rDone ?_
  repeat' (first | (refine i_op ?_; first | (refine i_qq ?_; refine qQ ?_) | refine qEf ?_) | refine tl_nil ?_ | (refine i_tc ?_; refine qTc ?_) | (refine i_te ?_; refine qTe ?_) | intro _)
  exact qE ⟨rfl, bc, ⟨hb', hc', sp'⟩, mb', rfl, rfl⟩
theorem crash_in (ρ : Hp) (b : Nat) (hb : HB) (mb : Nat) (es : List MapEntry) (ck : Nat) (D : DS) (hD : D.Ok) (hm : MapOk D.secs es) (ka : Option Addr) (kn kp m : Nat) (ks : List Bool) (hk : KeepIn ρ ka kn kp ks) (hmn : m = min kn 60) :
    Spec Try.prog 50 [.pointer (some ⟨b, 0, none⟩), .slice ka m kp] ρ (diskL b hb mb es ck D)
      (fun v ρ' L' => v = .int .i64 0 ∧ ρ.le ρ' ∧ ∃ mb' ck', L' = diskL b hb mb' [] ck' (D.crash (keepB (ks.take 60)))) := by
  have := crash_spec ρ b hb mb es ck D hD hm ka m kp [] (keepB (ks.take 60)) (fun bk nth _ => by
    obtain ⟨h1, h2, h3, h4⟩ := hk
    by_cases hlt : nth < m
    · obtain ⟨kb, off, C, T, fr, rfl, e2, e3⟩ := h4.resolve_left (by omega)
      have hn : nth < ks.length := by omega
      have hc : C[off + nth * 1]? = some (.bool ks[nth]) := by
        have := congrArg (fun l : List Value => l[nth]?) e3

        rw [List.getElem?_take_of_lt (by omega), List.getElem?_drop] at this
        rw [Nat.mul_one, this]; simp [hn, bb]
      have hkb : keepB (ks.take 60) nth = ks[nth] := by
        unfold keepB
        rw [List.getElem?_take_of_lt (by omega), List.getElem?_eq_getElem hn, Option.getD_some]
      rw [hkb]
      exact crash1_imm ρ bk nth kb off m kp C T fr _ hlt hc e2
    · have hkb : keepB (ks.take 60) nth = false := by
        unfold keepB
        rw [List.getElem?_eq_none (by simp; omega)]; rfl
      rw [hkb]
      exact crash1_over ρ bk nth ka m kp [] (by omega))
  simp only [List.append_nil] at this
  exact this
theorem settled_congr {f g : Nat → Bool} {s : Secs} (h : ∀ n, n < (pend s).length → f n = g n) : settled f s = settled g s := by
  have hl : (settled f s).length = (settled g s).length := by rw [settled_length, settled_length]
  apply List.ext_getElem hl
  intro i h1 h2
  have hi : i < s.length := by rw [settled_length] at h1; exact h1
  rw [settled_at hi, settled_at hi]
  cases hp : isP s i with
  | false => simp
  | true =>
    have hlt : (pendTo s i).length < (pend s).length := by
      have := (pendTo_pre (s := s) (k := i + 1) (m := s.length) (by omega)).length_le
      rw [pendTo_succ_t hp] at this
      simp only [List.length_append, List.length_singleton] at this
      unfold pend; omega
    rw [h _ hlt]
theorem settled_empty {f : Nat → Bool} {s : Secs} (h : emptyC s) : settled f s = s := by
  apply List.ext_getElem (by rw [settled_length])
  intro i h1 h2
  rw [settled_at h2, isP_empty h]
  have := h s[i] (List.getElem_mem h2)
  simp only [Bool.false_and, Bool.false_eq_true, if_false]
  cases hs : s[i] with
  | mk x y => rw [hs] at this; simp only at this; rw [this]
theorem pend_empty {s : Secs} (h : emptyC s) : pend s = [] := by
  unfold pend pendTo
  rw [List.filter_eq_nil_iff]
  intro a _
  rw [isP_empty h]; simp
theorem madeFalse (n : Nat) : madeCells (Value.bool false).cells (n * 1) = ⟨List.replicate n (.bool false)⟩ := by
  have := madeCells_rep (.bool false) 1 (n * 1) (by decide)
  simpa [Value.cells] using this
end Go.Proofs.E

namespace Go.Proofs.E
open Go Go.RowKit
set_option linter.unusedVariables false
set_option linter.unusedSimpArgs false
set_option linter.unusedSectionVars false
set_option maxRecDepth 8000
/-! ## what came in: bytes, rows of them -/
theorem rs_flatK {α : Type} {sz : Nat} {g : α → List Value} {C : List Value} {off : Nat} : ∀ (l : List α) (k : Nat), k ≤ l.length → (∀ i (h : i < l.length), (C.drop (off + i * sz)).take sz = g l[i]) → (C.drop off).take (k * sz) = ((l.take k).map g).flatten
  | l, 0, _, _ => by simp
  | l, k + 1, hk, h => by
    have ih := rs_flatK l k (by omega) h
    rw [show l.take (k + 1) = l.take k ++ [l[k]'(by omega)] from List.take_succ_eq_append_getElem (by omega), Nat.add_mul, Nat.one_mul, List.take_add, ih, List.drop_drop, h k (by omega)]
    simp only [List.map_append, List.flatten_append, List.map_cons, List.map_nil, List.flatten_cons, List.flatten_nil, List.append_nil]
theorem aIn_ofK {ρ : Hp} {α : Type} {sz : Nat} {g : α → List Value} {P : α → Prop} {cs : List Value} {s : Option Addr × Nat × Nat × List α} (hg : ∀ x, (g x).length = sz) (h : RS ρ sz (fun cs x => cs = g x ∧ P x) cs s) : AIn ρ sz g s.1 s.2.1 s.2.2.2 ∧ (∀ x ∈ s.2.2.2, P x) ∧ s.2.1 ≤ s.2.2.1 ∧ s.2.1 ≤ 9223372036854775807 := by
  obtain ⟨a, n, c, ks⟩ := s
  obtain ⟨h1, h2, h3, h4, h5⟩ := h
  dsimp only at h1 h2 h3 h4 h5 ⊢
  refine ⟨⟨h4, ?_, fun x _ => hg x⟩, fun x hx => ?_, h2, by omega⟩
  · by_cases h0 : n = 0
    · exact .inl h0
    · right
      obtain ⟨b, off, C, T, fr, e1, e2, e3, e4⟩ := h5 0 (by omega)
      have same : ∀ i (h : i < ks.length), off + i * sz + sz ≤ C.length ∧ (C.drop (off + i * sz)).take sz = g ks[i] := fun i hi => by
        obtain ⟨b', off', C', T', fr', f1, f2, f3, f4⟩ := h5 i hi
        rw [e1] at f1
        cases f1
        rw [e2] at f2
        cases f2
        exact ⟨f3, f4.1⟩
      refine ⟨b, off, C, T, fr, e1, e2, ?_, ?_⟩
      · have := (same (n - 1) (by omega)).1
        have e : n * sz = (n - 1) * sz + sz := by
          obtain ⟨m, rfl⟩ : ∃ m, n = m + 1 := ⟨n - 1, by omega⟩
          rw [Nat.add_mul]; simp
        omega
      · have := rs_flatK (sz := sz) (g := g) ks n (by omega) (fun i hi => (same i hi).2)
        rw [this, List.take_of_length_le (by omega)]
  · obtain ⟨i, hi, rfl⟩ := List.mem_iff_getElem.1 hx
    obtain ⟨_, _, _, _, _, _, _, _, f⟩ := h5 i hi
    exact f.2
theorem opn_u8K {H : Type} {enc : TypeId × Value → H} {w : World} : Opn enc Try.prog w 5 (fun cs (b : UInt8) => cs = [u8c b]) := fun fuel cs x h => by
  obtain ⟨n, rfl, h1, h2⟩ := opn_int Try.underlying5 fuel cs x h
  simp only [lo, hi] at h1 h2
  refine ⟨UInt8.ofNat n.toNat, ?_⟩
  have : ((UInt8.ofNat n.toNat).toNat : Int) = n := by simp [UInt8.toNat_ofNat]; omega
  simp only [u8c, this]
theorem opn_bytesK {H : Type} {enc : TypeId × Value → H} {w : World} : Opn enc Try.prog w 22 (RS (hpOf w) 1 (fun cs (b : UInt8) => cs = [u8c b])) :=
  opn_slice Try.underlying22 (by kernel_rfl) (by decide) opn_u8K
theorem sIn_ofK {ρ : Hp} {cs : List Value} {s : Option Addr × Nat × Nat × List UInt8} (h : RS ρ 1 (fun cs (b : UInt8) => cs = [u8c b]) cs s) : SIn ρ u8c s.1 s.2.1 s.2.2.2 ∧ s.2.1 ≤ s.2.2.1 ∧ s.2.1 ≤ 9223372036854775807 := by
  obtain ⟨a, n, c, ks⟩ := s
  obtain ⟨h1, h2, h3, h4, h5⟩ := h
  dsimp only at h1 h2 h3 h4 h5 ⊢
  refine ⟨⟨h4, ?_⟩, h2, by omega⟩
  by_cases h0 : n = 0
  · exact .inl h0
  · right
    obtain ⟨b, off, C, T, fr, e1, e2, e3, e4⟩ := h5 0 (by omega)
    have same : ∀ i (h : i < ks.length), off + i * 1 + 1 ≤ C.length ∧ (C.drop (off + i * 1)).take 1 = [u8c ks[i]] := fun i hi => by
      obtain ⟨b', off', C', T', fr', f1, f2, f3, f4⟩ := h5 i hi
      rw [e1] at f1
      cases f1
      rw [e2] at f2
      cases f2
      exact ⟨f3, f4⟩
    refine ⟨b, off, C, T, fr, e1, e2, ?_⟩
    apply List.ext_getElem
    · have := (same (n - 1) (by omega)).1
      simp; omega
    · intro i h1 h2
      have hi : i < ks.length := by simpa using h2
      have h3 := (same i hi).2
      have h4 := congrArg (fun l : List Value => l[0]?) h3
      simp only [List.getElem?_cons_zero] at h4
      rw [List.getElem?_take_of_lt (by omega), List.getElem?_drop] at h4
      have h5 : C[off + i]? = some (u8c ks[i]) := by simpa using h4
      simp only [List.getElem_take, List.getElem_drop, List.getElem_map]
      exact (List.getElem?_eq_some_iff.1 h5).2

theorem Opn.mono {H : Type} {enc : TypeId × Value → H} {P : Program} {w : World} {t : TypeId} {α β : Type} {R : List Value → α → Prop} {R' : List Value → β → Prop} (h : Opn enc P w t R) (k : ∀ cs a, R cs a → ∃ b, R' cs b) : Opn enc P w t R' := fun fuel cs x hx => by
  obtain ⟨a, ha⟩ := h fuel cs x hx
  exact k cs a ha
theorem sIn_of1 {ρ : Hp} {α : Type} {g : α → Value} {a : Option Addr} {n : Nat} {l : List α} (h : AIn ρ 1 (fun x => [g x]) a n l) : SIn ρ g a n l := by
  refine ⟨h.len, ?_⟩
  rcases h.out with h0 | ⟨b, off, C, T, fr, h1, h2, h3, h4⟩
  · exact .inl h0
  · right
    refine ⟨b, off, C, T, fr, h1, h2, ?_⟩
    rw [Nat.mul_one] at h4
    rw [h4]
    clear h h4 h3
    induction l with
    | nil => rfl
    | cons x r ih => simp [ih]
end Go.Proofs.E

namespace Go.Proofs.E
open Go
set_option linter.unusedVariables false
set_option linter.unusedSimpArgs false
set_option linter.unusedSectionVars false
set_option maxRecDepth 4000
set_option maxHeartbeats 1000000
attribute [local irreducible] Yl TL TC TE Spec YSpec R1 Hp.le EnvLe TS TR YS Stays
/-! ## layer 4: rings, as data -/
abbrev Bs := List UInt8
def pad (l : Bs) : Blk := (l ++ z8 64).take 64
theorem pad_len (l : Bs) : (pad l).length = 64 := by simp [pad, z8]
theorem pad_of {l : Bs} (h : l.length ≤ 64) : pad l = l ++ z8 (64 - l.length) := by
  unfold pad z8
  rw [List.take_append, List.take_of_length_le h, List.take_replicate, Nat.min_eq_left (by omega)]
theorem pad_take (l : Bs) : pad (l.take 64) = pad l := by
  by_cases h : l.length ≤ 64
  · rw [List.take_of_length_le h]
  · unfold pad
    rw [List.take_append_of_le_length (by simp; omega), List.take_take, List.take_append_of_le_length (by omega)]; simp
structure Hd where
  turn : Nat
  first : Nat
  size : Nat
  place : Nat
  note : Bs
deriving DecidableEq
def sects (n : Nat) : Nat := max 1 ((n + 51) / 52)
theorem sects_pos (n : Nat) : 1 ≤ sects n := by unfold sects; omega
theorem sects_le {n : Nat} (h : n ≤ 8000) : sects n ≤ 154 := by unfold sects; omega
def letB : Bs := [98, 117, 114, 115, 114, 105, 110, 103]
def partB (turn n : Nat) (b : Bs) (k : Nat) : Blk := pad (be 4 turn ++ (be 5 n ++ (be 2 b.length ++ (UInt8.ofNat k :: (b.drop (52 * k)).take 52))))
def headB (h : Hd) : Blk := pad (letB ++ (be 4 h.turn ++ (be 2 h.size ++ (be 5 h.first ++ (be 2 h.place ++ (UInt8.ofNat h.note.length :: h.note))))))
theorem partB_len (t n : Nat) (b : Bs) (k : Nat) : (partB t n b k).length = 64 := pad_len _
theorem headB_len (h : Hd) : (headB h).length = 64 := pad_len _
/-- what a head's sector says, ahead of the note -/
def headOf (s : Blk) : Hd := ⟨unbe ((s.drop 8).take 4), unbe ((s.drop 14).take 5), unbe ((s.drop 12).take 2), unbe ((s.drop 19).take 2), (s.drop 22).take (s.getD 21 0).toNat⟩
def zHd : Hd := ⟨0, 0, 0, 0, []⟩
def Hd.Right (h : Hd) (n : Nat) : Prop := 1 ≤ h.turn ∧ h.turn ≤ 1073741824 ∧ 4 ≤ h.size ∧ h.size ≤ 1000 ∧ 1 ≤ h.first ∧ h.first ≤ 1099511627776 ∧ h.place < h.size ∧ n ≤ 32
instance (h : Hd) (n : Nat) : Decidable (h.Right n) := by unfold Hd.Right; infer_instance
def readB (s : Blk) : Hd × Bool := if (headOf s).Right (s.getD 21 0).toNat then (headOf s, decide (headB (headOf s) = s)) else (zHd, false)
def countsB (a b : Blk) : Hd × Bool := if (readB a).2 && (!(readB b).2 || decide ((readB b).1.turn ≤ (readB a).1.turn)) then ((readB a).1, true) else readB b
/-- sectors that are written one by one, and a Sync -/
def DS.lays : List (Nat × Blk) → DS → DS × Int
  | [], D => D.sync
  | p :: r, D => if (D.write (p.1 : Int) p.2).2 = 0 then DS.lays r (D.write (p.1 : Int) p.2).1 else D.write (p.1 : Int) p.2
def partsL (h : Hd) (n : Nat) (b : Bs) (at' : Nat) : List (Nat × Blk) := (List.range (sects b.length)).map fun k => (2 + (at' + k) % h.size, partB h.turn n b k)
theorem DS.Ok.lays : ∀ {l : List (Nat × Blk)} {D : DS}, D.Ok → (∀ p ∈ l, p.2.length = 64) → (DS.lays l D).1.Ok
  | [], D, h, _ => h.sync
  | p :: r, D, h, hl => by
    have h1 := hl p (by simp)
    unfold DS.lays
    split
    · exact DS.Ok.lays (h.write h1) (fun q hq => hl q (by simp [hq]))
    · exact h.write h1
theorem write_length (D : DS) (i : Int) (b : Blk) : (D.write i b).1.secs.length = D.secs.length := by
  unfold DS.write
  split
  · rfl
  · split
    · rfl
    · split
      · simp [putC_length]
      · split
        · rfl
        · simp [putC_length]
theorem sync_length (D : DS) : D.sync.1.secs.length = D.secs.length := by
  unfold DS.sync
  split
  · rfl
  · split
    · rfl
    · split
      · rfl
      · simp [settled_length]
theorem lays_length : ∀ (l : List (Nat × Blk)) (D : DS), (DS.lays l D).1.secs.length = D.secs.length
  | [], D => sync_length D
  | p :: r, D => by
    unfold DS.lays
    split
    · rw [lays_length, write_length]
    · exact write_length _ _ _
/-- bytes that lie in ρ, or in own memory that is left as it is -/
structure Rd (ρ : Hp) (X : SH) (a : Option Addr) (n : Nat) (l : Bs) : Prop where
  len : l.length = n
  src : ∀ (x : Cx) (ρ' : Hp) (L R : SH), ρ.le ρ' → Take L X R → SrcV x ρ' L a (l.map u8c)
theorem Rd.mono {ρ ρ' : Hp} {X : SH} {a : Option Addr} {n : Nat} {l : Bs} (h : Rd ρ X a n l) (hle : ρ.le ρ') : Rd ρ' X a n l := ⟨h.len, fun x ρ2 L R h2 hT => h.src x ρ2 L R (Hp.le_trans hle h2) hT⟩
theorem SIn.rd {ρ : Hp} {a : Option Addr} {n : Nat} {l : Bs} (h : SIn ρ u8c a n l) : Rd ρ [] a n l := ⟨h.len, fun x ρ' L R hle _ => (h.mono hle).srcV⟩
theorem OwnS.rd {ρ : Hp} {a : Option Addr} {n c : Nat} {l : Bs} {sp : List Value} {T : TypeId} (h : OwnS (.slice a n c) n (l.map u8c) sp 1) : Rd ρ [ownC (.slice a n c) (l.map u8c) sp T] a n l := by
  refine ⟨?_, fun x ρ' L R hle hT => ?_⟩
  · obtain ⟨_, _, _, h2⟩ := h.len
    simpa using h2
  · rcases h.out with ⟨e1, h1, h2, h3⟩ | ⟨b, c', e1, h2, h3, h4⟩
    · exact .inl h2
    · cases e1
      refine .inr ⟨b, 0, rfl, fun w hw j c hj => ?_⟩
      have hw' := hw.perm hT.out
      have hb : w.heap[b]? = some (.cells ⟨l.map u8c ++ sp⟩ T (0, 0)) := hw'.here (b, .cells ⟨l.map u8c ++ sp⟩ T (0, 0)) (by simp [ownC])
      simp only [World.cell?, hb, Option.isSome_none, Bool.false_eq_true, if_false, Nat.zero_add]
      simp only [List.getElem?_toArray]
      rw [List.getElem?_append_left (List.getElem?_eq_some_iff.1 hj).1]; exact hj
theorem SrcV.sub {x : Cx} {ρ : Hp} {L : SH} {a : Option Addr} {ys : List Value} (h : SrcV x ρ L a ys) {lo' k cap : Nat} (hk : lo' + k ≤ ys.length) (hc : ys.length ≤ cap) : SrcV x ρ L (if cap = lo' then a else a.map (·.add (lo' * 1))) ((ys.drop lo').take k) := by
  rcases h with rfl | ⟨b, off, rfl, hs⟩
  · left; simp
  · by_cases h0 : k = 0
    · left; simp [h0]
    · right
      rw [if_neg (by omega)]
      refine ⟨b, off + lo', by simp [addr_add], fun w hw j c hj => ?_⟩
      have hlt : j < k := by
        have := (List.getElem?_eq_some_iff.1 hj).1
        simp at this; omega
      rw [List.getElem?_take_of_lt hlt, List.getElem?_drop] at hj
      have := hs w hw (lo' + j) c hj
      rw [Nat.add_assoc]; exact this
/-- where a disk's parts lie, and what its cache's map holds -/
structure DK where
  hb : HB
  mb : Nat
  es : List MapEntry
  ck : Nat
abbrev diskK (b : Nat) (k : DK) (D : DS) : SH := diskL b k.hb k.mb k.es k.ck D
structure DOk (k : DK) (D : DS) : Prop where
  ok : D.Ok
  map : MapOk D.secs k.es
/-! ### what is done with rings -/
structure RgS where
  h : Hd
  ents : List Bs
  used : Nat
  broken : Bool
def usedL (l : List Bs) : Nat := (l.map fun b => sects b.length).sum
theorem usedL_append (l m : List Bs) : usedL (l ++ m) = usedL l + usedL m := by simp [usedL]
theorem usedL_cons (b : Bs) (l : List Bs) : usedL (b :: l) = sects b.length + usedL l := by simp [usedL]
theorem usedL_take_drop (l : List Bs) (n : Nat) : usedL (l.take n) + usedL (l.drop n) = usedL l := by rw [← usedL_append, List.take_append_drop]
theorem usedL_len (l : List Bs) : l.length ≤ usedL l := by
  induction l with
  | nil => simp [usedL]
  | cons b r ih => have := sects_pos b.length; rw [usedL_cons]; simp; omega
def RgS.next (R : RgS) : Nat := R.h.first + R.ents.length
structure RgS.Ok (R : RgS) : Prop where
  turn : 1 ≤ R.h.turn ∧ R.h.turn ≤ 1073741824
  size : 4 ≤ R.h.size ∧ R.h.size ≤ 1000
  first : 1 ≤ R.h.first
  next : R.next ≤ 1099511627776
  place : R.h.place < R.h.size
  note : R.h.note.length ≤ 32
  used : R.used = usedL R.ents
  fit : R.used ≤ R.h.size
  long : ∀ b ∈ R.ents, b.length ≤ 8000
def headL (h : Hd) : List (Nat × Blk) := [(h.turn % 2, headB h)]
def Hd.cut (h : Hd) (n gone : Nat) (note : Bs) : Hd := ⟨h.turn + 1, h.first + n, h.size, (h.place + gone) % h.size, note⟩
def RgS.append (R : RgS) (b : Bs) (D : DS) : RgS × DS × Int :=
  if R.broken then (R, D, 8)
  else if 8000 < b.length then (R, D, 3)
  else if R.h.size - R.used < sects b.length ∨ 1099511627776 ≤ R.next then (R, D, 6)
  else if (DS.lays (partsL R.h R.next b (R.h.place + R.used)) D).2 = 0 then (⟨R.h, R.ents ++ [b], R.used + sects b.length, false⟩, DS.lays (partsL R.h R.next b (R.h.place + R.used)) D)
  else ({ R with broken := true }, DS.lays (partsL R.h R.next b (R.h.place + R.used)) D)
def RgS.cutH (R : RgS) (n : Nat) (note : Bs) : Hd := R.h.cut n (usedL (R.ents.take n)) note
def RgS.cut (R : RgS) (n : Int) (note : Bs) (D : DS) : RgS × DS × Int :=
  if R.broken then (R, D, 8)
  else if n < 0 ∨ (R.ents.length : Int) < n ∨ R.h.turn = 1073741824 then (R, D, 2)
  else if 32 < note.length then (R, D, 3)
  else if (DS.lays (headL (R.cutH n.toNat note)) D).2 = 0 then (⟨R.cutH n.toNat note, R.ents.drop n.toNat, R.used - usedL (R.ents.take n.toNat), false⟩, DS.lays (headL (R.cutH n.toNat note)) D)
  else ({ R with broken := true }, DS.lays (headL (R.cutH n.toNat note)) D)
def freshH (size : Nat) : Hd := ⟨1, 1, size, 0, []⟩
def noughtsL (size : Nat) : List (Nat × Blk) := (List.range (size + 2)).map fun i => (i, zblk)
def formatR (size : Int) (D : DS) : Option RgS × DS × Int :=
  if size < 4 ∨ 1000 < size ∨ (D.secs.length : Int) < size + 2 then (none, D, 2)
  else if (DS.lays (noughtsL size.toNat) D).2 = 0 then
    if (DS.lays (headL (freshH size.toNat)) (DS.lays (noughtsL size.toNat) D).1).2 = 0 then (some ⟨freshH size.toNat, [], 0, false⟩, DS.lays (headL (freshH size.toNat)) (DS.lays (noughtsL size.toNat) D).1)
    else (none, DS.lays (headL (freshH size.toNat)) (DS.lays (noughtsL size.toNat) D).1)
  else (none, DS.lays (noughtsL size.toNat) D)
/-- the first bytes of a row of bytes, with noughts behind -/
def fitB (n : Nat) (l : Bs) : Bs := (l ++ z8 n).take n
theorem fitB_len (n : Nat) (l : Bs) : (fitB n l).length = n := by simp [fitB, z8]
/-- an entry's sectors from the k-th one on -/
def entGo (h : Hd) (n at' turn size : Nat) : Nat → Nat → Bs → DS → Option Bs × DS × Int
  | 0, _, acc, D => (some (fitB size acc), D, 0)
  | j + 1, k, acc, D =>
    if (D.read ((2 + (at' + k) % h.size : Nat) : Int)).2.2 ≠ 0 then (none, (D.read ((2 + (at' + k) % h.size : Nat) : Int)).1, (D.read ((2 + (at' + k) % h.size : Nat) : Int)).2.2)
    else if partB turn n (fitB size (acc ++ (D.read ((2 + (at' + k) % h.size : Nat) : Int)).2.1.drop 12)) k = (D.read ((2 + (at' + k) % h.size : Nat) : Int)).2.1 then
      entGo h n at' turn size j (k + 1) (acc ++ (D.read ((2 + (at' + k) % h.size : Nat) : Int)).2.1.drop 12) (D.read ((2 + (at' + k) % h.size : Nat) : Int)).1
    else (none, (D.read ((2 + (at' + k) % h.size : Nat) : Int)).1, 0)
def turnOf (s : Blk) : Nat := unbe (s.take 4)
def numOf (s : Blk) : Nat := unbe ((s.drop 4).take 5)
def sizeOf' (s : Blk) : Nat := unbe ((s.drop 9).take 2)
/-- an entry by its first sector -/
def entGo0 (h : Hd) (n at' left : Nat) (s : Blk) (D : DS) : Option Bs × DS × Int :=
  if turnOf s < 1 ∨ h.turn < turnOf s ∨ 8000 < sizeOf' s ∨ left < sects (sizeOf' s) then (none, D, 0)
  else if partB (turnOf s) n (fitB (sizeOf' s) (s.drop 12)) 0 = s then entGo h n at' (turnOf s) (sizeOf' s) (sects (sizeOf' s) - 1) 1 (s.drop 12) D
  else (none, D, 0)
def entryR (h : Hd) (n at' left : Nat) (D : DS) : Option Bs × DS × Int :=
  if left = 0 then (none, D, 0)
  else if (D.read ((2 + at' % h.size : Nat) : Int)).2.2 ≠ 0 then (none, (D.read ((2 + at' % h.size : Nat) : Int)).1, (D.read ((2 + at' % h.size : Nat) : Int)).2.2)
  else entGo0 h n at' left (D.read ((2 + at' % h.size : Nat) : Int)).2.1 (D.read ((2 + at' % h.size : Nat) : Int)).1
def RgS.adds (R : RgS) (b : Bs) : RgS := { R with ents := R.ents ++ [b], used := R.used + sects b.length }
def foundGo : Nat → RgS → DS → RgS × DS × Int
  | 0, R, D => (R, D, 0)
  | f + 1, R, D =>
    if R.next < 1099511627776 then
      match entryR R.h R.next (R.h.place + R.used) (R.h.size - R.used) D with
      | (some b, D', e) => if e = 0 then foundGo f (R.adds b) D' else (R, D', e)
      | (none, D', e) => (R, D', e)
    else (R, D, 0)
def openH (h : Hd) (D : DS) : Option RgS × DS × Int :=
  if D.secs.length < h.size + 2 then (none, D, 140)
  else if (foundGo (h.size + 1) ⟨h, [], 0, false⟩ D).2.2 ≠ 0 then (none, (foundGo (h.size + 1) ⟨h, [], 0, false⟩ D).2)
  else if h.turn = 1073741824 then (none, (foundGo (h.size + 1) ⟨h, [], 0, false⟩ D).2.1, 140)
  else if (DS.lays (headL { h with turn := h.turn + 1 }) (foundGo (h.size + 1) ⟨h, [], 0, false⟩ D).2.1).2 = 0 then
    (some { (foundGo (h.size + 1) ⟨h, [], 0, false⟩ D).1 with h := { h with turn := h.turn + 1 } }, DS.lays (headL { h with turn := h.turn + 1 }) (foundGo (h.size + 1) ⟨h, [], 0, false⟩ D).2.1)
  else (none, DS.lays (headL { h with turn := h.turn + 1 }) (foundGo (h.size + 1) ⟨h, [], 0, false⟩ D).2.1)
def openR (D : DS) : Option RgS × DS × Int :=
  if (D.read 0).2.2 ≠ 0 then (none, (D.read 0).1, (D.read 0).2.2)
  else if ((D.read 0).1.read 1).2.2 ≠ 0 then (none, ((D.read 0).1.read 1).1, ((D.read 0).1.read 1).2.2)
  else if (countsB (D.read 0).2.1 ((D.read 0).1.read 1).2.1).2 = false then (none, ((D.read 0).1.read 1).1, 140)
  else openH (countsB (D.read 0).2.1 ((D.read 0).1.read 1).2.1).1 ((D.read 0).1.read 1).1
end Go.Proofs.E

namespace Go.Proofs.E
open Go
set_option linter.unusedVariables false
set_option linter.unusedSimpArgs false
set_option linter.unusedSectionVars false
set_option maxRecDepth 4000
set_option maxHeartbeats 1000000
attribute [local irreducible] Yl TL TC TE Spec YSpec R1 Hp.le EnvLe TS TR YS Stays
theorem shr_byteR (V m : Nat) : Value.int .u8 (IntKind.u8.wrap ((V : Int) / 2 ^ (8 * m))) = u8c (UInt8.ofNat (V / 256 ^ m)) := by
  have h2 : (2 ^ (8 * m) : Nat) = 256 ^ m := by rw [Nat.pow_mul]
  have h3 : ((2 : Int) ^ (8 * m)) = ((2 ^ (8 * m) : Nat) : Int) := by rw [Int.natCast_pow]; rfl
  rw [h3, h2, ← Int.natCast_ediv, u8_wrap]
theorem be_take_succ : ∀ (n V j : Nat), j < n → (be n V).take (j + 1) = (be n V).take j ++ [UInt8.ofNat (V / 256 ^ (n - 1 - j))]
  | 0, V, j, h => by omega
  | n + 1, V, 0, h => by simp [be]
  | n + 1, V, j + 1, h => by
    have ih := be_take_succ n V j (by omega)
    rw [be, List.take_succ_cons, List.take_succ_cons, ih]
    simp only [List.cons_append, List.cons.injEq, true_and]
    rw [show n + 1 - 1 - (j + 1) = n - 1 - j by omega]
/-- a number's last bytes are appended -/
theorem put_spec (ρ : Hp) (v : Value) (c : List (Nat × Obj)) (l : Bs) (h : AppB v c 5 l) (x m : Nat) (hx : x < 18446744073709551616) (hm : m ≤ 8) (hm0 : 0 < m) (hl : l.length ≤ 1000000) :
    Spec Try.prog 207 [v, .int .u64 x, .int .i64 m] ρ [c] (fun v' ρ' L' => ρ' = ρ ∧ ∃ sp, OwnS v' (l.length + m) ((l ++ be m x).map u8c) sp 1 ∧ L' = [ownC v' ((l ++ be m x).map u8c) sp 5]) := by
  refine spec_enter Try.func207 rfl rfl rfl fun u R => ?_
  simp only [argsE, List.cons_append, List.nil_append]
  repeat' (first | (refine i_op ?_; first | (refine i_qq ?_; refine qQ ?_) | refine qEf ?_) | refine tl_nil ?_ | (refine i_tc ?_; refine qTc ?_) | (refine i_te ?_; refine qTe ?_) | intro _)
  refine tc_loop_g [(1, _), (6, _)] (fun (ζ : (Nat) × (Int) × (Value) × (List (Nat × Obj))) => [(7, .int .i64 ζ.2.1), (0, ζ.2.2.1)]) (fun (ζ : (Nat) × (Int) × (Value) × (List (Nat × Obj))) => ρ) (fun (ζ : (Nat) × (Int) × (Value) × (List (Nat × Obj))) => [ζ.2.2.2]) (fun (ζ : (Nat) × (Int) × (Value) × (List (Nat × Obj))) => ζ.1 ≤ m ∧ ζ.2.1 = (m : Int) - 1 - (ζ.1 : Int) ∧ AppB ζ.2.2.1 ζ.2.2.2 5 (l ++ (be m x).take ζ.1) ∧ (ζ.1 = 0 ∨ ∃ sp, OwnS ζ.2.2.1 (l.length + ζ.1) ((l ++ (be m x).take ζ.1).map u8c) sp 1 ∧ ζ.2.2.2 = ownC ζ.2.2.1 ((l ++ (be m x).take ζ.1).map u8c) sp 5)) (fun (ζ : (Nat) × (Int) × (Value) × (List (Nat × Obj))) => m - ζ.1) ((0, (m : Int) - 1, v, c)) (⟨Nat.zero_le _, by simp, by simpa using h, .inl rfl⟩) ev_le ev_le rfl tk ?_
  rintro ⟨j, i, v1, c1⟩ hI
  try simp only [List.cons_append, List.nil_append, List.append_assoc, List.append_eq] at hI ⊢
  try dsimp only at hI ⊢
  obtain ⟨hj, hi, ha, hor⟩ := hI
  by_cases hlt : j < m
  · have hsh := shr_byteR x (m - 1 - j)
    have hts := be_take_succ m x j hlt
    have hlen : ((be m x).take j).length = j := by simp [be_length]; omega
    subst hi
    have hmin : min (8 * ((m : Int) - 1 - (j : Int))).toNat 64 = 8 * (m - 1 - j) := by omega
    have hmm : l ++ (be m x).take j ++ [UInt8.ofNat (x / 256 ^ (m - 1 - j))] = l ++ (be m x).take (j + 1) := by rw [hts]; simp
    have hll : (l ++ (be m x).take (j + 1)).length = l.length + (j + 1) := by simp [be_length]; omega
    repeat' (first | (refine tl_buildSlice_s rfl rfl rfl rfl (by simp) rfl rfl (fun _ => ?_); simp only [hmin, hsh]) | (refine tl_appB (ys := [UInt8.ofNat (x / 256 ^ (m - 1 - j))]) (m := 1) rfl rfl ha (hR := by infer_instance) SrcV.lit rfl (by simp) (by simp [be_length]; omega) rfl (fun v2 sp2 hown2 => ?_); rw [hmm] at hown2 ⊢) | (refine i_op ?_; first | (refine i_qq ?_; refine qQ ?_) | refine qEf ?_) | refine tl_nil ?_ | (refine i_tc ?_; refine qTc ?_) | (refine i_te ?_; refine qTe ?_) | intro _)
    have ha2 := hown2.appB (T := 5) rfl
    rw [hll] at hown2
    refine te_round_g (j + 1, (m : Int) - 1 - (j : Int) - 1, v2, _) (⟨hlt, by dsimp only; omega, ha2, .inr ⟨sp2, hown2, rfl⟩⟩) ev_le ev_le rfl tk inferInstance (by first | omega | (dsimp only; omega))
  · have hk2 : j = m := by omega
    subst hk2
    obtain ⟨sp, hown, rfl⟩ := hor.resolve_left (by omega)
    rw [List.take_of_length_le (by rw [be_length]; exact Nat.le_refl _)] at *
    repeat' (first | (refine i_op ?_; first | (refine i_qq ?_; refine qQ ?_) | refine qEf ?_) | refine tl_nil ?_ | (refine i_tc ?_; refine qTc ?_) | (refine i_te ?_; refine qTe ?_) | intro _)
    exact qE ⟨rfl, sp, hown, rfl⟩
end Go.Proofs.E

namespace Go.Proofs.E
open Go
set_option linter.unusedVariables false
set_option linter.unusedSimpArgs false
set_option linter.unusedSectionVars false
set_option maxRecDepth 4000
set_option maxHeartbeats 1000000
attribute [local irreducible] Yl TL TC TE Spec YSpec R1 Hp.le EnvLe TS TR YS Stays
theorem numb_spec (ρ : Hp) (a : Option Addr) (n c : Nat) (l : Bs) (h : SIn ρ u8c a n l) (hn : n ≤ 8) :
    Spec Try.prog 210 [.slice a n c] ρ [] (fun v ρ' L' => v = .int .u64 (unbe l : Nat) ∧ ρ' = ρ ∧ L' = []) := by
  have hl := h.len
  refine spec_enter Try.func210 rfl rfl rfl fun u R => ?_
  simp only [argsE, List.cons_append, List.nil_append]
  repeat' (first | (refine i_op ?_; first | (refine i_qq ?_; refine qQ ?_) | refine qEf ?_) | refine tl_nil ?_ | (refine i_tc ?_; refine qTc ?_) | (refine i_te ?_; refine qTe ?_) | intro _)
  refine tc_loop_g [(5, _), (6, _)] (fun (ζ : (Nat) × (Nat)) => [(7, .int .i64 ζ.1), (2, .int .u64 (ζ.2 : Nat))]) (fun (ζ : (Nat) × (Nat)) => ρ) (fun (ζ : (Nat) × (Nat)) => []) (fun (ζ : (Nat) × (Nat)) => ζ.1 ≤ n ∧ ζ.2 = unbe (l.take ζ.1)) (fun (ζ : (Nat) × (Nat)) => n - ζ.1) ((0, 0)) (⟨Nat.zero_le _, rfl⟩) ev_le ev_le rfl tk ?_
  rintro ⟨k, z⟩ hI
  try simp only [List.cons_append, List.nil_append, List.append_assoc, List.append_eq] at hI ⊢
  try dsimp only at hI ⊢
  obtain ⟨hk, hz⟩ := hI
  by_cases hlt : k < n
  · obtain ⟨b, off, C, T, fr, rfl, hb, hc⟩ := h.get (show k < l.length by omega)
    have hzl := unbe_take_lt l k (by omega) (by omega)
    rw [← hz] at hzl
    have hs := take_succ_unbe l k (by omega)
    have hbt : l[k].toNat < 256 := l[k].toNat_lt
    generalize l[k] = b8 at *
    simp only [u8c] at hc
    repeat' (first | (refine i_op ?_; first | (refine i_qq ?_; refine qQ ?_) | refine qEf ?_) | refine tl_nil ?_ | (refine i_tc ?_; refine qTc ?_) | (refine i_te ?_; refine qTe ?_) | intro _)
    have e : (z : Int) * 256 + (b8.toNat : Int) = ((z * 256 + b8.toNat : Nat) : Int) := by omega
    rw [e]
    refine te_round_g (k + 1, z * 256 + b8.toNat) (⟨hlt, by dsimp only; rw [hs, hz]⟩) ev_le ev_le rfl tk inferInstance (by first | omega | (dsimp only; omega))
  · have hk2 : k = n := by omega
    subst hk2
    rw [List.take_of_length_le (by omega)] at hz
    subst hz
    repeat' (first | (refine i_op ?_; first | (refine i_qq ?_; refine qQ ?_) | refine qEf ?_) | refine tl_nil ?_ | (refine i_tc ?_; refine qTc ?_) | (refine i_te ?_; refine qTe ?_) | intro _)
    exact qE ⟨rfl, rfl, rfl⟩
theorem sects_spec (ρ : Hp) (n : Nat) (hn : n ≤ 4611686018427387904) : Spec Try.prog 24 [.int .i64 n] ρ [] (fun v ρ' L' => v = .int .i64 (sects n : Nat) ∧ ρ' = ρ ∧ L' = []) := by
  refine spec_enter Try.func24 rfl rfl rfl fun u R => ?_
  simp only [argsE, List.cons_append, List.nil_append]
  have e : max 1 (IntKind.i64.wrap (((n : Int) + 52 - 1).tdiv 52)) = ((sects n : Nat) : Int) := by
    rw [Int.tdiv_eq_ediv_of_nonneg (by omega), wrap_id (by simp only [lo, hi]; omega)]
    unfold sects; omega
  repeat' (first | (refine i_op ?_; first | (refine i_qq ?_; refine qQ ?_) | refine qEf ?_) | refine tl_nil ?_ | (refine i_tc ?_; refine qTc ?_) | (refine i_te ?_; refine qTe ?_) | intro _)
  rw [e]
  exact qE ⟨rfl, rfl, rfl⟩
theorem sects_neg (ρ : Hp) (n : Int) (hn : n < 0) : Spec Try.prog 24 [.int .i64 n] ρ [] (fun v ρ' L' => v = .int .i64 0 ∧ ρ' = ρ ∧ L' = []) := by
  refine spec_enter Try.func24 rfl rfl rfl fun u R => ?_
  simp only [argsE, List.cons_append, List.nil_append]
  repeat' (first | (refine i_op ?_; first | (refine i_qq ?_; refine qQ ?_) | refine qEf ?_) | refine tl_nil ?_ | (refine i_tc ?_; refine qTc ?_) | (refine i_te ?_; refine qTe ?_) | intro _)
  exact qE ⟨rfl, rfl, rfl⟩
theorem block_spec (ρ : Hp) (v : Value) (n : Nat) (l : Bs) (sp : List Value) (h : OwnS v n (l.map u8c) sp 1) :
    Spec Try.prog 208 [v] ρ [ownC v (l.map u8c) sp 5] (fun v ρ' L' => v = bv (pad l) ∧ ρ' = ρ ∧ L' = []) := by
  obtain ⟨a, cap, rfl, hl⟩ := h.len
  have hl' : l.length = n := by simpa using hl
  refine spec_enter Try.func208 rfl rfl rfl fun u R => ?_
  simp only [argsE, List.cons_append, List.nil_append]
  have hz : (List.replicate 64 (Value.int .u8 0)).length = 64 := by simp
  have hst : stc (List.replicate 64 (Value.int .u8 0)) 0 ((l.map u8c).take 64) = (pad l).map u8c := by
    unfold stc
    rw [← pad_take]
    have hl64 : (l.take 64).length ≤ 64 := by simp; omega
    rw [pad_of hl64]
    simp only [List.take_zero, List.nil_append, List.map_append, List.map_take, Nat.zero_add]
    congr 1
    rw [List.drop_replicate]
    simp only [z8, List.map_replicate, List.length_take, List.length_map]
    rfl
  have hpl : ((pad l).map u8c).length = 64 := by simp [pad_len]
  have h1 := u8c_one (pad l)
  repeat' (first | (refine i_op ?_; first | (refine i_qq ?_; refine qQ ?_) | refine qEf ?_) | refine tl_nil ?_ | (refine i_tc ?_; refine qTc ?_) | (refine i_te ?_; refine qTe ?_) | intro _)
  refine tl_copy (ys := l.map u8c) rfl rfl (SrcV.own (v := .nilIface) h (T := 5) (hR := by infer_instance)) (by simpa using hl) (u8c_one l) (by rw [hz]; omega) rfl ?_
  simp only [hst]
  repeat' (first | (refine i_op ?_; first | (refine i_qq ?_; refine qQ ?_) | refine qEf ?_) | refine tl_nil ?_ | (refine i_tc ?_; refine qTc ?_) | (refine i_te ?_; refine qTe ?_) | intro _)
  exact qE ⟨rfl, rfl, rfl⟩
end Go.Proofs.E

namespace Go.Proofs.E
open Go
set_option linter.unusedVariables false
set_option linter.unusedSimpArgs false
set_option linter.unusedSectionVars false
set_option maxRecDepth 4000
set_option maxHeartbeats 1000000
attribute [local irreducible] Yl TL TC TE Spec YSpec R1 Hp.le EnvLe TS TR YS Stays
theorem put_own (ρ : Hp) {v : Value} {l : Bs} {sp : List Value} (h : OwnS v l.length (l.map u8c) sp 1) (x m : Nat) (hx : x < 18446744073709551616) (hm : m ≤ 8) (hm0 : 0 < m) (hl : l.length ≤ 1000000) :
    Spec Try.prog 207 [v, .int .u64 x, .int .i64 m] ρ [ownC v (l.map u8c) sp 5] (fun v' ρ' L' => ρ' = ρ ∧ ∃ sp, OwnS v' (l ++ be m x).length ((l ++ be m x).map u8c) sp 1 ∧ L' = [ownC v' ((l ++ be m x).map u8c) sp 5]) := by
  have := put_spec ρ v _ l (h.appB rfl) x m hx hm hm0 hl
  rwa [show l.length + m = (l ++ be m x).length by simp [be_length]] at this
theorem put_nil (ρ : Hp) (x m : Nat) (hx : x < 18446744073709551616) (hm : m ≤ 8) (hm0 : 0 < m) :
    Spec Try.prog 207 [.slice none 0 0, .int .u64 x, .int .i64 m] ρ [[]] (fun v' ρ' L' => ρ' = ρ ∧ ∃ sp, OwnS v' (be m x).length ((be m x).map u8c) sp 1 ∧ L' = [ownC v' ((be m x).map u8c) sp 5]) :=
  put_own ρ (l := []) (sp := []) (OwnS.nil 1) x m hx hm hm0 (by simp)
theorem tl_app_own {x : Cx} {Q : Exit → Act → World → Prop} {E : Env} {ρ : Hp} {L L1 : SH} {ops : Array Oper} {rest : List Oper} {ty : TypeId} {pos : String} {af : Array Edge} {d t e m cx : Nat} {s y : Operand} {v : Value} {sp : List Value} {l ys : List UInt8} {a : Option Addr} [hS : TySlice x.P t e] [hZ : TySz x.P e 1] [hB : TyBytes x.P e 1] [hz : TyZero x.P e (.int .u8 0)]
    (hs : ev E s = some v) (hy : ev E y = some (.slice a m cx)) (h : OwnS v l.length (l.map u8c) sp 1) [hR : Rem (ownC v (l.map u8c) sp e) L L1] (hsrc : SrcV x ρ L1 a (ys.map u8c)) (hlen : ys.length = m)
    (hb : l.length + m ≤ 140737488355328) (hd : Nat.blt d x.N = true)
    (k : ∀ v' sp', OwnS v' (l ++ ys).length ((l ++ ys).map u8c) sp' 1 → TL x ops rest Q ((d, v') :: E) ρ (ownC v' ((l ++ ys).map u8c) sp' e :: L1)) :
    TL x ops (⟨some d, .call { callee := .builtin .append, args := #[s, y], argTypes := #[t, t] }, ty, pos, af, none⟩ :: rest) Q E ρ L :=
  tl_app hs hy h hsrc (by simpa using hlen) (u8c_one ys) (by decide) rfl (by omega) (by omega) hd (fun v' sp' ho => by
    rw [← List.map_append] at ho ⊢
    exact k v' sp' (by rw [List.length_append, hlen]; exact ho))
/-- a sector of an entry, of bytes that are own or never turn -/
theorem part_spec (ρ : Hp) (X : SH) (turn n : Nat) (a : Option Addr) (bn c : Nat) (b : Bs) (hb : Rd ρ X a bn b) (hc : bn ≤ c) (k : Nat) (ht : turn < 4294967296) (hn : n ≤ 1099511627776) (hbl : bn ≤ 8000) (hk : k < sects bn) :
    Spec Try.prog 151 [.int .u64 turn, .int .u64 n, .slice a bn c, .int .i64 k] ρ X (fun v ρ' L' => v = bv (partB turn n b k) ∧ ρ' = ρ ∧ L' = X) := by
  have hl := hb.len
  have hkm : 52 * k ≤ bn := by unfold sects at hk; omega
  have hk2 : k < 256 := by unfold sects at hk; omega
  have hkb : Value.int .u8 (IntKind.u8.wrap (k : Int)) = u8c (UInt8.ofNat k) := u8_wrap k
  have hkb' : Value.int .u8 (k : Int) = u8c (UInt8.ofNat k) := by rw [← hkb, wrap_id (by simp only [lo, hi]; omega)]
  have hlo : (52 * (k : Int)).toNat = 52 * k := by omega
  have hhi : (min (52 * (k : Int) + 52) (bn : Int)).toNat - 52 * k = min 52 (bn - 52 * k) := by omega
  have htk : (b.drop (52 * k)).take (min 52 (bn - 52 * k)) = (b.drop (52 * k)).take 52 := by
    by_cases h : 52 ≤ bn - 52 * k
    · rw [Nat.min_eq_left h]
    · rw [Nat.min_eq_right (by omega), List.take_of_length_le (by simp; omega), List.take_of_length_le (by simp; omega)]
  have hfin : ∀ n2, pad (be 4 turn ++ be 5 n ++ be 2 n2 ++ [UInt8.ofNat k] ++ (b.drop (52 * k)).take (min 52 (bn - 52 * k))) = pad (be 4 turn ++ (be 5 n ++ (be 2 n2 ++ (UInt8.ofNat k :: (b.drop (52 * k)).take 52)))) := fun n2 => by rw [htk]; simp
  have hfin2 : pad (be 4 turn ++ be 5 n ++ be 2 bn ++ [UInt8.ofNat k] ++ (b.drop (52 * k)).take (min 52 (bn - 52 * k))) = partB turn n b k := by rw [hfin, ← hl]; rfl
  have hpl : ((partB turn n b k).map u8c).length = 64 := by simp [partB_len]
  have hp1 := u8c_one (partB turn n b k)
  refine spec_enter Try.func151 rfl rfl rfl fun u R => ?_
  simp only [argsE, List.cons_append, List.nil_append]
  repeat' (first | (refine tl_is (.func 207) ?_; refine qC rfl rfl (put_nil _ turn 4 (by omega) (by omega) (by omega)) ?_; rintro v1 ρ' L' hle ⟨rfl, sp1, hown1, rfl⟩; simp only [List.cons_append, List.nil_append]) | (refine i_op ?_; first | (refine i_qq ?_; refine qQ ?_) | refine qEf ?_) | refine tl_nil ?_ | (refine i_tc ?_; refine qTc ?_) | (refine i_te ?_; refine qTe ?_) | intro _)
  repeat' (first | (refine tl_is (.func 207) ?_; refine qC rfl rfl (put_own _ hown1 n 5 (by omega) (by omega) (by omega) (by simp [be_length])) ?_; rintro v2 ρ2 L2 hle2 ⟨rfl, sp2, hown2, rfl⟩; simp only [List.cons_append, List.nil_append]) | (refine i_op ?_; first | (refine i_qq ?_; refine qQ ?_) | refine qEf ?_) | refine tl_nil ?_ | (refine i_tc ?_; refine qTc ?_) | (refine i_te ?_; refine qTe ?_) | intro _)
  repeat' (first | (refine tl_is (.func 207) ?_; refine qC rfl rfl (put_own _ hown2 bn 2 (by omega) (by omega) (by omega) (by simp [be_length])) ?_; rintro v3 ρ3 L3 hle3 ⟨rfl, sp3, hown3, rfl⟩; simp only [List.cons_append, List.nil_append]) | (refine i_op ?_; first | (refine i_qq ?_; refine qQ ?_) | refine qEf ?_) | refine tl_nil ?_ | (refine i_tc ?_; refine qTc ?_) | (refine i_te ?_; refine qTe ?_) | intro _)
  refine tc_any (Stays _ _ ([])) (stays_of (Hp.le_refl _)) ?_
  all_goals refine rMv 0 ?_
  all_goals refine rMv 1 ?_
  all_goals refine rCv 2 ?_
  all_goals refine rMv 5 ?_
  all_goals refine rMv 6 ?_
  all_goals refine rMv 7 ?_
  all_goals refine rAd 8 ?_
  all_goals refine rMv 9 ?_
  all_goals refine rBi 10 ?_
  all_goals refine rBi 11 ?_
  all_goals refine rSl 12 ?_
  all_goals (refine rStep (i := 3) ?_; ((try refine qWant ?_); (first | (refine tl_buildSlice_s rfl rfl rfl rfl (by simp) rfl rfl (fun _ => ?_); simp only [hkb']) | (refine qEf ?_; try intro _)) <;> ((try simp only [List.cons_append, List.nil_append, List.append_eq]); refine tl_nil ?_; refine rNext ?_)))
  all_goals (refine rStep (i := 4) ?_; ((try refine qWant ?_); (first | (refine tl_app_own (ys := [UInt8.ofNat k]) (m := 1) rfl rfl hown3 (hR := by infer_instance) SrcV.lit rfl (by simp [be_length]) rfl (fun v4 sp4 hown4 => ?_)) | (simp only [hlo, hhi]; refine tl_app_own (ys := (b.drop (52 * k)).take (min 52 (bn - 52 * k))) rfl rfl hown4 (hR := by infer_instance) (by rw [List.map_take, List.map_drop]; exact SrcV.sub (hb.src _ _ _ _ (Hp.le_refl _) tk) (by simp; omega) (by simpa [hl] using hc)) (by simp; omega) (by simp [be_length]; omega) rfl (fun v5 sp5 hown5 => ?_)) | (refine tl_is (.func 208) ?_; refine qC rfl rfl (block_spec _ _ _ _ _ hown5) ?_; rintro v6 ρ6 L6 hle6 ⟨rfl, rfl, rfl⟩; simp only [List.cons_append, List.nil_append, hfin2]) | (refine qEf ?_; try intro _)) <;> ((try simp only [List.cons_append, List.nil_append, List.append_eq]); refine tl_nil ?_; refine rNext ?_)))
  all_goals (refine rStep (i := 13) ?_; ((try refine qWant ?_); (first | (refine tl_app_own (ys := [UInt8.ofNat k]) (m := 1) rfl rfl hown3 (hR := by infer_instance) SrcV.lit rfl (by simp [be_length]) rfl (fun v4 sp4 hown4 => ?_)) | (simp only [hlo, hhi]; refine tl_app_own (ys := (b.drop (52 * k)).take (min 52 (bn - 52 * k))) rfl rfl hown4 (hR := by infer_instance) (by rw [List.map_take, List.map_drop]; exact SrcV.sub (hb.src _ _ _ _ (Hp.le_refl _) tk) (by simp; omega) (by simpa [hl] using hc)) (by simp; omega) (by simp [be_length]; omega) rfl (fun v5 sp5 hown5 => ?_)) | (refine tl_is (.func 208) ?_; refine qC rfl rfl (block_spec _ _ _ _ _ hown5) ?_; rintro v6 ρ6 L6 hle6 ⟨rfl, rfl, rfl⟩; simp only [List.cons_append, List.nil_append, hfin2]) | (refine qEf ?_; try intro _)) <;> ((try simp only [List.cons_append, List.nil_append, List.append_eq]); refine tl_nil ?_; refine rNext ?_)))
  all_goals (refine rStep (i := 14) ?_; ((try refine qWant ?_); (first | (refine tl_is (.func 208) ?_; refine qC rfl rfl (block_spec _ _ _ _ _ hown5) ?_; rintro v6 ρ6 L6 hle6 ⟨rfl, rfl, rfl⟩; simp only [List.cons_append, List.nil_append, hfin2]) | (refine qEf ?_; try intro _)) <;> ((try simp only [List.cons_append, List.nil_append, List.append_eq]); refine tl_nil ?_; refine rNext ?_)))
  all_goals (refine rStep (i := 15) ?_; ((try refine qWant ?_); (first | (refine qEf ?_; try intro _)) <;> ((try simp only [List.cons_append, List.nil_append, List.append_eq]); refine tl_nil ?_; refine rNext ?_)))
  all_goals refine rDone ?_
  all_goals (repeat' (first | (refine i_op ?_; first | (refine i_qq ?_; refine qQ ?_) | refine qEf ?_) | refine tl_nil ?_ | (refine i_tc ?_; refine qTc ?_) | (refine i_te ?_; refine qTe ?_) | intro _))
  all_goals exact qE ⟨rfl, rfl, rfl⟩
end Go.Proofs.E

namespace Go.Proofs.E
open Go
set_option linter.unusedVariables false
set_option linter.unusedSimpArgs false
set_option linter.unusedSectionVars false
set_option maxRecDepth 4000
set_option maxHeartbeats 1000000
attribute [local irreducible] Yl TL TC TE Spec YSpec R1 Hp.le EnvLe TS TR YS Stays
abbrev hdV (h : Hd) (na : Option Addr) (nn nc : Nat) : List Value := [.int .u64 h.turn, .int .u64 h.first, .int .i64 h.size, .int .i64 h.place, .slice na nn nc]
theorem letB_v : [Value.int .u8 98, .int .u8 117, .int .u8 114, .int .u8 115, .int .u8 114, .int .u8 105, .int .u8 110, .int .u8 103] = letB.map u8c := rfl
theorem hblock_spec (ρ : Hp) (h : Hd) (na : Option Addr) (nn nc : Nat) (hn : SIn ρ u8c na nn h.note) (ht : h.turn < 4294967296) (hf : h.first ≤ 1099511627776) (hs : h.size < 65536) (hp : h.place < 65536) (hnl : nn ≤ 32) :
    Spec Try.prog 153 [.agg ⟨hdV h na nn nc⟩] ρ [] (fun v ρ' L' => v = bv (headB h) ∧ ρ' = ρ ∧ L' = []) := by
  have hl := hn.len
  have hkb : Value.int .u8 (nn : Int) = u8c (UInt8.ofNat nn) := by rw [← u8_wrap nn, wrap_id (by simp only [lo, hi]; omega)]
  have hpl : ((headB h).map u8c).length = 64 := by simp [headB_len]
  have hp1 := u8c_one (headB h)
  have hfin : pad (letB ++ be 4 h.turn ++ be 2 h.size ++ be 5 h.first ++ be 2 h.place ++ [UInt8.ofNat nn] ++ h.note) = headB h := by unfold headB; rw [hl]; simp
  refine spec_enter Try.func153 rfl rfl rfl fun u R => ?_
  simp only [argsE, List.cons_append, List.nil_append]
  repeat' (first | (refine tl_buildSlice_s rfl rfl rfl rfl (by simp) rfl rfl (fun _ => ?_)) | (refine i_op ?_; first | (refine i_qq ?_; refine qQ ?_) | refine qEf ?_) | refine tl_nil ?_ | (refine i_tc ?_; refine qTc ?_) | (refine i_te ?_; refine qTe ?_) | intro _)
  rename_i b1 b2 b3
  repeat' (first | (refine tl_is (.func 207) ?_; refine qC (Lf := [[(b3, .cells ⟨letB.map u8c⟩ 5 (8, 9))]]) rfl rfl (put_spec _ _ _ letB (.inr ⟨b3, (8, 9), rfl, by simp [letB], rfl⟩) h.turn 4 (by omega) (by omega) (by omega) (by simp [letB])) ?_; rintro v1 ρ' L' hle ⟨rfl, sp1, hown1, rfl⟩; simp only [List.cons_append, List.nil_append]) | (refine i_op ?_; first | (refine i_qq ?_; refine qQ ?_) | refine qEf ?_) | refine tl_nil ?_ | (refine i_tc ?_; refine qTc ?_) | (refine i_te ?_; refine qTe ?_) | intro _)
  replace hown1 : OwnS v1 (letB ++ be 4 h.turn).length ((letB ++ be 4 h.turn).map u8c) sp1 1 := by rw [List.length_append, be_length]; exact hown1
  refine tc_any (Stays _ _ ([[(b1, .cells ⟨hdV h na nn nc⟩ 144 (0, 0))]])) (stays_of (Hp.le_refl _)) ?_
  all_goals refine rMv 0 ?_
  all_goals refine rFa 1 ?_
  all_goals refine rLd 2 ?_
  all_goals refine rCv 3 ?_
  all_goals refine rFa 5 ?_
  all_goals refine rLd 6 ?_
  all_goals refine rFa 8 ?_
  all_goals refine rLd 9 ?_
  all_goals refine rCv 10 ?_
  all_goals (refine rStep (i := 4) ?_; ((try refine qWant ?_); (first | (refine tl_is (.func 207) ?_; refine qC rfl rfl (put_own _ hown1 h.size 2 (by omega) (by omega) (by omega) (by simp [be_length, letB])) ?_; rintro v2 ρ2 L2 hle2 ⟨rfl, sp2, hown2, rfl⟩; simp only [List.cons_append, List.nil_append]) | (refine tl_is (.func 207) ?_; refine qC rfl rfl (put_own _ hown2 h.first 5 (by omega) (by omega) (by omega) (by simp [be_length, letB])) ?_; rintro v3 ρ3 L3 hle3 ⟨rfl, sp3, hown3, rfl⟩; simp only [List.cons_append, List.nil_append]) | (refine tl_is (.func 207) ?_; refine qC rfl rfl (put_own _ hown3 h.place 2 (by omega) (by omega) (by omega) (by simp [be_length, letB])) ?_; rintro v4 ρ4 L4 hle4 ⟨rfl, sp4, hown4, rfl⟩; simp only [List.cons_append, List.nil_append]) | (refine qEf ?_; try intro _)) <;> ((try simp only [List.cons_append, List.nil_append, List.append_eq]); refine tl_nil ?_; refine rNext ?_)))
  all_goals (refine rStep (i := 7) ?_; ((try refine qWant ?_); (first | (refine tl_is (.func 207) ?_; refine qC rfl rfl (put_own _ hown1 h.size 2 (by omega) (by omega) (by omega) (by simp [be_length, letB])) ?_; rintro v2 ρ2 L2 hle2 ⟨rfl, sp2, hown2, rfl⟩; simp only [List.cons_append, List.nil_append]) | (refine tl_is (.func 207) ?_; refine qC rfl rfl (put_own _ hown2 h.first 5 (by omega) (by omega) (by omega) (by simp [be_length, letB])) ?_; rintro v3 ρ3 L3 hle3 ⟨rfl, sp3, hown3, rfl⟩; simp only [List.cons_append, List.nil_append]) | (refine tl_is (.func 207) ?_; refine qC rfl rfl (put_own _ hown3 h.place 2 (by omega) (by omega) (by omega) (by simp [be_length, letB])) ?_; rintro v4 ρ4 L4 hle4 ⟨rfl, sp4, hown4, rfl⟩; simp only [List.cons_append, List.nil_append]) | (refine qEf ?_; try intro _)) <;> ((try simp only [List.cons_append, List.nil_append, List.append_eq]); refine tl_nil ?_; refine rNext ?_)))
  all_goals (refine rStep (i := 11) ?_; ((try refine qWant ?_); (first | (refine tl_is (.func 207) ?_; refine qC rfl rfl (put_own _ hown1 h.size 2 (by omega) (by omega) (by omega) (by simp [be_length, letB])) ?_; rintro v2 ρ2 L2 hle2 ⟨rfl, sp2, hown2, rfl⟩; simp only [List.cons_append, List.nil_append]) | (refine tl_is (.func 207) ?_; refine qC rfl rfl (put_own _ hown2 h.first 5 (by omega) (by omega) (by omega) (by simp [be_length, letB])) ?_; rintro v3 ρ3 L3 hle3 ⟨rfl, sp3, hown3, rfl⟩; simp only [List.cons_append, List.nil_append]) | (refine tl_is (.func 207) ?_; refine qC rfl rfl (put_own _ hown3 h.place 2 (by omega) (by omega) (by omega) (by simp [be_length, letB])) ?_; rintro v4 ρ4 L4 hle4 ⟨rfl, sp4, hown4, rfl⟩; simp only [List.cons_append, List.nil_append]) | (refine qEf ?_; try intro _)) <;> ((try simp only [List.cons_append, List.nil_append, List.append_eq]); refine tl_nil ?_; refine rNext ?_)))
  all_goals refine rFull ?_
  all_goals refine rAs 12 ?_
  all_goals refine rDone ?_
  all_goals (repeat' (first | (refine i_op ?_; first | (refine i_qq ?_; refine qQ ?_) | refine qEf ?_) | refine tl_nil ?_ | (refine i_tc ?_; refine qTc ?_) | (refine i_te ?_; refine qTe ?_) | intro _))
  refine tc_any (Stays _ _ ([[(b1, .cells ⟨hdV h na nn nc⟩ 144 (0, 0))]])) (stays_of (Hp.le_refl _)) ?_
  all_goals refine rMv 0 ?_
  all_goals refine rFa 1 ?_
  all_goals refine rLd 2 ?_
  all_goals refine rBi 3 ?_
  all_goals refine rCv 4 ?_
  all_goals refine rFa 7 ?_
  all_goals refine rLd 8 ?_
  all_goals (refine rStep (i := 5) ?_; ((try refine qWant ?_); (first | (refine tl_buildSlice_s rfl rfl rfl rfl (by simp) rfl rfl (fun _ => ?_); simp only [hkb]) | (refine qEf ?_; try intro _)) <;> ((try simp only [List.cons_append, List.nil_append, List.append_eq]); refine tl_nil ?_; refine rNext ?_)))
  all_goals (refine rStep (i := 6) ?_; ((try refine qWant ?_); (first | (refine tl_app_own (ys := [UInt8.ofNat nn]) (m := 1) rfl rfl hown4 (hR := by infer_instance) SrcV.lit rfl (by simp [be_length, letB]) rfl (fun v5 sp5 hown5 => ?_)) | (refine tl_app_own (ys := h.note) rfl rfl hown5 (hR := by infer_instance) (SIn.srcV (by assumption)) hl (by simp [be_length, letB]; omega) rfl (fun v6 sp6 hown6 => ?_)) | (refine tl_is (.func 208) ?_; refine qC rfl rfl (block_spec _ _ _ _ _ hown6) ?_; rintro v7 ρ7 L7 hle7 ⟨rfl, rfl, rfl⟩; simp only [List.cons_append, List.nil_append, hfin]) | (refine qEf ?_; try intro _)) <;> ((try simp only [List.cons_append, List.nil_append, List.append_eq]); refine tl_nil ?_; refine rNext ?_)))
  all_goals (refine rStep (i := 9) ?_; ((try refine qWant ?_); (first | (refine tl_app_own (ys := [UInt8.ofNat nn]) (m := 1) rfl rfl hown4 (hR := by infer_instance) SrcV.lit rfl (by simp [be_length, letB]) rfl (fun v5 sp5 hown5 => ?_)) | (refine tl_app_own (ys := h.note) rfl rfl hown5 (hR := by infer_instance) (SIn.srcV (by assumption)) hl (by simp [be_length, letB]; omega) rfl (fun v6 sp6 hown6 => ?_)) | (refine tl_is (.func 208) ?_; refine qC rfl rfl (block_spec _ _ _ _ _ hown6) ?_; rintro v7 ρ7 L7 hle7 ⟨rfl, rfl, rfl⟩; simp only [List.cons_append, List.nil_append, hfin]) | (refine qEf ?_; try intro _)) <;> ((try simp only [List.cons_append, List.nil_append, List.append_eq]); refine tl_nil ?_; refine rNext ?_)))
  all_goals (refine rStep (i := 10) ?_; ((try refine qWant ?_); (first | (refine tl_is (.func 208) ?_; refine qC rfl rfl (block_spec _ _ _ _ _ hown6) ?_; rintro v7 ρ7 L7 hle7 ⟨rfl, rfl, rfl⟩; simp only [List.cons_append, List.nil_append, hfin]) | (refine qEf ?_; try intro _)) <;> ((try simp only [List.cons_append, List.nil_append, List.append_eq]); refine tl_nil ?_; refine rNext ?_)))
  all_goals (refine rStep (i := 11) ?_; ((try refine qWant ?_); (first | (refine qEf ?_; try intro _)) <;> ((try simp only [List.cons_append, List.nil_append, List.append_eq]); refine tl_nil ?_; refine rNext ?_)))
  all_goals refine rDone ?_
  all_goals (repeat' (first | (refine i_op ?_; first | (refine i_qq ?_; refine qQ ?_) | refine qEf ?_) | refine tl_nil ?_ | (refine i_tc ?_; refine qTc ?_) | (refine i_te ?_; refine qTe ?_) | intro _))
  all_goals exact qE ⟨rfl, rfl, rfl⟩
end Go.Proofs.E

namespace Go.Proofs.E
open Go
set_option linter.unusedVariables false
set_option linter.unusedSimpArgs false
set_option linter.unusedSectionVars false
set_option maxRecDepth 4000
set_option maxHeartbeats 1000000
attribute [local irreducible] Yl TL TC TE Spec YSpec R1 Hp.le EnvLe TS TR YS Stays
abbrev pencV (p : Nat × Blk) : List Value := [.int .i64 p.1, bv p.2]
theorem take_succ_pre {α : Type} (l : List α) (k : Nat) (h : k < l.length) : l.take k ++ [l[k]] <+: l := by
  rw [← List.take_succ_eq_append_getElem h]; exact List.take_prefix _ _
theorem partsL_at {h : Hd} {n at' : Nat} {b : Bs} {k : Nat} (hk : k < (partsL h n b at').length) : (partsL h n b at')[k] = (2 + (at' + k) % h.size, partB h.turn n b k) := by
  simp [partsL]
theorem partsL_length {h : Hd} {n at' : Nat} {b : Bs} : (partsL h n b at').length = sects b.length := by simp [partsL]
abbrev partsS (bb ab hb nb : Nat) (a : Option Addr) (bn c at' : Nat) (h : Hd) (na : Option Addr) (nn nc n : Nat) : SH :=
  [[(bb, .cells ⟨[.slice a bn c]⟩ 22 (0, 0))], [(ab, .cells ⟨[.int .i64 at']⟩ 3 (0, 0))], [(hb, .cells ⟨hdV h na nn nc⟩ 144 (0, 0))], [(nb, .cells ⟨[.int .u64 n]⟩ 53 (0, 0))]]
theorem parts_iter (ρ0 : Hp) (X : SH) (bb ab hb nb : Nat) (a : Option Addr) (bn c at' : Nat) (b : Bs) (h : Hd) (na : Option Addr) (nn nc n : Nat) (hb0 : Rd ρ0 X a bn b) (hc : bn ≤ c) (ht : h.turn < 4294967296) (hn : n ≤ 1099511627776) (hbl : bn ≤ 8000) (hat : at' ≤ 1000000) (hsz : 0 < h.size) (hsz2 : h.size ≤ 1000000) :
    Iter Try.prog 150 [] [.pointer (some ⟨bb, 0, none⟩), .pointer (some ⟨ab, 0, none⟩), .pointer (some ⟨hb, 0, none⟩), .pointer (some ⟨nb, 0, none⟩)] pencV ρ0 (partsS bb ab hb nb a bn c at' h na nn nc n ++ X) (partsL h n b at') := by
  intro l J Jx hY ρ Lj hl0 hJ
  have hl := hb0.len
  have hsc := sects_le (n := bn) (by omega)
  have hpl : (partsL h n b at').length = sects bn := by rw [partsL_length, hl]
  refine spec_enter Try.func150 rfl rfl rfl fun u R => ?_
  simp only [argsE, List.cons_append, List.nil_append, List.append_assoc]
  repeat' (first | (refine tl_is (.func 24) ?_; refine qC rfl rfl (sects_spec _ bn (by omega)) ?_; rintro v ρ' L' hle ⟨rfl, rfl, rfl⟩ <;> (try simp only [List.cons_append, List.nil_append, List.append_eq])) | (refine i_op ?_; first | (refine i_qq ?_; refine qQ ?_) | refine qEf ?_) | refine tl_nil ?_ | (refine i_tc ?_; refine qTc ?_) | (refine i_te ?_; refine qTe ?_) | intro _)
  refine tc_loop_g [(0, _), (1, _), (2, _), (3, _), (4, _), (9, _)] (fun (ζ : (Nat) × (Hp) × (SH)) => [(10, .int .i64 ζ.1)]) (fun (ζ : (Nat) × (Hp) × (SH)) => ζ.2.1) (fun (ζ : (Nat) × (Hp) × (SH)) => partsS bb ab hb nb a bn c at' h na nn nc n ++ (X ++ ζ.2.2)) (fun (ζ : (Nat) × (Hp) × (SH)) => ζ.1 ≤ sects bn ∧ ρ'.le ζ.2.1 ∧ J ((partsL h n b at').take ζ.1) ζ.2.1 ζ.2.2) (fun (ζ : (Nat) × (Hp) × (SH)) => sects bn - ζ.1) ((0, ρ', Lj)) (⟨Nat.zero_le _, Hp.le_refl _, hJ⟩) ev_le ev_le rfl tk ?_
  rintro ⟨k, ρ1, L1⟩ hI
  try simp only [List.cons_append, List.nil_append, List.append_assoc, List.append_eq] at hI ⊢
  try dsimp only at hI ⊢
  obtain ⟨hk, hle1, hj⟩ := hI
  by_cases hlt : k < sects bn
  · have hk2 : k < (partsL h n b at').length := by omega
    have hpre := take_succ_pre (partsL h n b at') k hk2
    rw [partsL_at] at hpre
    have hts := List.take_succ_eq_append_getElem hk2
    rw [partsL_at] at hts
    have hy := hY _ _ ρ1 L1 hpre (Hp.le_trans hl0 hle1) hj
    have hrm : (2 : Int) + ((at' : Int) + (k : Int)).tmod (h.size : Int) = ((2 + (at' + k) % h.size : Nat) : Int) := by
      rw [Int.tmod_eq_emod_of_nonneg (by omega), Int.natCast_add, Int.natCast_emod, Int.natCast_add]; rfl
    have hrm1 : ((at' : Int) + (k : Int)).tmod (h.size : Int) < h.size := Int.tmod_lt_of_pos _ (by omega)
    have hrm0 : 0 ≤ ((at' : Int) + (k : Int)).tmod (h.size : Int) := Int.tmod_nonneg _ (by omega)
    repeat' (first | (refine i_op ?_; first | (refine i_qq ?_; refine qQ ?_) | refine qEf ?_) | refine tl_nil ?_ | (refine i_tc ?_; refine qTc ?_) | (refine i_te ?_; refine qTe ?_) | intro _)
    refine tc_any (Stays _ _ (partsS bb ab hb nb a bn c at' h na nn nc n)) (stays_of (Hp.le_refl _)) ?_
    all_goals refine rMv 0 ?_
    all_goals refine rLd 1 ?_
    all_goals refine rMv 2 ?_
    all_goals refine rAd 3 ?_
    all_goals refine rFa 4 ?_
    all_goals refine rLd 5 ?_
    all_goals refine rRm 6 ?_
    all_goals refine rAd 7 ?_
    all_goals refine rFa 8 ?_
    all_goals refine rLd 9 ?_
    all_goals refine rLd 10 ?_
    all_goals refine rLd 11 ?_
    all_goals refine rMv 12 ?_
    all_goals (refine rStep (i := 13) ?_; ((try refine qWant ?_); (first | (refine tl_is (.func 151) ?_; refine qC rfl rfl (part_spec _ X h.turn n a bn c b (hb0.mono (Hp.le_trans hl0 hle1)) hc k ht hn hbl hlt) ?_; rintro v6 ρ6 L6 hle6 ⟨rfl, rfl, rfl⟩; simp only [List.cons_append, List.nil_append, hrm]) | (refine qEf ?_; try intro _)) <;> ((try simp only [List.cons_append, List.nil_append, List.append_eq]); refine tl_nil ?_; refine rNext ?_)))
    all_goals (refine rStep (i := 14) ?_; ((try refine qWant ?_); (first | (refine tl_is (.tmp 13) ?_; refine qY rfl rfl (hy) ?_; rintro v ρ' L' hle ⟨Lj', rfl, ⟨rfl, hj'⟩ | ⟨rfl, hj'⟩⟩ <;> (try simp only [List.cons_append, List.nil_append, List.append_eq, partsS, List.append_assoc])) | (refine qEf ?_; try intro _)) <;> ((try simp only [List.cons_append, List.nil_append, List.append_eq]); refine tl_nil ?_; refine rNext ?_)))
    all_goals refine rFull ?_
    all_goals refine rUn 15 ?_
    all_goals refine rDone ?_
    · repeat' (first | (refine i_op ?_; first | (refine i_qq ?_; refine qQ ?_) | refine qEf ?_) | refine tl_nil ?_ | (refine i_tc ?_; refine qTc ?_) | (refine i_te ?_; refine qTe ?_) | intro _)
      refine te_round_g (k + 1, ρ', Lj') (⟨hlt, Hp.le_trans hle1 hle, by dsimp only; rw [hts]; exact hj'⟩) ev_le ev_le rfl tk inferInstance (by first | omega | (dsimp only; omega))
    · repeat' (first | (refine i_op ?_; first | (refine i_qq ?_; refine qQ ?_) | refine qEf ?_) | refine tl_nil ?_ | (refine i_tc ?_; refine qTc ?_) | (refine i_te ?_; refine qTe ?_) | intro _)
      exact qE (L' := partsS bb ab hb nb a bn c at' h na nn nc n ++ L6 ++ Lj') ⟨Lj', rfl, .inr hj'⟩
  · have hk2 : k = sects bn := by omega
    subst hk2
    rw [List.take_of_length_le (by omega)] at hj
    repeat' (first | (refine i_op ?_; first | (refine i_qq ?_; refine qQ ?_) | refine qEf ?_) | refine tl_nil ?_ | (refine i_tc ?_; refine qTc ?_) | (refine i_te ?_; refine qTe ?_) | intro _)
    exact qE (L' := partsS bb ab hb nb a bn c at' h na nn nc n ++ X ++ L1) ⟨L1, rfl, .inl hj⟩
end Go.Proofs.E

namespace Go.Proofs.E
open Go
set_option linter.unusedVariables false
set_option linter.unusedSimpArgs false
set_option linter.unusedSectionVars false
set_option maxRecDepth 4000
set_option maxHeartbeats 1000000
attribute [local irreducible] Yl TL TC TE Spec YSpec R1 Hp.le EnvLe TS TR YS Stays
theorem kwrite (ρ : Hp) (b : Nat) (k : DK) (D : DS) (i : Int) (blk : Blk) (h64 : blk.length = 64) (h : DOk k D) :
    Spec Try.prog 148 [.pointer (some ⟨b, 0, none⟩), .int .i64 i, bv blk] ρ (diskK b k D) (fun v ρ' L' => v = .int .i64 (D.write i blk).2 ∧ ρ' = ρ ∧ ∃ k', DOk k' (D.write i blk).1 ∧ L' = diskK b k' (D.write i blk).1) :=
  (dwrite_spec ρ b k.hb k.mb k.es k.ck D i blk h64 h.ok h.map).mono (fun v ρ' L' _ ⟨h1, h2, es', ck', h3, h4⟩ => ⟨h1, h2, ⟨k.hb, k.mb, es', ck'⟩, ⟨h.ok.write h64, h3⟩, h4⟩)
theorem ksync (ρ : Hp) (b : Nat) (k : DK) (D : DS) (h : DOk k D) :
    Spec Try.prog 149 [.pointer (some ⟨b, 0, none⟩)] ρ (diskK b k D) (fun v ρ' L' => v = .int .i64 D.sync.2 ∧ ρ.le ρ' ∧ ∃ k', DOk k' D.sync.1 ∧ L' = diskK b k' D.sync.1) :=
  (dsync_spec ρ b k.hb k.mb k.es k.ck D h.ok h.map).mono (fun v ρ' L' _ ⟨h1, h2, mb', es', ck', h3, h4⟩ => ⟨h1, h2, ⟨k.hb, mb', es', ck'⟩, ⟨h.ok.sync, h3⟩, h4⟩)
theorem kread (ρ : Hp) (b : Nat) (k : DK) (D : DS) (i : Int) (h : DOk k D) :
    Spec Try.prog 54 [.pointer (some ⟨b, 0, none⟩), .int .i64 i] ρ (diskK b k D) (fun v ρ' L' => v = .tuple ⟨[bv (D.read i).2.1, .int .i64 (D.read i).2.2]⟩ ∧ ρ' = ρ ∧ DOk k (D.read i).1 ∧ L' = diskK b k (D.read i).1) :=
  (dread_spec ρ b k.hb k.mb k.es k.ck D i h.ok h.map).mono (fun v ρ' L' _ ⟨h1, h2, h4⟩ => ⟨h1, h2, ⟨h.ok.read, h.map.read⟩, h4⟩)
/-- writes that all were done -/
inductive Wr (D : DS) : List (Nat × Blk) → DS → Prop
  | nil : Wr D [] D
  | snoc {l : List (Nat × Blk)} {D1 : DS} {p : Nat × Blk} : Wr D l D1 → (D1.write (p.1 : Int) p.2).2 = 0 → Wr D (l ++ [p]) (D1.write (p.1 : Int) p.2).1
theorem Wr.lays {D D1 : DS} {l : List (Nat × Blk)} (h : Wr D l D1) : ∀ r, DS.lays (l ++ r) D = DS.lays r D1 := by
  induction h with
  | nil => intro r; rfl
  | snoc h1 h2 ih =>
    intro r
    rw [List.append_assoc, ih]
    simp only [List.cons_append, List.nil_append]
    rw [DS.lays, if_pos h2]
theorem Wr.stop {D D1 : DS} {l xs : List (Nat × Blk)} {p : Nat × Blk} (h : Wr D l D1) (hp : l ++ [p] <+: xs) (hc : (D1.write (p.1 : Int) p.2).2 ≠ 0) : DS.lays xs D = D1.write (p.1 : Int) p.2 := by
  obtain ⟨t, rfl⟩ := hp
  rw [List.append_assoc, h.lays]
  simp only [List.cons_append, List.nil_append]
  rw [DS.lays, if_neg hc]
theorem lays_spec (ρ0 ρ : Hp) (g : Nat) (cs : List Value) (S : SH) (xs : List (Nat × Blk)) (hl0 : ρ0.le ρ) (hI : Iter Try.prog g [] cs pencV ρ0 S xs) [hF : Fun Try.prog g] (h64 : ∀ p ∈ xs, p.2.length = 64) (b : Nat) (k : DK) (D : DS) (hD : DOk k D) :
    Spec Try.prog 80 [.pointer (some ⟨b, 0, none⟩), .func (.func g) ⟨[]⟩ ⟨cs⟩] ρ (S ++ diskK b k D) (fun v ρ' L' => v = .int .i64 (DS.lays xs D).2 ∧ ρ.le ρ' ∧ ∃ k', DOk k' (DS.lays xs D).1 ∧ L' = S ++ diskK b k' (DS.lays xs D).1) := by
  refine spec_enter Try.func80 rfl rfl rfl fun u R => ?_
  simp only [argsE, List.cons_append, List.nil_append, List.append_assoc]
  repeat' (first | (refine i_op ?_; first | (refine i_qq ?_; refine qQ ?_) | refine qEf ?_) | refine tl_nil ?_ | (refine i_tc ?_; refine qTc ?_) | (refine i_te ?_; refine qTe ?_) | intro _)
  rename_i b2 b4
  refine tc_rangeFunc (S := S) (L0 := [[(b2, .cells ⟨[.pointer (some ⟨b, 0, none⟩)]⟩ 45 (0, 0))], [(b4, .cells ⟨[.int .i64 0]⟩ 29 (0, 0))]] ++ diskK b k D) (R := R) (R0 := [(b4, .cells ⟨[.int .i64 0]⟩ 29 (0, 0))] :: [(b2, .cells ⟨[.pointer (some ⟨b, 0, none⟩)]⟩ 45 (0, 0))] :: (diskK b k D ++ R)) rfl rfl hI hl0 (fun _ => rfl) rfl
    (fun pre ρ1 Lu => ∃ D1 k1, ρ.le ρ1 ∧ Wr D pre D1 ∧ DOk k1 D1 ∧ Lu = [[(b2, .cells ⟨[.pointer (some ⟨b, 0, none⟩)]⟩ 45 (0, 0))], [(b4, .cells ⟨[.int .i64 0]⟩ 29 (0, 0))]] ++ diskK b k1 D1)
    (fun c ρ1 Lu => c = .exit 0 ∧ ∃ D2 k2 e, ρ.le ρ1 ∧ e ≠ 0 ∧ DS.lays xs D = (D2, e) ∧ DOk k2 D2 ∧ Lu = [[(b2, .cells ⟨[.pointer (some ⟨b, 0, none⟩)]⟩ 45 (0, 0))], [(b4, .cells ⟨[.int .i64 e]⟩ 29 (0, 0))]] ++ diskK b k2 D2) ?k1 ?k2 ⟨D, k, Hp.le_refl _, .nil, hD, rfl⟩ ?round ?done ?stop
  case k1 => exact tk
  case k2 => exact tk
  case round =>
    rintro l tm r pre y ρ1 Lu u R' hpre hl1 ⟨D1, k1, hl2, hwr, hD1, rfl⟩ hr hrec
    simp only [envP, List.cons_append, List.nil_append]
    have hm64 := h64 y (hpre.subset (by simp))
    have hy1 := u8c_one y.2
    have hyl : (y.2.map u8c).length = 64 := by simpa using hm64
    repeat' (first | (refine i_op ?_; first | (refine i_qq ?_; refine qQ ?_) | refine qEf ?_) | refine tl_nil ?_ | (refine i_tc ?_; refine qTc ?_) | (refine i_te ?_; refine qTe ?_) | intro _)
    refine te_front [(l, .loop r)] ?_
    refine te_begin rfl hr (fun r' hbz hrec' => ?_)
    repeat' (first | (refine tl_is (.func 148) ?_; refine qC rfl rfl (kwrite _ b k1 D1 y.1 y.2 hm64 hD1) ?_; rintro v ρ' L' hle ⟨rfl, rfl, k2, hD2, rfl⟩ <;> (try simp only [List.cons_append, List.nil_append, List.append_eq])) | (refine i_op ?_; first | (refine i_qq ?_; refine qQ ?_) | refine qEf ?_) | refine tl_nil ?_ | (refine i_tc ?_; refine qTc ?_) | (refine i_te ?_; refine qTe ?_) | intro _)
    by_cases hc : (D1.write (y.1 : Int) y.2).2 = 0
    · have hcb : ((D1.write (y.1 : Int) y.2).2 != 0) = false := by simpa using hc
      have hw2 := hwr.snoc hc
      rw [hcb, hc]
      repeat' (first | (refine i_op ?_; first | (refine i_qq ?_; refine qQ ?_) | refine qEf ?_) | refine tl_nil ?_ | (refine i_tc ?_; refine qTc ?_) | (refine i_te ?_; refine qTe ?_) | intro _)
      refine te_front [(l, .loop r')] ?_
      refine te_next (Lu := [[(b2, .cells ⟨[.pointer (some ⟨b, 0, none⟩)]⟩ 45 (0, 0))], [(b4, .cells ⟨[.int .i64 0]⟩ 29 (0, 0))]] ++ diskK b k2 (D1.write (y.1 : Int) y.2).1) rfl (Hp.le_refl _) ⟨hrec'.tmps.trans hrec.tmps, hrec'.params.trans hrec.params, hrec'.assign.trans hrec.assign, hrec'.body.trans hrec.body⟩ tk tk inferInstance ?_
      exact ⟨_, k2, hl2, hw2, hD2, rfl⟩
    · have hcb : ((D1.write (y.1 : Int) y.2).2 != 0) = true := by simpa using hc
      have hst := hwr.stop hpre hc
      rw [hcb]
      repeat' (first | (refine i_op ?_; first | (refine i_qq ?_; refine qQ ?_) | refine qEf ?_) | refine tl_nil ?_ | (refine i_tc ?_; refine qTc ?_) | (refine i_te ?_; refine qTe ?_) | intro _)
      refine te_front [(l, .loop r')] ?_
      refine te_leave (Lu := [[(b2, .cells ⟨[.pointer (some ⟨b, 0, none⟩)]⟩ 45 (0, 0))], [(b4, .cells ⟨[.int .i64 (D1.write (y.1 : Int) y.2).2]⟩ 29 (0, 0))]] ++ diskK b k2 (D1.write (y.1 : Int) y.2).1) rfl rfl (Hp.le_refl _) ⟨hrec'.tmps.trans hrec.tmps, hrec'.params.trans hrec.params, hrec'.assign.trans hrec.assign, hrec'.body.trans hrec.body⟩ tk tk inferInstance ?_
      exact ⟨rfl, _, k2, _, hl2, hc, hst, hD2, rfl⟩
  case done =>
    rintro D0 ρ1 Lu hl1 ⟨D1, k1, hl2, hwr, hD1, rfl⟩
    simp only [List.cons_append, List.nil_append]
    have hlay := hwr.lays []
    rw [List.append_nil, DS.lays] at hlay
    rw [hlay]
    repeat' (first | (refine tl_is (.func 149) ?_; refine qC rfl rfl (ksync _ b k1 D1 hD1) ?_; rintro v ρ' L' hle ⟨rfl, hl3, k2, hD2, rfl⟩ <;> (try simp only [List.cons_append, List.nil_append, List.append_eq])) | (refine i_op ?_; first | (refine i_qq ?_; refine qQ ?_) | refine qEf ?_) | refine tl_nil ?_ | (refine i_tc ?_; refine qTc ?_) | (refine i_te ?_; refine qTe ?_) | intro _)
    refine te_front [(D0, .deferred (some []))] ?_
    exact te_end_d rfl rfl rfl inferInstance (res1 rfl (r1_cell_s rfl rfl)) (Hp.le_trans hl2 hl3) tk (by infer_instance) (L' := S ++ diskK b k2 D1.sync.1) ⟨rfl, Hp.le_trans hl2 hl3, k2, hD2, rfl⟩
  case stop =>
    rintro D0 c ρ1 Lu hl1 ⟨rfl, D2, k2, e, hl2, he, hlay, hD2, rfl⟩
    simp only [List.cons_append, List.nil_append]
    have heb : (e != 0) = true := by simpa using he
    rw [hlay]
    repeat' (first | (refine i_op ?_; first | (refine i_qq ?_; refine qQ ?_) | refine qEf ?_) | refine tl_nil ?_ | (refine i_tc ?_; refine qTc ?_) | (refine i_te ?_; refine qTe ?_) | intro _)
    refine te_front [(D0, .deferred (some []))] ?_
    exact te_end_d rfl rfl rfl inferInstance (res1 rfl (r1_cell_s rfl rfl)) hl2 tk (by infer_instance) (L' := S ++ diskK b k2 D2) ⟨rfl, hl2, k2, hD2, rfl⟩
end Go.Proofs.E

namespace Go.Proofs.E
open Go
set_option linter.unusedVariables false
set_option linter.unusedSimpArgs false
set_option linter.unusedSectionVars false
set_option maxRecDepth 4000
set_option maxHeartbeats 1000000
attribute [local irreducible] Yl TL TC TE Spec YSpec R1 Hp.le EnvLe TS TR YS Stays
theorem laid_iter (ρ0 : Hp) (hb : Nat) (h : Hd) (na : Option Addr) (nn nc : Nat) (hn : SIn ρ0 u8c na nn h.note) (ht : h.turn < 4294967296) (hf : h.first ≤ 1099511627776) (hs : h.size < 65536) (hp : h.place < 65536) (hnl : nn ≤ 32) :
    Iter Try.prog 152 [] [.pointer (some ⟨hb, 0, none⟩)] pencV ρ0 [[(hb, .cells ⟨hdV h na nn nc⟩ 144 (0, 0))]] (headL h) := by
  intro l J Jx hY ρ Lj hl0 hJ
  have hy := fun ρ Lj h1 h2 => hY [] (h.turn % 2, headB h) ρ Lj (List.prefix_refl _) h1 h2
  have hrm : (h.turn : Int).tmod 2 = ((h.turn % 2 : Nat) : Int) := by rw [Int.tmod_eq_emod_of_nonneg (by omega)]; rfl
  have hrm1 : 0 ≤ (h.turn : Int).tmod 2 := by rw [hrm]; omega
  have hrm2 : (h.turn : Int).tmod 2 < 2 := by rw [hrm]; omega
  refine spec_enter Try.func152 rfl rfl rfl fun u R => ?_
  simp only [argsE, List.cons_append, List.nil_append, List.append_assoc]
  refine tc_any (Stays _ _ ([[(hb, .cells ⟨hdV h na nn nc⟩ 144 (0, 0))]])) (stays_of (Hp.le_refl _)) ?_
  all_goals refine rMv 0 ?_
  all_goals refine rFa 1 ?_
  all_goals refine rLd 2 ?_
  all_goals refine rRm 3 ?_
  all_goals refine rCv 4 ?_
  all_goals refine rLd 5 ?_
  all_goals (refine rStep (i := 6) ?_; ((try refine qWant ?_); (first | (refine tl_is (.func 153) ?_; refine qC rfl rfl (hblock_spec _ h na nn nc (hn.mono hl0) ht hf hs hp hnl) ?_; rintro v6 ρ6 L6 hle6 ⟨rfl, rfl, rfl⟩; simp only [List.cons_append, List.nil_append, hrm]) | (refine qEf ?_; try intro _)) <;> ((try simp only [List.cons_append, List.nil_append, List.append_eq]); refine tl_nil ?_; refine rNext ?_)))
  all_goals (refine rStep (i := 7) ?_; ((try refine qWant ?_); (first | (refine tl_is (.tmp 3) ?_; refine qY rfl rfl ((hy _ _ hl0 hJ)) ?_; rintro v ρ' L' hle ⟨Lj', rfl, ⟨rfl, hj'⟩ | ⟨rfl, hj'⟩⟩ <;> (try simp only [List.cons_append, List.nil_append, List.append_eq])) | (refine qEf ?_; try intro _)) <;> ((try simp only [List.cons_append, List.nil_append, List.append_eq]); refine tl_nil ?_; refine rNext ?_)))
  all_goals refine rDone ?_
  all_goals (repeat' (first | (refine i_op ?_; first | (refine i_qq ?_; refine qQ ?_) | refine qEf ?_) | refine tl_nil ?_ | (refine i_tc ?_; refine qTc ?_) | (refine i_te ?_; refine qTe ?_) | intro _))
  · exact qE (L' := [[(hb, .cells ⟨hdV h na nn nc⟩ 144 (0, 0))]] ++ Lj') ⟨Lj', rfl, .inl hj'⟩
  · exact qE (L' := [[(hb, .cells ⟨hdV h na nn nc⟩ 144 (0, 0))]] ++ Lj') ⟨Lj', rfl, .inr hj'⟩
theorem laid_spec (ρ : Hp) (h : Hd) (na : Option Addr) (nn nc : Nat) (hn : SIn ρ u8c na nn h.note) (ht : h.turn < 4294967296) (hf : h.first ≤ 1099511627776) (hs : h.size < 65536) (hp : h.place < 65536) (hnl : nn ≤ 32) (b : Nat) (k : DK) (D : DS) (hD : DOk k D) :
    Spec Try.prog 84 [.agg ⟨hdV h na nn nc⟩, .pointer (some ⟨b, 0, none⟩)] ρ (diskK b k D) (fun v ρ' L' => v = .int .i64 (DS.lays (headL h) D).2 ∧ ρ.le ρ' ∧ ∃ k', DOk k' (DS.lays (headL h) D).1 ∧ L' = diskK b k' (DS.lays (headL h) D).1) := by
  refine spec_enter Try.func84 rfl rfl rfl fun u R => ?_
  simp only [argsE, List.cons_append, List.nil_append]
  repeat' (first | (refine i_op ?_; first | (refine i_qq ?_; refine qQ ?_) | refine qEf ?_) | refine tl_nil ?_ | (refine i_tc ?_; refine qTc ?_) | (refine i_te ?_; refine qTe ?_) | intro _)
  rename_i hb
  repeat' (first | (refine tl_is (.func 80) ?_; refine qC rfl rfl (lays_spec ρ ρ 152 [.pointer (some ⟨hb, 0, none⟩)] [[(hb, .cells ⟨hdV h na nn nc⟩ 144 (0, 0))]] (headL h) (Hp.le_refl _) (laid_iter ρ hb h na nn nc hn ht hf hs hp hnl) (fun p hp => by rw [List.mem_singleton.1 hp]; exact headB_len h) b k D hD) ?_; rintro v ρ' L' hle ⟨rfl, hl1, k', hD', rfl⟩ <;> (try simp only [List.cons_append, List.nil_append, List.append_eq])) | (refine i_op ?_; first | (refine i_qq ?_; refine qQ ?_) | refine qEf ?_) | refine tl_nil ?_ | (refine i_tc ?_; refine qTc ?_) | (refine i_te ?_; refine qTe ?_) | intro _)
  exact qE ⟨rfl, hl1, k', hD', rfl⟩
theorem noughtsL_at {n k : Nat} (hk : k < (noughtsL n).length) : (noughtsL n)[k] = (k, zblk) := by simp [noughtsL]
theorem noughtsL_len {n : Nat} : (noughtsL n).length = n + 2 := by simp [noughtsL]
theorem noughts_iter (ρ0 : Hp) (sb n : Nat) (hn : n ≤ 1000000) : Iter Try.prog 96 [] [.pointer (some ⟨sb, 0, none⟩)] pencV ρ0 [[(sb, .cells ⟨[.int .i64 n]⟩ 3 (0, 0))]] (noughtsL n) := by
  intro l J Jx hY ρ Lj hl0 hJ
  have hlen := noughtsL_len (n := n)
  refine spec_enter Try.func96 rfl rfl rfl fun u R => ?_
  simp only [argsE, List.cons_append, List.nil_append, List.append_assoc]
  repeat' (first | (refine i_op ?_; first | (refine i_qq ?_; refine qQ ?_) | refine qEf ?_) | refine tl_nil ?_ | (refine i_tc ?_; refine qTc ?_) | (refine i_te ?_; refine qTe ?_) | intro _)
  refine tc_loop_g [(0, _), (1, _)] (fun (ζ : (Nat) × (Hp) × (SH)) => [(3, .int .i64 ζ.1)]) (fun (ζ : (Nat) × (Hp) × (SH)) => ζ.2.1) (fun (ζ : (Nat) × (Hp) × (SH)) => [[(sb, .cells ⟨[.int .i64 n]⟩ 3 (0, 0))]] ++ ζ.2.2) (fun (ζ : (Nat) × (Hp) × (SH)) => ζ.1 ≤ n + 2 ∧ ρ.le ζ.2.1 ∧ J ((noughtsL n).take ζ.1) ζ.2.1 ζ.2.2) (fun (ζ : (Nat) × (Hp) × (SH)) => n + 2 - ζ.1) ((0, ρ, Lj)) (⟨Nat.zero_le _, Hp.le_refl _, hJ⟩) ev_le ev_le rfl tk ?_
  rintro ⟨k, ρ1, L1⟩ hI
  try simp only [List.cons_append, List.nil_append, List.append_assoc, List.append_eq] at hI ⊢
  try dsimp only at hI ⊢
  obtain ⟨hk, hle1, hj⟩ := hI
  by_cases hlt : k < n + 2
  · have hk2 : k < (noughtsL n).length := by omega
    have hpre := take_succ_pre (noughtsL n) k hk2
    rw [noughtsL_at] at hpre
    have hts := List.take_succ_eq_append_getElem hk2
    rw [noughtsL_at] at hts
    have hy := hY _ _ ρ1 L1 hpre (Hp.le_trans hl0 hle1) hj
    repeat' (first | (simp only [Value.cells, zblk_cells]; refine tl_is (.tmp 9) ?_; refine qY rfl rfl hy ?_; rintro v ρ' L' hle ⟨Lj', rfl, ⟨rfl, hj'⟩ | ⟨rfl, hj'⟩⟩ <;> (try simp only [List.cons_append, List.nil_append, List.append_eq])) | (refine i_op ?_; first | (refine i_qq ?_; refine qQ ?_) | refine qEf ?_) | refine tl_nil ?_ | (refine i_tc ?_; refine qTc ?_) | (refine i_te ?_; refine qTe ?_) | intro _)
    · refine te_round_g (k + 1, ρ', Lj') (⟨hlt, Hp.le_trans hle1 hle, by dsimp only; rw [hts]; exact hj'⟩) ev_le ev_le rfl tk inferInstance (by first | omega | (dsimp only; omega))
    · exact qE (L' := [[(sb, .cells ⟨[.int .i64 n]⟩ 3 (0, 0))]] ++ Lj') ⟨Lj', rfl, .inr hj'⟩
  · have hk2 : k = n + 2 := by omega
    subst hk2
    rw [List.take_of_length_le (by omega)] at hj
    repeat' (first | (refine i_op ?_; first | (refine i_qq ?_; refine qQ ?_) | refine qEf ?_) | refine tl_nil ?_ | (refine i_tc ?_; refine qTc ?_) | (refine i_te ?_; refine qTe ?_) | intro _)
    exact qE (L' := [[(sb, .cells ⟨[.int .i64 n]⟩ 3 (0, 0))]] ++ L1) ⟨L1, rfl, .inl hj⟩
end Go.Proofs.E

namespace Go.Proofs.E
open Go
set_option linter.unusedVariables false
set_option linter.unusedSimpArgs false
set_option linter.unusedSectionVars false
set_option maxRecDepth 4000
set_option maxHeartbeats 1000000
attribute [local irreducible] Yl TL TC TE Spec YSpec R1 Hp.le EnvLe TS TR YS Stays
theorem klen (ρ : Hp) (b : Nat) (k : DK) (D : DS) : Spec Try.prog 95 [.pointer (some ⟨b, 0, none⟩)] ρ (diskK b k D) (fun v ρ' L' => v = .int .i64 (D.secs.length : Nat) ∧ ρ' = ρ ∧ L' = diskK b k D) := len_disk ρ b k.hb k.mb k.es k.ck D
/-- a row of bytes, and where it lies -/
structure BSl where
  a : Option Addr
  n : Nat
  c : Nat
  l : Bs
abbrev slv (e : BSl) : Value := .slice e.a e.n e.c
structure BIn (ρ : Hp) (e : BSl) : Prop where
  s : SIn ρ u8c e.a e.n e.l
  le : e.n ≤ e.c
theorem BIn.mono {ρ ρ' : Hp} {e : BSl} (h : BIn ρ e) (hle : ρ.le ρ') : BIn ρ' e := ⟨h.s.mono hle, h.le⟩
structure RW where
  na : Option Addr
  nn : Nat
  nc : Nat
  ev : Value
  els : List BSl
  sp : List Value
abbrev rgV (R : RgS) (db : Nat) (w : RW) : List Value := [.int .u64 R.h.turn, .int .u64 R.h.first, .int .i64 R.h.size, .int .i64 R.h.place, .slice w.na w.nn w.nc, .pointer (some ⟨db, 0, none⟩), w.ev, .int .i64 R.used, .bool R.broken]
abbrev ringC (rb db : Nat) (R : RgS) (w : RW) : SH := [[(rb, .cells ⟨rgV R db w⟩ 146 (0, 0))], ownC w.ev (w.els.map slv) w.sp 22]
structure RIn (ρ : Hp) (R : RgS) (w : RW) : Prop where
  ok : R.Ok
  note : SIn ρ u8c w.na w.nn R.h.note
  nle : w.nn ≤ w.nc
  own : OwnS w.ev w.els.length (w.els.map slv) w.sp 1
  ents : R.ents = w.els.map BSl.l
  els : ∀ e ∈ w.els, BIn ρ e
theorem RIn.mono {ρ ρ' : Hp} {R : RgS} {w : RW} (h : RIn ρ R w) (hle : ρ.le ρ') : RIn ρ' R w := ⟨h.ok, h.note.mono hle, h.nle, h.own, h.ents, fun e he => (h.els e he).mono hle⟩
theorem RIn.len {ρ : Hp} {R : RgS} {w : RW} (h : RIn ρ R w) : w.els.length = R.ents.length := by rw [h.ents]; simp
theorem slv_one (l : List BSl) : (l.map slv).all (·.oneCell') = true := by
  rw [List.all_eq_true]; intro v hv; obtain ⟨b, _, rfl⟩ := List.mem_map.1 hv; rfl
theorem works_nil (ρ : Hp) : Spec Try.prog 78 [.pointer none] ρ [] (fun v ρ' L' => v = .int .i64 1 ∧ ρ' = ρ ∧ L' = []) := by
  refine spec_enter Try.func78 rfl rfl rfl fun u R => ?_
  simp only [argsE, List.cons_append, List.nil_append]
  repeat' (first | (refine i_op ?_; first | (refine i_qq ?_; refine qQ ?_) | refine qEf ?_) | refine tl_nil ?_ | (refine i_tc ?_; refine qTc ?_) | (refine i_te ?_; refine qTe ?_) | intro _)
  exact qE ⟨rfl, rfl, rfl⟩
theorem works_spec (ρ : Hp) (rb db : Nat) (R : RgS) (w : RW) : Spec Try.prog 78 [.pointer (some ⟨rb, 0, none⟩)] ρ [[(rb, .cells ⟨rgV R db w⟩ 146 (0, 0))]] (fun v ρ' L' => v = .int .i64 (if R.broken then 8 else 0) ∧ ρ' = ρ ∧ L' = [[(rb, .cells ⟨rgV R db w⟩ 146 (0, 0))]]) := by
  obtain ⟨h, ents, used, broken⟩ := R
  refine spec_enter Try.func78 rfl rfl rfl fun u R => ?_
  simp only [argsE, List.cons_append, List.nil_append]
  cases broken
  all_goals (repeat' (first | (refine i_op ?_; first | (refine i_qq ?_; refine qQ ?_) | refine qEf ?_) | refine tl_nil ?_ | (refine i_tc ?_; refine qTc ?_) | (refine i_te ?_; refine qTe ?_) | intro _))
  all_goals exact qE ⟨rfl, rfl, rfl⟩
theorem next_spec (ρ : Hp) (rb db : Nat) (R : RgS) (w : RW) (h : RIn ρ R w) : Spec Try.prog 79 [.pointer (some ⟨rb, 0, none⟩)] ρ [[(rb, .cells ⟨rgV R db w⟩ 146 (0, 0))]] (fun v ρ' L' => v = .int .u64 (R.next : Nat) ∧ ρ' = ρ ∧ L' = [[(rb, .cells ⟨rgV R db w⟩ 146 (0, 0))]]) := by
  have hl := h.len
  have hnx := h.ok.next
  have e : (R.h.first : Int) + (w.els.length : Int) = (R.next : Int) := by unfold RgS.next; omega
  obtain ⟨a, cap, hev, _⟩ := h.own.len
  obtain ⟨na, nn, nc, ev, els, sp⟩ := w
  dsimp only at hev hl e
  subst hev
  refine spec_enter Try.func79 rfl rfl rfl fun u R0 => ?_
  simp only [argsE, List.cons_append, List.nil_append]
  repeat' (first | (refine i_op ?_; first | (refine i_qq ?_; refine qQ ?_) | refine qEf ?_) | refine tl_nil ?_ | (refine i_tc ?_; refine qTc ?_) | (refine i_te ?_; refine qTe ?_) | intro _)
  refine tc_any (Stays _ _ _) stays_refl ?_
  all_goals refine rMv 0 ?_
  all_goals refine rFull ?_
  all_goals refine rNc 1 ?_
  all_goals refine rFa 2 ?_
  all_goals refine rFa 3 ?_
  all_goals refine rLd 4 ?_
  all_goals refine rMv 5 ?_
  all_goals refine rNc 6 ?_
  all_goals refine rFa 7 ?_
  all_goals refine rLd 8 ?_
  all_goals refine rBi 9 ?_
  all_goals refine rCv 10 ?_
  all_goals refine rAd 11 ?_
  all_goals refine rAs 12 ?_
  all_goals refine rDone ?_
  all_goals (repeat' (first | (refine i_op ?_; first | (refine i_qq ?_; refine qQ ?_) | refine qEf ?_) | refine tl_nil ?_ | (refine i_tc ?_; refine qTc ?_) | (refine i_te ?_; refine qTe ?_) | intro _))
  rw [e]
  exact qE ⟨rfl, rfl, rfl⟩
theorem sects_nat (ρ : Hp) (n : Nat) (hn : n ≤ 1000000) : Spec Try.prog 24 [.int .i64 n] ρ [] (fun v ρ' L' => v = .int .i64 (sects n : Nat) ∧ ρ' = ρ ∧ L' = []) := sects_spec ρ n (by omega)
theorem RIn.adds {ρ : Hp} {R : RgS} {w : RW} (h : RIn ρ R w) {e : BSl} (he : BIn ρ e) (hel : e.n ≤ 8000) (hfit : R.used + sects e.n ≤ R.h.size) (hn : R.next < 1099511627776) {v : Value} {sp : List Value} (ho : OwnS v (w.els.length + 1) ((w.els ++ [e]).map slv) sp 1) :
    RIn ρ (R.adds e.l) ⟨w.na, w.nn, w.nc, v, w.els ++ [e], sp⟩ := by
  have hel2 := he.s.len
  have hok := h.ok
  refine ⟨⟨hok.turn, hok.size, hok.first, ?_, hok.place, hok.note, ?_, ?_, ?_⟩, h.note, h.nle, by simpa using ho, ?_, ?_⟩
  · simp only [RgS.adds, RgS.next] at hn ⊢; simp; omega
  · simp only [RgS.adds, usedL_append, hok.used]; simp [usedL]
  · simp only [RgS.adds]; rw [hel2]; exact hfit
  · intro b hb
    simp only [RgS.adds, List.mem_append, List.mem_singleton] at hb
    rcases hb with hb | rfl
    · exact hok.long b hb
    · omega
  · simp [RgS.adds, h.ents]
  · intro x hx
    rcases List.mem_append.1 hx with hx | hx
    · exact h.els x hx
    · rw [List.mem_singleton.1 hx]; exact he
/-- an entry more -/
theorem adds_spec (ρ : Hp) (rb db : Nat) (R : RgS) (w : RW) (h : RIn ρ R w) (e : BSl) (he : BIn ρ e) (hel : e.n ≤ 8000) (hfit : R.used + sects e.n ≤ R.h.size) (hn : R.next < 1099511627776) :
    Spec Try.prog 82 [.pointer (some ⟨rb, 0, none⟩), slv e] ρ (ringC rb db R w) (fun v ρ' L' => v = .tuple ⟨[]⟩ ∧ ρ' = ρ ∧ ∃ ev' sp', RIn ρ (R.adds e.l) ⟨w.na, w.nn, w.nc, ev', w.els ++ [e], sp'⟩ ∧ L' = ringC rb db (R.adds e.l) ⟨w.na, w.nn, w.nc, ev', w.els ++ [e], sp'⟩) := by
  have hsz := h.ok.size
  have hlen := h.len
  have hul := usedL_len R.ents
  have hus := h.ok.used
  have hel2 := he.s.len
  have hown := h.own
  obtain ⟨hd, ents, used, broken⟩ := R
  obtain ⟨na, nn, nc, ev, els, sp⟩ := w
  dsimp only at hsz hlen hul hus hown hfit ⊢
  have hmap : els.map slv ++ [slv e] = (els ++ [e]).map slv := by simp
  have hus2 : (used : Int) + (sects e.n : Int) = ((used + sects e.l.length : Nat) : Int) := by rw [hel2]; omega
  refine spec_enter Try.func82 rfl rfl rfl fun u R0 => ?_
  simp only [argsE, List.cons_append, List.nil_append]
  repeat' (first | (refine tl_buildSlice_s rfl rfl rfl rfl (by simp) rfl rfl (fun _ => ?_)) | (refine tl_app (ys := [slv e]) (m := 1) (sz := 1) rfl rfl hown (hR := by infer_instance) SrcV.lit rfl rfl (by decide) rfl (by omega) (by omega) rfl (fun v2 sp2 hown2 => ?_); obtain ⟨a2, cap2, rfl, hc2⟩ := hown2.slice; rw [hmap] at hown2 ⊢) | (refine tl_is (.func 24) ?_; refine qC rfl rfl (sects_nat _ e.n (by omega)) ?_; rintro v ρ' L' hle ⟨rfl, rfl, rfl⟩ <;> (try simp only [List.cons_append, List.nil_append, List.append_eq])) | (refine i_op ?_; first | (refine i_qq ?_; refine qQ ?_) | refine qEf ?_) | refine tl_nil ?_ | (refine i_tc ?_; refine qTc ?_) | (refine i_te ?_; refine qTe ?_) | intro _)
  refine tc_any (Stays _ _ ([])) (stays_of (Hp.le_refl _)) ?_
  all_goals refine rMv 0 ?_
  all_goals refine rNc 1 ?_
  all_goals refine rFa 2 ?_
  all_goals refine rMv 4 ?_
  all_goals refine rBi 5 ?_
  all_goals (refine rStep2 (i := 3) (j := 6) ?_ ?_ <;> ((try refine qWant ?_); (first | (refine tl_is (.func 24) ?_; refine qC rfl rfl (sects_nat _ e.n (by omega)) ?_; rintro v ρ' L' hle ⟨rfl, rfl, rfl⟩ <;> (try simp only [List.cons_append, List.nil_append, List.append_eq])) | (refine i_qq ?_; refine qQ ?_) | (refine qEf ?_; try intro _)) <;> ((try simp only [List.cons_append, List.nil_append, List.append_eq]); refine tl_nil ?_; refine rNext ?_)))
  all_goals (first | (refine rStep (i := 6) ?_; ((try refine qWant ?_); (first | (refine tl_is (.func 24) ?_; refine qC rfl rfl (sects_nat _ e.n (by omega)) ?_; rintro v ρ' L' hle ⟨rfl, rfl, rfl⟩ <;> (try simp only [List.cons_append, List.nil_append, List.append_eq])) | (refine i_qq ?_; refine qQ ?_) | (refine qEf ?_; try intro _)) <;> ((try simp only [List.cons_append, List.nil_append, List.append_eq]); refine tl_nil ?_; refine rNext ?_))) | (refine rStep (i := 3) ?_; ((try refine qWant ?_); (first | (refine tl_is (.func 24) ?_; refine qC rfl rfl (sects_nat _ e.n (by omega)) ?_; rintro v ρ' L' hle ⟨rfl, rfl, rfl⟩ <;> (try simp only [List.cons_append, List.nil_append, List.append_eq])) | (refine i_qq ?_; refine qQ ?_) | (refine qEf ?_; try intro _)) <;> ((try simp only [List.cons_append, List.nil_append, List.append_eq]); refine tl_nil ?_; refine rNext ?_))))
  all_goals refine rAd 7 ?_
  all_goals refine rNc 8 ?_
  all_goals refine rFa 9 ?_
  all_goals (refine rStep (i := 10) ?_; ((try refine qWant ?_); (first | (refine i_qq ?_; refine qQ ?_) | (refine qEf ?_; try intro _)) <;> ((try simp only [List.cons_append, List.nil_append, List.append_eq]); refine tl_nil ?_; refine rNext ?_)))
  all_goals refine rDone ?_
  all_goals rw [hus2]
  all_goals exact qE (L' := [[(rb, _)], ownC _ _ _ _]) ⟨rfl, rfl, _, sp2, h.adds he hel hfit hn hown2, rfl⟩
end Go.Proofs.E

namespace Go.Proofs.E
open Go
set_option linter.unusedVariables false
set_option linter.unusedSimpArgs false
set_option linter.unusedSectionVars false
set_option maxRecDepth 4000
set_option maxHeartbeats 1000000
attribute [local irreducible] Yl TL TC TE Spec YSpec R1 Hp.le EnvLe TS TR YS Stays
theorem Rd.ofNone {ρ : Hp} {X : SH} {n : Nat} {l : Bs} (h : Rd ρ X none n l) : l = [] ∧ n = 0 := by
  have hl := h.len
  have := h.src ⟨Option.none, Try.prog, default, [], 0⟩ ρ X [] (Hp.le_refl _) ⟨by simp⟩
  rcases this with h | ⟨b, off, h, _⟩
  · have : l = [] := by simpa using h
    subst this; exact ⟨rfl, by simpa using hl.symm⟩
  · cases h
theorem cloneR_spec (ρ : Hp) (X : SH) (a : Option Addr) (n c : Nat) (b : Bs) (h : Rd ρ X a n b) (hn : n ≤ 1000000) :
    Spec Try.prog 83 [.slice a n c] ρ X (fun v ρ' L' => ρ.le ρ' ∧ ∃ e : BSl, v = slv e ∧ BIn ρ' e ∧ e.l = b ∧ e.n = n ∧ L' = X) := by
  have hl := h.len
  cases a with
  | none =>
    obtain ⟨rfl, rfl⟩ := h.ofNone
    refine spec_enter Try.func83 rfl rfl rfl fun u R => ?_
    simp only [argsE, List.cons_append, List.nil_append]
    repeat' (first | (refine i_op ?_; first | (refine i_qq ?_; refine qQ ?_) | refine qEf ?_) | refine tl_nil ?_ | (refine i_tc ?_; refine qTc ?_) | (refine i_te ?_; refine qTe ?_) | intro _)
    exact qE ⟨Hp.le_refl _, ⟨none, 0, 0, []⟩, rfl, ⟨SIn.nil, Nat.le_refl _⟩, rfl, rfl, rfl⟩
  | some ad =>
    refine spec_enter Try.func83 rfl rfl rfl fun u R => ?_
    simp only [argsE, List.cons_append, List.nil_append]
    repeat' (first | (refine i_op ?_; first | (refine i_qq ?_; refine qQ ?_) | refine qEf ?_) | refine tl_nil ?_ | (refine i_tc ?_; refine qTc ?_) | (refine i_te ?_; refine qTe ?_) | intro _)
    rename_i bx
    refine tl_app (n := 0) (xs := []) (sp := []) (ys := b.map u8c) (sz := 1) rfl rfl (OwnS.zero _ 1) (hR := rem_here') (h.src _ _ _ _ (Hp.le_refl _) tk) (by simpa using hl) (u8c_one b) (by decide) rfl (by omega) (by omega) rfl (fun v' sp' hown' => ?_)
    simp only [Nat.zero_add, List.nil_append] at hown' ⊢
    repeat' (first | (refine i_op ?_; first | (refine i_qq ?_; refine qQ ?_) | refine qEf ?_) | refine tl_nil ?_ | (refine i_tc ?_; refine qTc ?_) | (refine i_te ?_; refine qTe ?_) | intro _)
    refine te_freeze _ (h := Rem.here) (fun ρ6 hle6 hfz => ?_)
    obtain ⟨a6, c6, rfl, hc6, hs6⟩ := hown'.sIn hfz
    exact qE ⟨hle6, ⟨a6, n, c6, b⟩, rfl, ⟨hs6, hc6⟩, rfl, rfl, rfl⟩
theorem partsL_len {h : Hd} {n at' : Nat} {b : Bs} : ∀ p ∈ partsL h n b at', p.2.length = 64 := fun p hp => by
  simp only [partsL, List.mem_map] at hp
  obtain ⟨k, _, rfl⟩ := hp
  exact partB_len _ _ _ _
theorem partsF_spec (ρ : Hp) (h : Hd) (na : Option Addr) (nn nc n : Nat) (a : Option Addr) (bn c at' : Nat) :
    Spec Try.prog 81 [.agg ⟨hdV h na nn nc⟩, .int .u64 n, .slice a bn c, .int .i64 at'] ρ [] (fun v ρ' L' => ρ' = ρ ∧ ∃ bb ab hb nb, v = .func (.func 150) ⟨[]⟩ ⟨[.pointer (some ⟨bb, 0, none⟩), .pointer (some ⟨ab, 0, none⟩), .pointer (some ⟨hb, 0, none⟩), .pointer (some ⟨nb, 0, none⟩)]⟩ ∧ L' = partsS bb ab hb nb a bn c at' h na nn nc n) := by
  refine spec_enter Try.func81 rfl rfl rfl fun u R => ?_
  simp only [argsE, List.cons_append, List.nil_append]
  repeat' (first | (refine i_op ?_; first | (refine i_qq ?_; refine qQ ?_) | refine qEf ?_) | refine tl_nil ?_ | (refine i_tc ?_; refine qTc ?_) | (refine i_te ?_; refine qTe ?_) | intro _)
  rename_i hb nb bb ab
  exact qE (L' := partsS bb ab hb nb a bn c at' h na nn nc n) ⟨rfl, bb, ab, hb, nb, rfl, rfl⟩
theorem rgV_broken {R : RgS} {db : Nat} {w : RW} {b : Bool} : [.int .u64 R.h.turn, .int .u64 R.h.first, .int .i64 R.h.size, .int .i64 R.h.place, .slice w.na w.nn w.nc, .pointer (some ⟨db, 0, none⟩), w.ev, .int .i64 R.used, .bool b] = rgV { R with broken := b } db w := rfl
theorem RIn.broken {ρ : Hp} {R : RgS} {w : RW} (h : RIn ρ R w) (b : Bool) : RIn ρ { R with broken := b } w := ⟨⟨h.ok.turn, h.ok.size, h.ok.first, h.ok.next, h.ok.place, h.ok.note, h.ok.used, h.ok.fit, h.ok.long⟩, h.note, h.nle, h.own, h.ents, h.els⟩
theorem append_spec (ρ : Hp) (rb db : Nat) (R : RgS) (w : RW) (h : RIn ρ R w) (k : DK) (D : DS) (hD : DOk k D) (X : SH) (a : Option Addr) (n c : Nat) (b : Bs) (hb : Rd ρ X a n b) (hc : n ≤ c) (hbig : n ≤ 1000000) :
    Spec Try.prog 25 [.pointer (some ⟨rb, 0, none⟩), .slice a n c] ρ (ringC rb db R w ++ (diskK db k D ++ X))
      (fun v ρ' L' => v = .int .i64 (R.append b D).2.2 ∧ ρ.le ρ' ∧ ∃ k' w', DOk k' (R.append b D).2.1 ∧ RIn ρ' (R.append b D).1 w' ∧ L' = ringC rb db (R.append b D).1 w' ++ (diskK db k' (R.append b D).2.1 ++ X)) := by
  have hl := hb.len
  have hok := h.ok
  have hsz := h.ok.size
  have hft := h.ok.fit
  have hfs := h.ok.first
  have hnx := h.ok.next
  have hpl := h.ok.place
  have htu := h.ok.turn
  have hsc := sects_pos n
  cases hbr : R.broken with
  | true =>
    have he : R.append b D = (R, D, 8) := by simp [RgS.append, hbr]
    rw [he]
    have hw8 := works_spec ρ rb db R w
    rw [hbr] at hw8
    simp only [if_true] at hw8
    refine spec_enter Try.func25 rfl rfl rfl fun u R0 => ?_
    simp only [argsE, List.cons_append, List.nil_append, List.append_assoc]
    repeat' (first | (refine tl_is (.func 78) ?_; refine qC rfl rfl (hw8) ?_; rintro v ρ' L' hle ⟨rfl, rfl, rfl⟩ <;> (try simp only [List.cons_append, List.nil_append, List.append_eq])) | (refine i_op ?_; first | (refine i_qq ?_; refine qQ ?_) | refine qEf ?_) | refine tl_nil ?_ | (refine i_tc ?_; refine qTc ?_) | (refine i_te ?_; refine qTe ?_) | intro _)
    exact qE (L' := ringC rb db R w ++ (diskK db k D ++ X)) ⟨rfl, Hp.le_refl _, k, w, hD, h, rfl⟩
  | false =>
    have hw0 := works_spec ρ rb db R w
    rw [hbr] at hw0
    simp only [Bool.false_eq_true, if_false] at hw0
    by_cases hlong : 8000 < n
    · have he : R.append b D = (R, D, 3) := by simp [RgS.append, hbr, hl, hlong]
      rw [he]
      refine spec_enter Try.func25 rfl rfl rfl fun u R0 => ?_
      simp only [argsE, List.cons_append, List.nil_append, List.append_assoc]
      repeat' (first | (refine tl_is (.func 78) ?_; refine qC rfl rfl (hw0) ?_; rintro v ρ' L' hle ⟨rfl, rfl, rfl⟩ <;> (try simp only [List.cons_append, List.nil_append, List.append_eq])) | (refine i_op ?_; first | (refine i_qq ?_; refine qQ ?_) | refine qEf ?_) | refine tl_nil ?_ | (refine i_tc ?_; refine qTc ?_) | (refine i_te ?_; refine qTe ?_) | intro _)
      exact qE (L' := ringC rb db R w ++ (diskK db k D ++ X)) ⟨rfl, Hp.le_refl _, k, w, hD, h, rfl⟩
    · have hnext := next_spec ρ rb db R w h
      by_cases hfull : R.h.size - R.used < sects n
      · have he : R.append b D = (R, D, 6) := by simp [RgS.append, hbr, hl, hlong, hfull]
        rw [he]
        refine spec_enter Try.func25 rfl rfl rfl fun u R0 => ?_
        simp only [argsE, List.cons_append, List.nil_append, List.append_assoc]
        repeat' (first | (refine tl_is (.func 78) ?_; refine qC rfl rfl (hw0) ?_; rintro v ρ' L' hle ⟨rfl, rfl, rfl⟩ <;> (try simp only [List.cons_append, List.nil_append, List.append_eq])) | (refine i_op ?_; first | (refine i_qq ?_; refine qQ ?_) | refine qEf ?_) | refine tl_nil ?_ | (refine i_tc ?_; refine qTc ?_) | (refine i_te ?_; refine qTe ?_) | intro _)
        refine tc_any (Stays _ _ ([[(rb, .cells ⟨rgV R db w⟩ 146 (0, 0))]])) (stays_of (Hp.le_refl _)) ?_
        all_goals refine rMv 0 ?_
        all_goals refine rBi 1 ?_
        all_goals refine rMv 3 ?_
        all_goals refine rNc 4 ?_
        all_goals refine rFa 5 ?_
        all_goals refine rFa 6 ?_
        all_goals refine rLd 7 ?_
        all_goals refine rMv 8 ?_
        all_goals refine rNc 9 ?_
        all_goals refine rFa 10 ?_
        all_goals refine rLd 11 ?_
        all_goals refine rSb 12 ?_
        all_goals (refine rStep (i := 2) ?_; ((try refine qWant ?_); (first | (refine tl_is (.func 24) ?_; refine qC rfl rfl (sects_nat _ n (by omega)) ?_; rintro v ρ' L' hle ⟨rfl, rfl, rfl⟩ <;> (try simp only [List.cons_append, List.nil_append, List.append_eq])) | (refine qEf ?_; try intro _)) <;> ((try simp only [List.cons_append, List.nil_append, List.append_eq]); refine tl_nil ?_; refine rNext ?_)))
        all_goals refine rCm 13 ?_
        all_goals refine rMv 14 ?_
        all_goals (first | refine wSkip 15 ?_ | refine wSkipU 15 ?_ | refine wMv 15 ?_ | (refine tr_guard (t := 31) rfl (fun hb => ?_) (fun hb => ?_) <;> (try simp only [decide_eq_true_eq, decide_eq_false_iff_not, Bool.not_eq_true, Bool.not_eq_false, beq_iff_eq, bne_iff_ne, ne_eq, Bool.not_eq_eq_eq_not, Bool.not_true, Bool.not_false, beq_eq_false_iff_ne, bne_eq_false_iff_eq] at hb) <;> first | refine wSkip 15 ?_ | refine wSkipU 15 ?_ | refine wMv 15 ?_))
        all_goals (first | refine wSkip 16 ?_ | refine wSkipU 16 ?_ | (refine rStep (i := 16) ?_; ((try refine qWant ?_); (first | (refine qEf ?_; try intro _)) <;> ((try simp only [List.cons_append, List.nil_append, List.append_eq]); refine tl_nil ?_; refine rNext ?_))))
        all_goals refine rFull ?_
        all_goals (first | refine wSkip 17 ?_ | refine wSkipU 17 ?_ | refine wCm 17 ?_ | (refine tr_guard (t := 31) rfl (fun hb => ?_) (fun hb => ?_) <;> (try simp only [decide_eq_true_eq, decide_eq_false_iff_not, Bool.not_eq_true, Bool.not_eq_false, beq_iff_eq, bne_iff_ne, ne_eq, Bool.not_eq_eq_eq_not, Bool.not_true, Bool.not_false, beq_eq_false_iff_ne, bne_eq_false_iff_eq] at hb) <;> first | refine wSkip 17 ?_ | refine wSkipU 17 ?_ | refine wCm 17 ?_))
        all_goals refine rPk 18 ?_
        all_goals refine rAs 19 ?_
        all_goals refine rDone ?_
        all_goals (repeat' (first | (refine i_op ?_; first | (refine i_qq ?_; refine qQ ?_) | refine qEf ?_) | refine tl_nil ?_ | (refine i_tc ?_; refine qTc ?_) | (refine i_te ?_; refine qTe ?_) | intro _))
        all_goals exact qE (L' := ringC rb db R w ++ (diskK db k D ++ X)) ⟨rfl, Hp.le_refl _, k, w, hD, h, rfl⟩
      · by_cases hmax : 1099511627776 ≤ R.next
        · have he : R.append b D = (R, D, 6) := by simp [RgS.append, hbr, hl, hlong, hfull, hmax]
          rw [he]
          refine spec_enter Try.func25 rfl rfl rfl fun u R0 => ?_
          simp only [argsE, List.cons_append, List.nil_append, List.append_assoc]
          repeat' (first | (refine tl_is (.func 78) ?_; refine qC rfl rfl (hw0) ?_; rintro v ρ' L' hle ⟨rfl, rfl, rfl⟩ <;> (try simp only [List.cons_append, List.nil_append, List.append_eq])) | (refine i_op ?_; first | (refine i_qq ?_; refine qQ ?_) | refine qEf ?_) | refine tl_nil ?_ | (refine i_tc ?_; refine qTc ?_) | (refine i_te ?_; refine qTe ?_) | intro _)
          refine tc_any (Stays _ _ ([[(rb, .cells ⟨rgV R db w⟩ 146 (0, 0))]])) (stays_of (Hp.le_refl _)) ?_
          all_goals refine rMv 0 ?_
          all_goals refine rBi 1 ?_
          all_goals refine rMv 3 ?_
          all_goals refine rNc 4 ?_
          all_goals refine rFa 5 ?_
          all_goals refine rFa 6 ?_
          all_goals refine rLd 7 ?_
          all_goals refine rMv 8 ?_
          all_goals refine rNc 9 ?_
          all_goals refine rFa 10 ?_
          all_goals refine rLd 11 ?_
          all_goals refine rSb 12 ?_
          all_goals (refine rStep (i := 2) ?_; ((try refine qWant ?_); (first | (refine tl_is (.func 24) ?_; refine qC rfl rfl (sects_nat _ n (by omega)) ?_; rintro v ρ' L' hle ⟨rfl, rfl, rfl⟩ <;> (try simp only [List.cons_append, List.nil_append, List.append_eq])) | (refine qEf ?_; try intro _)) <;> ((try simp only [List.cons_append, List.nil_append, List.append_eq]); refine tl_nil ?_; refine rNext ?_)))
          all_goals refine rCm 13 ?_
          all_goals refine rMv 14 ?_
          all_goals (first | refine wSkip 15 ?_ | refine wSkipU 15 ?_ | refine wMv 15 ?_ | (refine tr_guard (t := 31) rfl (fun hb => ?_) (fun hb => ?_) <;> (try simp only [decide_eq_true_eq, decide_eq_false_iff_not, Bool.not_eq_true, Bool.not_eq_false, beq_iff_eq, bne_iff_ne, ne_eq, Bool.not_eq_eq_eq_not, Bool.not_true, Bool.not_false, beq_eq_false_iff_ne, bne_eq_false_iff_eq] at hb) <;> first | refine wSkip 15 ?_ | refine wSkipU 15 ?_ | refine wMv 15 ?_))
          all_goals (first | refine wSkip 16 ?_ | refine wSkipU 16 ?_ | (refine rStep (i := 16) ?_; ((try refine qWant ?_); (first | (refine tl_is (.func 79) ?_; refine qC rfl rfl (hnext) ?_; rintro v ρ' L' hle ⟨rfl, rfl, rfl⟩ <;> (try simp only [List.cons_append, List.nil_append, List.append_eq])) | (refine qEf ?_; try intro _)) <;> ((try simp only [List.cons_append, List.nil_append, List.append_eq]); refine tl_nil ?_; refine rNext ?_))))
          all_goals refine rFull ?_
          all_goals (first | refine wSkip 17 ?_ | refine wSkipU 17 ?_ | refine wCm 17 ?_ | (refine tr_guard (t := 31) rfl (fun hb => ?_) (fun hb => ?_) <;> (try simp only [decide_eq_true_eq, decide_eq_false_iff_not, Bool.not_eq_true, Bool.not_eq_false, beq_iff_eq, bne_iff_ne, ne_eq, Bool.not_eq_eq_eq_not, Bool.not_true, Bool.not_false, beq_eq_false_iff_ne, bne_eq_false_iff_eq] at hb) <;> first | refine wSkip 17 ?_ | refine wSkipU 17 ?_ | refine wCm 17 ?_))
          all_goals refine rPk 18 ?_
          all_goals refine rAs 19 ?_
          all_goals refine rDone ?_
          all_goals (repeat' (first | (refine i_op ?_; first | (refine i_qq ?_; refine qQ ?_) | refine qEf ?_) | refine tl_nil ?_ | (refine i_tc ?_; refine qTc ?_) | (refine i_te ?_; refine qTe ?_) | intro _))
          all_goals exact qE (L' := ringC rb db R w ++ (diskK db k D ++ X)) ⟨rfl, Hp.le_refl _, k, w, hD, h, rfl⟩
        · have hpu : (R.h.place : Int) + (R.used : Int) = ((R.h.place + R.used : Nat) : Int) := by omega
          have hit := fun bb ab hb2 nb => parts_iter ρ X bb ab hb2 nb a n c (R.h.place + R.used) b R.h w.na w.nn w.nc R.next hb hc (by omega) hnx (by omega) (by omega) (by omega) (by omega)
          have hsome : R.append b D = if (DS.lays (partsL R.h R.next b (R.h.place + R.used)) D).2 = 0 then (⟨R.h, R.ents ++ [b], R.used + sects b.length, false⟩, DS.lays (partsL R.h R.next b (R.h.place + R.used)) D) else ({ R with broken := true }, DS.lays (partsL R.h R.next b (R.h.place + R.used)) D) := by
            unfold RgS.append
            rw [hbr, hl, if_neg (by simp), if_neg (by omega), if_neg (by omega)]
          refine spec_enter Try.func25 rfl rfl rfl fun u R0 => ?_
          simp only [argsE, List.cons_append, List.nil_append, List.append_assoc]
          repeat' (first | (refine tl_is (.func 78) ?_; refine qC rfl rfl (hw0) ?_; rintro v ρ' L' hle ⟨rfl, rfl, rfl⟩ <;> (try simp only [List.cons_append, List.nil_append, List.append_eq])) | (refine i_op ?_; first | (refine i_qq ?_; refine qQ ?_) | refine qEf ?_) | refine tl_nil ?_ | (refine i_tc ?_; refine qTc ?_) | (refine i_te ?_; refine qTe ?_) | intro _)
          refine tc_any (Stays _ _ ([[(rb, .cells ⟨rgV R db w⟩ 146 (0, 0))]])) (stays_of (Hp.le_refl _)) ?_
          all_goals refine rMv 0 ?_
          all_goals refine rBi 1 ?_
          all_goals refine rMv 3 ?_
          all_goals refine rNc 4 ?_
          all_goals refine rFa 5 ?_
          all_goals refine rFa 6 ?_
          all_goals refine rLd 7 ?_
          all_goals refine rMv 8 ?_
          all_goals refine rNc 9 ?_
          all_goals refine rFa 10 ?_
          all_goals refine rLd 11 ?_
          all_goals refine rSb 12 ?_
          all_goals (refine rStep (i := 2) ?_; ((try refine qWant ?_); (first | (refine tl_is (.func 24) ?_; refine qC rfl rfl (sects_nat _ n (by omega)) ?_; rintro v ρ' L' hle ⟨rfl, rfl, rfl⟩ <;> (try simp only [List.cons_append, List.nil_append, List.append_eq])) | (refine qEf ?_; try intro _)) <;> ((try simp only [List.cons_append, List.nil_append, List.append_eq]); refine tl_nil ?_; refine rNext ?_)))
          all_goals refine rCm 13 ?_
          all_goals refine rMv 14 ?_
          all_goals (first | refine wSkip 15 ?_ | refine wSkipU 15 ?_ | refine wMv 15 ?_ | (refine tr_guard (t := 31) rfl (fun hb => ?_) (fun hb => ?_) <;> (try simp only [decide_eq_true_eq, decide_eq_false_iff_not, Bool.not_eq_true, Bool.not_eq_false, beq_iff_eq, bne_iff_ne, ne_eq, Bool.not_eq_eq_eq_not, Bool.not_true, Bool.not_false, beq_eq_false_iff_ne, bne_eq_false_iff_eq] at hb) <;> first | refine wSkip 15 ?_ | refine wSkipU 15 ?_ | refine wMv 15 ?_))
          all_goals (first | refine wSkip 16 ?_ | refine wSkipU 16 ?_ | (refine rStep (i := 16) ?_; ((try refine qWant ?_); (first | (refine tl_is (.func 79) ?_; refine qC rfl rfl (hnext) ?_; rintro v ρ' L' hle ⟨rfl, rfl, rfl⟩ <;> (try simp only [List.cons_append, List.nil_append, List.append_eq])) | (refine qEf ?_; try intro _)) <;> ((try simp only [List.cons_append, List.nil_append, List.append_eq]); refine tl_nil ?_; refine rNext ?_))))
          all_goals refine rFull ?_
          all_goals (first | refine wSkip 17 ?_ | refine wSkipU 17 ?_ | refine wCm 17 ?_ | (refine tr_guard (t := 31) rfl (fun hb => ?_) (fun hb => ?_) <;> (try simp only [decide_eq_true_eq, decide_eq_false_iff_not, Bool.not_eq_true, Bool.not_eq_false, beq_iff_eq, bne_iff_ne, ne_eq, Bool.not_eq_eq_eq_not, Bool.not_true, Bool.not_false, beq_eq_false_iff_ne, bne_eq_false_iff_eq] at hb) <;> first | refine wSkip 17 ?_ | refine wSkipU 17 ?_ | refine wCm 17 ?_))
          all_goals refine rPk 18 ?_
          all_goals refine rAs 19 ?_
          all_goals refine rDone ?_
          all_goals (repeat' (first | (refine i_op ?_; first | (refine i_qq ?_; refine qQ ?_) | refine qEf ?_) | refine tl_nil ?_ | (refine i_tc ?_; refine qTc ?_) | (refine i_te ?_; refine qTe ?_) | intro _))
          refine tc_any (Stays _ _ ([[(rb, .cells ⟨rgV R db w⟩ 146 (0, 0))]])) (stays_of (Hp.le_refl _)) ?_
          all_goals refine rMv 0 ?_
          all_goals refine rNc 1 ?_
          all_goals refine rFa 2 ?_
          all_goals refine rLd 3 ?_
          all_goals refine rMv 4 ?_
          all_goals refine rNc 5 ?_
          all_goals refine rFa 6 ?_
          all_goals refine rLd 7 ?_
          all_goals refine rMv 8 ?_
          all_goals refine rMv 10 ?_
          all_goals refine rMv 11 ?_
          all_goals refine rNc 12 ?_
          all_goals refine rFa 13 ?_
          all_goals refine rFa 14 ?_
          all_goals refine rLd 15 ?_
          all_goals refine rMv 16 ?_
          all_goals refine rNc 17 ?_
          all_goals refine rFa 18 ?_
          all_goals refine rLd 19 ?_
          all_goals refine rAd 20 ?_
          all_goals (refine rStep (i := 9) ?_; ((try refine qWant ?_); (first | (refine tl_is (.func 79) ?_; refine qC rfl rfl (hnext) ?_; rintro v ρ' L' hle ⟨rfl, rfl, rfl⟩ <;> (try simp only [List.cons_append, List.nil_append, List.append_eq, hpu])) | (refine qEf ?_; try intro _)) <;> ((try simp only [List.cons_append, List.nil_append, List.append_eq]); refine tl_nil ?_; refine rNext ?_)))
          all_goals (refine rStep (i := 21) ?_; ((try refine qWant ?_); (first | (refine tl_is (.func 81) ?_; refine qC rfl rfl (partsF_spec _ R.h w.na w.nn w.nc R.next a n c (R.h.place + R.used)) ?_; rintro v ρ' L' hle ⟨rfl, bb, ab, hb2, nb, rfl, rfl⟩ <;> (try simp only [List.cons_append, List.nil_append, List.append_eq])) | (refine qEf ?_; try intro _)) <;> ((try simp only [List.cons_append, List.nil_append, List.append_eq]); refine tl_nil ?_; refine rNext ?_)))
          all_goals (refine rStep (i := 22) ?_; ((try refine qWant ?_); (first | (refine tl_is (.func 80) ?_; refine qC rfl rfl (lays_spec _ _ _ _ _ _ (Hp.le_refl _) (hit bb ab hb2 nb) partsL_len db k D hD) ?_; rintro v6 ρ6 L6 hle6 ⟨rfl, hl6, k6, hD6, rfl⟩; simp only [List.cons_append, List.nil_append, List.append_assoc]) | (refine qEf ?_; try intro _)) <;> ((try simp only [List.cons_append, List.nil_append, List.append_eq]); refine tl_nil ?_; refine rNext ?_)))
          all_goals refine rFull ?_
          all_goals refine rAs 23 ?_
          all_goals refine rDone ?_
          all_goals (repeat' (first | (refine i_op ?_; first | (refine i_qq ?_; refine qQ ?_) | refine qEf ?_) | refine tl_nil ?_ | (refine i_tc ?_; refine qTc ?_) | (refine i_te ?_; refine qTe ?_) | intro _))
          have hlm := h.mono hl6
          have hbm := hb.mono hl6
          rw [hsome]
          generalize DS.lays (partsL R.h R.next b (R.h.place + R.used)) D = r at *
          obtain ⟨D', ec⟩ := r
          dsimp only at hD6 ⊢
          by_cases hz : ec = 0
          · subst hz
            rw [show ((0 : Int) != 0) = false from rfl, if_pos rfl]
            repeat' (first | (refine tl_is (.func 83) ?_; refine qC rfl rfl (cloneR_spec _ X a n c b hbm hbig) ?_; rintro v7 ρ7 L7 hle7 ⟨hl7, e, rfl, he, hel, hen, rfl⟩; subst hel; simp only [List.cons_append, List.nil_append]) | (refine tl_is (.func 82) ?_; refine qC rfl rfl (adds_spec _ rb db { R with broken := false } w ((hlm.mono hl7).broken false) e he (by omega) (by rw [hen]; dsimp only; omega) (by have : RgS.next { R with broken := false } = R.next := rfl; omega)) ?_; rintro v8 ρ8 L8 hle8 ⟨rfl, rfl, ev8, sp8, hin8, rfl⟩; simp only [List.cons_append, List.nil_append]) | (refine i_op ?_; first | (refine i_qq ?_; refine qQ ?_) | refine qEf ?_) | refine tl_nil ?_ | (refine i_tc ?_; refine qTc ?_) | (refine i_te ?_; refine qTe ?_) | intro _)
            exact qE (L' := ringC rb db (RgS.adds { R with broken := false } e.l) ⟨w.na, w.nn, w.nc, ev8, w.els ++ [e], sp8⟩ ++ (diskK db k6 D' ++ _)) ⟨rfl, Hp.le_trans hl6 hl7, k6, _, hD6, hin8, rfl⟩
          · have hcb : (ec != 0) = true := by simpa using hz
            rw [hcb, if_neg hz]
            repeat' (first | (refine i_op ?_; first | (refine i_qq ?_; refine qQ ?_) | refine qEf ?_) | refine tl_nil ?_ | (refine i_tc ?_; refine qTc ?_) | (refine i_te ?_; refine qTe ?_) | intro _)
            exact qE (L' := ringC rb db { R with broken := true } w ++ (diskK db k6 D' ++ X)) ⟨rfl, hl6, k6, w, hD6, hlm.broken true, rfl⟩
end Go.Proofs.E

namespace Go.Proofs.E
open Go
set_option linter.unusedVariables false
set_option linter.unusedSimpArgs false
set_option linter.unusedSectionVars false
set_option maxRecDepth 4000
set_option maxHeartbeats 1000000
attribute [local irreducible] Yl TL TC TE Spec YSpec R1 Hp.le EnvLe TS TR YS Stays
theorem usedL_take_succ (l : List Bs) (k : Nat) (h : k < l.length) : usedL (l.take (k + 1)) = usedL (l.take k) + sects l[k].length := by
  rw [List.take_succ_eq_append_getElem h, usedL_append]; simp [usedL]
theorem RIn.at {ρ : Hp} {R : RgS} {w : RW} (h : RIn ρ R w) {k : Nat} (hk : k < w.els.length) : (w.els[k]).l = R.ents[k]'(by rw [← h.len]; exact hk) ∧ BIn ρ w.els[k] ∧ (w.els[k]).n ≤ 8000 := by
  have hb := h.els _ (List.getElem_mem hk)
  have hl := hb.s.len
  have hlong := h.ok.long
  have he : (w.els[k]).l = R.ents[k]'(by rw [← h.len]; exact hk) := by simp [h.ents]
  refine ⟨he, hb, ?_⟩
  rw [← hl, he]; exact hlong _ (List.getElem_mem _)
/-- a copy of a part of the entries -/
theorem clone2_spec (ρ : Hp) (a : Option Addr) (n c off : Nat) (T : TypeId) (xs sp : List Value) (X : SH) (b : Nat) (cap : Nat) (els : List BSl) (hn : n ≤ 1000000) (hlen : els.length = n) (ha : a = some ⟨b, off, none⟩) (hX : X = [[(b, .cells ⟨xs⟩ T (0, 0))]]) (hx : (xs.drop off).take n = els.map slv) :
    Spec Try.prog 85 [.slice a n c] ρ X (fun v ρ' L' => ρ' = ρ ∧ ∃ sp', OwnS v n (els.map slv) sp' 1 ∧ L' = X ++ [ownC v (els.map slv) sp' 22]) := by
  subst ha; subst hX
  refine spec_enter Try.func85 rfl rfl rfl fun u R => ?_
  simp only [argsE, List.cons_append, List.nil_append]
  repeat' (first | (refine i_op ?_; first | (refine i_qq ?_; refine qQ ?_) | refine qEf ?_) | refine tl_nil ?_ | (refine i_tc ?_; refine qTc ?_) | (refine i_te ?_; refine qTe ?_) | intro _)
  refine tl_app (n := 0) (xs := []) (sp := []) (ys := els.map slv) (sz := 1) rfl rfl (OwnS.zero _ 1) (hR := rem_here') (SrcV.find (n := n) hx) (by simpa using hlen) (slv_one els) (by decide) rfl (by omega) (by omega) rfl (fun v' sp' hown' => ?_)
  simp only [Nat.zero_add, List.nil_append] at hown' ⊢
  repeat' (first | (refine i_op ?_; first | (refine i_qq ?_; refine qQ ?_) | refine qEf ?_) | refine tl_nil ?_ | (refine i_tc ?_; refine qTc ?_) | (refine i_te ?_; refine qTe ?_) | intro _)
  exact qE (L' := [[(b, .cells ⟨xs⟩ T (0, 0))], ownC v' (els.map slv) sp' 22]) ⟨rfl, sp', hown', rfl⟩
theorem clone2_nil (ρ : Hp) (n c : Nat) : Spec Try.prog 85 [.slice none n c] ρ [] (fun v ρ' L' => v = .slice none 0 0 ∧ ρ' = ρ ∧ L' = []) := by
  refine spec_enter Try.func85 rfl rfl rfl fun u R => ?_
  simp only [argsE, List.cons_append, List.nil_append]
  repeat' (first | (refine i_op ?_; first | (refine i_qq ?_; refine qQ ?_) | refine qEf ?_) | refine tl_nil ?_ | (refine i_tc ?_; refine qTc ?_) | (refine i_te ?_; refine qTe ?_) | intro _)
  exact qE ⟨rfl, rfl, rfl⟩
end Go.Proofs.E

namespace Go.Proofs.E
open Go
set_option linter.unusedVariables false
set_option linter.unusedSimpArgs false
set_option linter.unusedSectionVars false
set_option maxRecDepth 4000
set_option maxHeartbeats 1000000
attribute [local irreducible] Yl TL TC TE Spec YSpec R1 Hp.le EnvLe TS TR YS Stays
theorem cut_spec_early (ρ : Hp) (rb db : Nat) (R : RgS) (w : RW) (h : RIn ρ R w) (k : DK) (D : DS) (hD : DOk k D) (X : SH) (a : Option Addr) (nn c : Nat) (note : Bs) (hb : Rd ρ X a nn note) (n : Int) (hn : -9223372036854775808 ≤ n ∧ n ≤ 9223372036854775807)
    (hbad : R.broken = true ∨ (n < 0 ∨ (R.ents.length : Int) < n ∨ R.h.turn = 1073741824) ∨ 32 < note.length) :
    Spec Try.prog 27 [.pointer (some ⟨rb, 0, none⟩), .int .i64 n, .slice a nn c] ρ (ringC rb db R w ++ (diskK db k D ++ X))
      (fun v ρ' L' => v = .int .i64 (R.cut n note D).2.2 ∧ ρ' = ρ ∧ (R.cut n note D).2.1 = D ∧ (R.cut n note D).1 = R ∧ L' = ringC rb db R w ++ (diskK db k D ++ X)) := by
  have hl := hb.len
  have hlen := h.len
  obtain ⟨ea, ecap, hev, _⟩ := h.own.len
  obtain ⟨wna, wnn, wnc, wev, els, sp⟩ := w
  dsimp only at hev hlen
  subst hev
  cases hbr : R.broken with
  | true =>
    have he : R.cut n note D = (R, D, 8) := by simp [RgS.cut, hbr]
    rw [he]
    have hw8 := works_spec ρ rb db R ⟨wna, wnn, wnc, .slice ea els.length ecap, els, sp⟩
    rw [hbr] at hw8
    simp only [if_true] at hw8
    refine spec_enter Try.func27 rfl rfl rfl fun u R0 => ?_
    simp only [argsE, List.cons_append, List.nil_append, List.append_assoc]
    repeat' (first | (refine tl_is (.func 78) ?_; refine qC rfl rfl (hw8) ?_; rintro v ρ' L' hle ⟨rfl, rfl, rfl⟩ <;> (try simp only [List.cons_append, List.nil_append, List.append_eq])) | (refine i_op ?_; first | (refine i_qq ?_; refine qQ ?_) | refine qEf ?_) | refine tl_nil ?_ | (refine i_tc ?_; refine qTc ?_) | (refine i_te ?_; refine qTe ?_) | intro _)
    exact qE (L' := ringC rb db R ⟨wna, wnn, wnc, .slice ea els.length ecap, els, sp⟩ ++ (diskK db k D ++ X)) ⟨rfl, rfl, trivial, trivial, rfl⟩
  | false =>
    have hw0 := works_spec ρ rb db R ⟨wna, wnn, wnc, .slice ea els.length ecap, els, sp⟩
    rw [hbr] at hw0
    simp only [Bool.false_eq_true, if_false] at hw0
    by_cases harg : n < 0 ∨ (R.ents.length : Int) < n ∨ R.h.turn = 1073741824
    · have he : R.cut n note D = (R, D, 2) := by unfold RgS.cut; rw [hbr, if_neg (by simp), if_pos harg]
      rw [he]
      by_cases h1 : n < 0
      · refine spec_enter Try.func27 rfl rfl rfl fun u R0 => ?_
        simp only [argsE, List.cons_append, List.nil_append, List.append_assoc]
        repeat' (first | (refine tl_is (.func 78) ?_; refine qC rfl rfl (hw0) ?_; rintro v ρ' L' hle ⟨rfl, rfl, rfl⟩ <;> (try simp only [List.cons_append, List.nil_append, List.append_eq])) | (refine i_op ?_; first | (refine i_qq ?_; refine qQ ?_) | refine qEf ?_) | refine tl_nil ?_ | (refine i_tc ?_; refine qTc ?_) | (refine i_te ?_; refine qTe ?_) | intro _)
        exact qE (L' := ringC rb db R ⟨wna, wnn, wnc, .slice ea els.length ecap, els, sp⟩ ++ (diskK db k D ++ X)) ⟨rfl, rfl, trivial, trivial, rfl⟩
      · by_cases h2 : (R.ents.length : Int) < n
        · refine spec_enter Try.func27 rfl rfl rfl fun u R0 => ?_
          simp only [argsE, List.cons_append, List.nil_append, List.append_assoc]
          repeat' (first | (refine tl_is (.func 78) ?_; refine qC rfl rfl (hw0) ?_; rintro v ρ' L' hle ⟨rfl, rfl, rfl⟩ <;> (try simp only [List.cons_append, List.nil_append, List.append_eq])) | (refine i_op ?_; first | (refine i_qq ?_; refine qQ ?_) | refine qEf ?_) | refine tl_nil ?_ | (refine i_tc ?_; refine qTc ?_) | (refine i_te ?_; refine qTe ?_) | intro _)
          exact qE (L' := ringC rb db R ⟨wna, wnn, wnc, .slice ea els.length ecap, els, sp⟩ ++ (diskK db k D ++ X)) ⟨rfl, rfl, trivial, trivial, rfl⟩
        · have h3 : R.h.turn = 1073741824 := by omega
          refine spec_enter Try.func27 rfl rfl rfl fun u R0 => ?_
          simp only [argsE, List.cons_append, List.nil_append, List.append_assoc]
          repeat' (first | (refine tl_is (.func 78) ?_; refine qC rfl rfl (hw0) ?_; rintro v ρ' L' hle ⟨rfl, rfl, rfl⟩ <;> (try simp only [List.cons_append, List.nil_append, List.append_eq])) | (refine i_op ?_; first | (refine i_qq ?_; refine qQ ?_) | refine qEf ?_) | refine tl_nil ?_ | (refine i_tc ?_; refine qTc ?_) | (refine i_te ?_; refine qTe ?_) | intro _)
          exact qE (L' := ringC rb db R ⟨wna, wnn, wnc, .slice ea els.length ecap, els, sp⟩ ++ (diskK db k D ++ X)) ⟨rfl, rfl, trivial, trivial, rfl⟩
    · have hlong : 32 < note.length := by
        rcases hbad with h | h | h
        · rw [hbr] at h; cases h
        · exact absurd h harg
        · exact h
      have hne : R.h.turn ≠ 1073741824 := fun e => harg (.inr (.inr e))
      have he : R.cut n note D = (R, D, 3) := by unfold RgS.cut; rw [hbr, if_neg (by simp), if_neg harg, if_pos hlong]
      rw [he]
      refine spec_enter Try.func27 rfl rfl rfl fun u R0 => ?_
      simp only [argsE, List.cons_append, List.nil_append, List.append_assoc]
      repeat' (first | (refine tl_is (.func 78) ?_; refine qC rfl rfl (hw0) ?_; rintro v ρ' L' hle ⟨rfl, rfl, rfl⟩ <;> (try simp only [List.cons_append, List.nil_append, List.append_eq])) | (refine i_op ?_; first | (refine i_qq ?_; refine qQ ?_) | refine qEf ?_) | refine tl_nil ?_ | (refine i_tc ?_; refine qTc ?_) | (refine i_te ?_; refine qTe ?_) | intro _)
      exact qE (L' := ringC rb db R ⟨wna, wnn, wnc, .slice ea els.length ecap, els, sp⟩ ++ (diskK db k D ++ X)) ⟨rfl, rfl, trivial, trivial, rfl⟩
end Go.Proofs.E

namespace Go.Proofs.E
open Go
set_option linter.unusedVariables false
set_option linter.unusedSimpArgs false
set_option linter.unusedSectionVars false
set_option maxRecDepth 4000
set_option maxHeartbeats 1000000
attribute [local irreducible] Yl TL TC TE Spec YSpec R1 Hp.le EnvLe TS TR YS Stays
theorem RIn.cutOk {ρ : Hp} {R : RgS} {w : RW} (h : RIn ρ R w) {n : Nat} {note : Bs} (hn : n ≤ R.ents.length) (ht : R.h.turn < 1073741824) (hnl : note.length ≤ 32) {e : BSl} (he : BIn ρ e) (hel : e.l = note) {v : Value} {sp : List Value} (ho : OwnS v (w.els.length - n) ((w.els.drop n).map slv) sp 1) :
    RIn ρ ⟨R.cutH n note, R.ents.drop n, R.used - usedL (R.ents.take n), false⟩ ⟨e.a, e.n, e.c, v, w.els.drop n, sp⟩ := by
  have hsz := h.ok.size
  have hlen := h.len
  have hus := h.ok.used
  have hft := h.ok.fit
  have htd := usedL_take_drop R.ents n
  have hnx := h.ok.next
  have hfi := h.ok.first
  have htu := h.ok.turn
  subst hel
  unfold RgS.next at hnx
  refine ⟨⟨⟨?_, ?_⟩, hsz, ?_, ?_, Nat.mod_lt _ (by omega), hnl, ?_, ?_, fun c hc => h.ok.long c (List.mem_of_mem_drop hc)⟩, he.s, he.le, by simpa using ho, ?_, fun x hx => h.els x (List.mem_of_mem_drop hx)⟩
  all_goals dsimp only [RgS.cutH, Hd.cut, RgS.next]
  any_goals simp only [List.length_drop]
  any_goals omega
  rw [h.ents, List.map_drop]
theorem cut_spec_main (ρ : Hp) (rb db : Nat) (R : RgS) (w : RW) (h : RIn ρ R w) (k : DK) (D : DS) (hD : DOk k D) (X : SH) (a : Option Addr) (nn c : Nat) (note : Bs) (hb : Rd ρ X a nn note) (m : Nat) (hbr : R.broken = false) (hm : m ≤ R.ents.length) (ht : R.h.turn < 1073741824) (hnl : note.length ≤ 32) :
    Spec Try.prog 27 [.pointer (some ⟨rb, 0, none⟩), .int .i64 m, .slice a nn c] ρ (ringC rb db R w ++ (diskK db k D ++ X))
      (fun v ρ' L' => v = .int .i64 (R.cut m note D).2.2 ∧ ρ.le ρ' ∧ ∃ k' w', DOk k' (R.cut m note D).2.1 ∧ RIn ρ' (R.cut m note D).1 w' ∧ L' = ringC rb db (R.cut m note D).1 w' ++ (diskK db k' (R.cut m note D).2.1 ++ X)) := by
  have hl := hb.len
  have hlen := h.len
  have hsz := h.ok.size
  have hus := h.ok.used
  have hft := h.ok.fit
  have hnx := h.ok.next
  have hfi := h.ok.first
  have hpl := h.ok.place
  have hul := usedL_len R.ents
  have htd := usedL_take_drop R.ents m
  have hsome : R.cut m note D = if (DS.lays (headL (R.cutH m note)) D).2 = 0 then (⟨R.cutH m note, R.ents.drop m, R.used - usedL (R.ents.take m), false⟩, DS.lays (headL (R.cutH m note)) D) else ({ R with broken := true }, DS.lays (headL (R.cutH m note)) D) := by
    unfold RgS.cut
    rw [hbr, if_neg (by simp), if_neg (by omega), if_neg (by omega)]
    simp only [Int.toNat_natCast]
  have e1 : (R.h.turn : Int) + 1 = ((R.cutH m note).turn : Int) := by simp [RgS.cutH, Hd.cut]
  have e2 : (R.h.first : Int) + (m : Int) = ((R.cutH m note).first : Int) := by simp [RgS.cutH, Hd.cut]
  have e3 : ((R.h.place : Int) + ((usedL (R.ents.take m) : Nat) : Int)).tmod (R.h.size : Int) = ((R.cutH m note).place : Int) := by
    rw [Int.tmod_eq_emod_of_nonneg (by omega)]; simp [RgS.cutH, Hd.cut]
  have hfj : (R.h.first : Int) + (m : Int) ≤ 1099511627776 := by unfold RgS.next at hnx; omega
  have e4 : (R.used : Int) - ((usedL (R.ents.take m) : Nat) : Int) = ((R.used - usedL (R.ents.take m) : Nat) : Int) := by omega
  have hcl : (R.cutH m note).turn < 4294967296 ∧ (R.cutH m note).first ≤ 1099511627776 ∧ (R.cutH m note).size < 65536 ∧ (R.cutH m note).place < 65536 := by
    have := Nat.mod_lt (R.h.place + usedL (R.ents.take m)) (show 0 < R.h.size by omega)
    dsimp only [RgS.cutH, Hd.cut]; omega
  have hw0 := works_spec ρ rb db R w
  rw [hbr] at hw0
  simp only [Bool.false_eq_true, if_false] at hw0
  have hall := fun {j : Nat} (hj : j < w.els.length) => h.at hj
  have hcutok := fun {ρ2 : Hp} (hle : ρ.le ρ2) {e : BSl} (he : BIn ρ2 e) (hel : e.l = note) {v : Value} {sp : List Value} ho => (h.mono hle).cutOk (v := v) (sp := sp) hm ht hnl he hel ho
  have hbrk := fun {ρ2 : Hp} (hle : ρ.le ρ2) => (h.mono hle).broken true
  rcases h.own.out with ⟨hev, h0, h1, h2⟩ | ⟨bx, cap, hev, g1, g2, g3⟩
  · obtain ⟨wna, wnn, wnc, wev, els, sp⟩ := w
    dsimp only at hev h0 h1 h2 hlen hcutok hbrk hw0 ⊢
    subst hev
    subst h2
    have hels : els = [] := List.eq_nil_of_length_eq_zero h0
    subst hels
    have hm0 : m = 0 := by simp at hlen; omega
    subst hm0
    simp only [ringC, ownC]
    refine spec_enter Try.func27 rfl rfl rfl fun u R0 => ?_
    simp only [argsE, List.cons_append, List.nil_append, List.append_assoc]
    repeat' (first | (refine tl_is (.func 78) ?_; refine qC rfl rfl (hw0) ?_; rintro v ρ' L' hle ⟨rfl, rfl, rfl⟩ <;> (try simp only [List.cons_append, List.nil_append, List.append_eq])) | (refine i_op ?_; first | (refine i_qq ?_; refine qQ ?_) | refine qEf ?_) | refine tl_nil ?_ | (refine i_tc ?_; refine qTc ?_) | (refine i_te ?_; refine qTe ?_) | intro _)
    refine tc_loop_g [(0, _), (1, _), (2, _), (6, _), (7, _), (47, _), (48, _)] (fun (ζ : (Nat)) => [(49, .int .i64 ζ), (8, .int .i64 (usedL (R.ents.take ζ) : Nat))]) (fun (ζ : (Nat)) => ρ') (fun (ζ : (Nat)) => []) (fun (ζ : (Nat)) => ζ = 0) (fun (ζ : (Nat)) => 0) (0) (rfl) ev_le ev_le rfl tk ?_
    rintro j hI
    try simp only [List.cons_append, List.nil_append, List.append_assoc, List.append_eq] at hI ⊢
    try dsimp only at hI ⊢
    subst hI
    repeat' (first | (refine i_op ?_; first | (refine i_qq ?_; refine qQ ?_) | refine qEf ?_) | refine tl_nil ?_ | (refine i_tc ?_; refine qTc ?_) | (refine i_te ?_; refine qTe ?_) | intro _)
    refine tc_any (Stays _ _ ([[(rb, .cells ⟨rgV R db ⟨wna, wnn, wnc, .slice none 0 0, [], []⟩⟩ 146 (0, 0))]])) (stays_of (hT := tk) (Hp.le_refl _)) ?_
    all_goals refine rMv 0 ?_
    all_goals refine rNc 1 ?_
    all_goals refine rFa 2 ?_
    all_goals refine rFa 3 ?_
    all_goals refine rLd 4 ?_
    all_goals refine rAd 5 ?_
    all_goals refine rMv 6 ?_
    all_goals refine rNc 7 ?_
    all_goals refine rFa 8 ?_
    all_goals refine rFa 9 ?_
    all_goals refine rLd 10 ?_
    all_goals refine rMv 11 ?_
    all_goals refine rCv 12 ?_
    all_goals refine rAd 13 ?_
    all_goals refine rMv 14 ?_
    all_goals refine rNc 15 ?_
    all_goals refine rFa 16 ?_
    all_goals refine rFa 17 ?_
    all_goals refine rLd 18 ?_
    all_goals refine rMv 19 ?_
    all_goals refine rNc 20 ?_
    all_goals refine rFa 21 ?_
    all_goals refine rFa 22 ?_
    all_goals refine rLd 23 ?_
    all_goals refine rMv 24 ?_
    all_goals refine rAd 25 ?_
    all_goals refine rMv 26 ?_
    all_goals refine rNc 27 ?_
    all_goals refine rFa 28 ?_
    all_goals refine rFa 29 ?_
    all_goals refine rLd 30 ?_
    all_goals refine rRm 31 ?_
    all_goals refine rMv 32 ?_
    all_goals (refine rStep2 (i := 33) (j := 35) ?_ ?_ <;> ((try refine qWant ?_); (first | (refine tl_is (.func 83) ?_; refine qC rfl rfl (cloneR_spec _ X a nn c note (hb.mono (by assumption)) (by omega)) ?_; rintro v7 ρ7 L7 hle7 ⟨hl7, e, rfl, he, hel, hen, rfl⟩; simp only [List.cons_append, List.nil_append]) | (refine qEf ?_; try intro _)) <;> ((try simp only [List.cons_append, List.nil_append, List.append_eq]); refine tl_nil ?_; refine rNext ?_)))
    all_goals (first | refine rBu 34 ?_ | (refine rStep (i := 33) ?_; ((try refine qWant ?_); (first | (refine tl_is (.func 83) ?_; refine qC rfl rfl (cloneR_spec _ X a nn c note (hb.mono (by assumption)) (by omega)) ?_; rintro v7 ρ7 L7 hle7 ⟨hl7, e, rfl, he, hel, hen, rfl⟩; simp only [List.cons_append, List.nil_append]) | (refine qEf ?_; try intro _)) <;> ((try simp only [List.cons_append, List.nil_append, List.append_eq]); refine tl_nil ?_; refine rNext ?_))))
    all_goals (first | (refine rStep (i := 35) ?_; ((try refine qWant ?_); (first | (refine qEf ?_; try intro _)) <;> ((try simp only [List.cons_append, List.nil_append, List.append_eq]); refine tl_nil ?_; refine rNext ?_))) | refine rBu 34 ?_)
    all_goals (refine rStep (i := 36) ?_; ((try refine qWant ?_); (first | (refine qEf ?_; try intro _)) <;> ((try simp only [List.cons_append, List.nil_append, List.append_eq]); refine tl_nil ?_; refine rNext ?_)))
    all_goals refine rDone ?_
    all_goals (repeat' (first | (refine i_op ?_; first | (refine i_qq ?_; refine qQ ?_) | refine qEf ?_) | refine tl_nil ?_ | (refine i_tc ?_; refine qTc ?_) | (refine i_te ?_; refine qTe ?_) | intro _))
    all_goals
      simp only [e1, e2, e3]
      rename_i bh
      have hls := laid_spec ρ7 (R.cutH 0 note) e.a e.n e.c (by have := he.s; rw [hel] at this; exact this) hcl.1 hcl.2.1 hcl.2.2.1 hcl.2.2.2 (by rw [hen]; omega) db k D hD
      refine tc_any (Stays _ _ ([[(bh, .cells ⟨hdV (R.cutH 0 note) e.a e.n e.c⟩ 144 (0, 0))], [(rb, .cells ⟨rgV R db ⟨wna, wnn, wnc, .slice none 0 0, [], []⟩⟩ 146 (0, 0))]])) (stays_of (hT := tk) (Hp.le_refl _)) ?_
      all_goals refine rLd 0 ?_
      all_goals refine rMv 1 ?_
      all_goals refine rNc 2 ?_
      all_goals refine rFa 3 ?_
      all_goals refine rLd 4 ?_
      all_goals (refine rStep (i := 5) ?_; ((try refine qWant ?_); (first | (refine tl_is (.func 84) ?_; refine qC rfl rfl hls ?_; rintro v8 ρ8 L8 hle8 ⟨rfl, hl8, k8, hD8, rfl⟩; try simp only [List.cons_append, List.nil_append, List.append_assoc]) | (refine qEf ?_; try intro _)) <;> ((try simp only [List.cons_append, List.nil_append, List.append_eq]); refine tl_nil ?_; refine rNext ?_)))
      all_goals refine rFull ?_
      all_goals refine rAs 6 ?_
      all_goals refine rDone ?_
      all_goals (repeat' (first | (refine i_op ?_; first | (refine i_qq ?_; refine qQ ?_) | refine qEf ?_) | refine tl_nil ?_ | (refine i_tc ?_; refine qTc ?_) | (refine i_te ?_; refine qTe ?_) | intro _))
      have hhe := fun (v : Value) (sp : List Value) ho => hcutok (Hp.le_trans hl7 hl8) (he.mono hl8) hel (v := v) (sp := sp) ho
      have hbk := hbrk (Hp.le_trans hl7 hl8)
      rw [hsome]
      generalize DS.lays (headL (R.cutH 0 note)) D = r at *
      obtain ⟨D', ec⟩ := r
      dsimp only at hD8 ⊢
      by_cases hz : ec = 0
      · subst hz
        rw [show ((0 : Int) != 0) = false from rfl, if_pos rfl]
        repeat' (first | (refine i_op ?_; first | (refine i_qq ?_; refine qQ ?_) | refine qEf ?_) | refine tl_nil ?_ | (refine i_tc ?_; refine qTc ?_) | (refine i_te ?_; refine qTe ?_) | intro _)
        refine tc_any (Stays _ _ ([[(bh, .cells ⟨hdV (R.cutH 0 note) e.a e.n e.c⟩ 144 (0, 0))]])) (stays_of (hT := tk) (Hp.le_refl _)) ?_
        all_goals refine rMv 0 ?_
        all_goals refine rMv 1 ?_
        all_goals refine rMv 2 ?_
        all_goals refine rLd 3 ?_
        all_goals refine rMv 4 ?_
        all_goals refine rNc 5 ?_
        all_goals refine rFa 6 ?_
        all_goals refine rMv 8 ?_
        all_goals refine rMv 11 ?_
        all_goals refine rNc 12 ?_
        all_goals refine rFa 13 ?_
        all_goals refine rMv 15 ?_
        all_goals (refine rStep2 (i := 7) (j := 14) ?_ ?_ <;> ((try refine qWant ?_); (first | (refine tl_is (.func 85) ?_; refine qC rfl rfl (clone2_nil _ _ _) ?_; rintro v9 ρ9 L9 hle9 ⟨rfl, rfl, rfl⟩; try simp only [List.cons_append, List.nil_append]) | (refine i_qq ?_; refine qQ ?_) | (refine qEf ?_; try intro _)) <;> ((try simp only [List.cons_append, List.nil_append, List.append_eq]); refine tl_nil ?_; refine rNext ?_)))
        all_goals (first | refine rSl 9 ?_ | refine rSb 16 ?_)
        all_goals (first | (refine rStep2 (i := 10) (j := 14) ?_ ?_ <;> ((try refine qWant ?_); (first | (refine tl_is (.func 85) ?_; refine qC rfl rfl (clone2_nil _ _ _) ?_; rintro v9 ρ9 L9 hle9 ⟨rfl, rfl, rfl⟩; try simp only [List.cons_append, List.nil_append]) | (refine i_qq ?_; refine qQ ?_) | (refine qEf ?_; try intro _)) <;> ((try simp only [List.cons_append, List.nil_append, List.append_eq]); refine tl_nil ?_; refine rNext ?_))) | (refine rStep (i := 7) ?_; ((try refine qWant ?_); (first | (refine tl_is (.func 85) ?_; refine qC rfl rfl (clone2_nil _ _ _) ?_; rintro v9 ρ9 L9 hle9 ⟨rfl, rfl, rfl⟩; try simp only [List.cons_append, List.nil_append]) | (refine i_qq ?_; refine qQ ?_) | (refine qEf ?_; try intro _)) <;> ((try simp only [List.cons_append, List.nil_append, List.append_eq]); refine tl_nil ?_; refine rNext ?_))))
        all_goals (first | (refine rStep (i := 14) ?_; ((try refine qWant ?_); (first | (refine tl_is (.func 85) ?_; refine qC rfl rfl (clone2_nil _ _ _) ?_; rintro v9 ρ9 L9 hle9 ⟨rfl, rfl, rfl⟩; try simp only [List.cons_append, List.nil_append]) | (refine i_qq ?_; refine qQ ?_) | (refine qEf ?_; try intro _)) <;> ((try simp only [List.cons_append, List.nil_append, List.append_eq]); refine tl_nil ?_; refine rNext ?_))) | refine rSb 16 ?_ | refine rSl 9 ?_)
        all_goals (first | refine rSb 16 ?_ | (refine rStep (i := 10) ?_; ((try refine qWant ?_); (first | (refine tl_is (.func 85) ?_; refine qC rfl rfl (clone2_nil _ _ _) ?_; rintro v9 ρ9 L9 hle9 ⟨rfl, rfl, rfl⟩; try simp only [List.cons_append, List.nil_append]) | (refine i_qq ?_; refine qQ ?_) | (refine qEf ?_; try intro _)) <;> ((try simp only [List.cons_append, List.nil_append, List.append_eq]); refine tl_nil ?_; refine rNext ?_))))
        all_goals refine rNc 17 ?_
        all_goals refine rFa 18 ?_
        all_goals (refine rStep (i := 19) ?_; ((try refine qWant ?_); (first | (refine i_qq ?_; refine qQ ?_) | (refine qEf ?_; try intro _)) <;> ((try simp only [List.cons_append, List.nil_append, List.append_eq]); refine tl_nil ?_; refine rNext ?_)))
        all_goals refine rNc 20 ?_
        all_goals refine rFa 21 ?_
        all_goals (refine rStep (i := 22) ?_; ((try refine qWant ?_); (first | (refine i_qq ?_; refine qQ ?_) | (refine qEf ?_; try intro _)) <;> ((try simp only [List.cons_append, List.nil_append, List.append_eq]); refine tl_nil ?_; refine rNext ?_)))
        all_goals refine rNc 23 ?_
        all_goals refine rFa 24 ?_
        all_goals (refine rStep (i := 25) ?_; ((try refine qWant ?_); (first | (refine i_qq ?_; refine qQ ?_) | (refine qEf ?_; try intro _)) <;> ((try simp only [List.cons_append, List.nil_append, List.append_eq]); refine tl_nil ?_; refine rNext ?_)))
        all_goals refine rDone ?_
        all_goals (repeat' (first | (refine i_op ?_; first | (refine i_qq ?_; refine qQ ?_) | refine qEf ?_) | refine tl_nil ?_ | (refine i_tc ?_; refine qTc ?_) | (refine i_te ?_; refine qTe ?_) | intro _))
        all_goals simp only [e4]
        all_goals exact qE (L' := ringC rb db ⟨R.cutH 0 note, R.ents.drop 0, R.used - usedL (R.ents.take 0), false⟩ ⟨e.a, e.n, e.c, .slice none 0 0, [].drop 0, []⟩ ++ (diskK db k8 D' ++ L7)) ⟨rfl, Hp.le_trans hl7 hl8, k8, _, hD8, hhe _ [] (OwnS.nil 1), rfl⟩
      · have hcb : (ec != 0) = true := by simpa using hz
        rw [hcb, if_neg hz]
        repeat' (first | (refine i_op ?_; first | (refine i_qq ?_; refine qQ ?_) | refine qEf ?_) | refine tl_nil ?_ | (refine i_tc ?_; refine qTc ?_) | (refine i_te ?_; refine qTe ?_) | intro _)
        exact qE (L' := ringC rb db { R with broken := true } ⟨wna, wnn, wnc, .slice none 0 0, [], []⟩ ++ (diskK db k8 D' ++ L7)) ⟨rfl, Hp.le_trans hl7 hl8, k8, _, hD8, hbk, rfl⟩
  · obtain ⟨wna, wnn, wnc, wev, els, sp⟩ := w
    dsimp only at hev g1 g2 g3 hlen hall hcutok hbrk hw0 ⊢
    subst hev
    simp only [ringC, ownC]
    refine spec_enter Try.func27 rfl rfl rfl fun u R0 => ?_
    simp only [argsE, List.cons_append, List.nil_append, List.append_assoc]
    repeat' (first | (refine tl_is (.func 78) ?_; refine qC rfl rfl (hw0) ?_; rintro v ρ' L' hle ⟨rfl, rfl, rfl⟩ <;> (try simp only [List.cons_append, List.nil_append, List.append_eq])) | (refine i_op ?_; first | (refine i_qq ?_; refine qQ ?_) | refine qEf ?_) | refine tl_nil ?_ | (refine i_tc ?_; refine qTc ?_) | (refine i_te ?_; refine qTe ?_) | intro _)
    refine tc_loop_g [(0, _), (1, _), (2, _), (6, _), (7, _), (47, _), (48, _)] (fun (ζ : (Nat)) => [(49, .int .i64 ζ), (8, .int .i64 (usedL (R.ents.take ζ) : Nat))]) (fun (ζ : (Nat)) => ρ') (fun (ζ : (Nat)) => [[(bx, .cells ⟨els.map slv ++ sp⟩ 22 (0, 0))]]) (fun (ζ : (Nat)) => ζ ≤ m) (fun (ζ : (Nat)) => m - ζ) (0) (Nat.zero_le _) ev_le ev_le rfl tk ?_
    rintro j hI
    try simp only [List.cons_append, List.nil_append, List.append_assoc, List.append_eq] at hI ⊢
    try dsimp only at hI ⊢
    by_cases hlt : j < m
    · obtain ⟨q1, q2, q3⟩ := hall (show j < els.length by omega)
      have hts := usedL_take_succ R.ents j (by omega)
      have hq2 := q2.s.len
      have hget : (els.map slv ++ sp)[0 + j * 1]? = some (slv els[j]) := by
        rw [Nat.zero_add, Nat.mul_one, List.getElem?_append_left (by simp; omega)]; simp [show j < els.length by omega]
      have hle : usedL (R.ents.take j) ≤ usedL R.ents := by have := usedL_take_drop R.ents j; omega
      have hsc := sects_le q3
      rw [← q1, hq2] at hts
      repeat' (first | (refine tl_is (.func 24) ?_; refine qC rfl rfl (sects_nat _ (els[j]).n (by omega)) ?_; rintro v ρ' L' hle ⟨rfl, rfl, rfl⟩ <;> (try simp only [List.cons_append, List.nil_append, List.append_eq])) | (refine i_op ?_; first | (refine i_qq ?_; refine qQ ?_) | refine qEf ?_) | refine tl_nil ?_ | (refine i_tc ?_; refine qTc ?_) | (refine i_te ?_; refine qTe ?_) | intro _)
      rw [show ((usedL (R.ents.take j) : Nat) : Int) + ((sects (els[j]).n : Nat) : Int) = ((usedL (R.ents.take (j + 1)) : Nat) : Int) by rw [hts]; omega]
      refine te_round_g (j + 1) (hlt) ev_le ev_le rfl tk inferInstance (by first | omega | (dsimp only; omega))
    · have hjm : j = m := by omega
      subst hjm
      repeat' (first | (refine i_op ?_; first | (refine i_qq ?_; refine qQ ?_) | refine qEf ?_) | refine tl_nil ?_ | (refine i_tc ?_; refine qTc ?_) | (refine i_te ?_; refine qTe ?_) | intro _)
      refine tc_any (Stays _ _ ([[(rb, .cells ⟨rgV R db ⟨wna, wnn, wnc, .slice (some ⟨bx, 0, none⟩) els.length cap, els, sp⟩⟩ 146 (0, 0))]])) (stays_of (hT := tk) (Hp.le_refl _)) ?_
      all_goals refine rMv 0 ?_
      all_goals refine rNc 1 ?_
      all_goals refine rFa 2 ?_
      all_goals refine rFa 3 ?_
      all_goals refine rLd 4 ?_
      all_goals refine rAd 5 ?_
      all_goals refine rMv 6 ?_
      all_goals refine rNc 7 ?_
      all_goals refine rFa 8 ?_
      all_goals refine rFa 9 ?_
      all_goals refine rLd 10 ?_
      all_goals refine rMv 11 ?_
      all_goals refine rCv 12 ?_
      all_goals refine rAd 13 ?_
      all_goals refine rMv 14 ?_
      all_goals refine rNc 15 ?_
      all_goals refine rFa 16 ?_
      all_goals refine rFa 17 ?_
      all_goals refine rLd 18 ?_
      all_goals refine rMv 19 ?_
      all_goals refine rNc 20 ?_
      all_goals refine rFa 21 ?_
      all_goals refine rFa 22 ?_
      all_goals refine rLd 23 ?_
      all_goals refine rMv 24 ?_
      all_goals refine rAd 25 ?_
      all_goals refine rMv 26 ?_
      all_goals refine rNc 27 ?_
      all_goals refine rFa 28 ?_
      all_goals refine rFa 29 ?_
      all_goals refine rLd 30 ?_
      all_goals refine rRm 31 ?_
      all_goals refine rMv 32 ?_
      all_goals (refine rStep2 (i := 33) (j := 35) ?_ ?_ <;> ((try refine qWant ?_); (first | (refine tl_is (.func 83) ?_; refine qC rfl rfl (cloneR_spec _ X a nn c note (hb.mono (by assumption)) (by omega)) ?_; rintro v7 ρ7 L7 hle7 ⟨hl7, e, rfl, he, hel, hen, rfl⟩; simp only [List.cons_append, List.nil_append]) | (refine qEf ?_; try intro _)) <;> ((try simp only [List.cons_append, List.nil_append, List.append_eq]); refine tl_nil ?_; refine rNext ?_)))
      all_goals (first | refine rBu 34 ?_ | (refine rStep (i := 33) ?_; ((try refine qWant ?_); (first | (refine tl_is (.func 83) ?_; refine qC rfl rfl (cloneR_spec _ X a nn c note (hb.mono (by assumption)) (by omega)) ?_; rintro v7 ρ7 L7 hle7 ⟨hl7, e, rfl, he, hel, hen, rfl⟩; simp only [List.cons_append, List.nil_append]) | (refine qEf ?_; try intro _)) <;> ((try simp only [List.cons_append, List.nil_append, List.append_eq]); refine tl_nil ?_; refine rNext ?_))))
      all_goals (first | (refine rStep (i := 35) ?_; ((try refine qWant ?_); (first | (refine qEf ?_; try intro _)) <;> ((try simp only [List.cons_append, List.nil_append, List.append_eq]); refine tl_nil ?_; refine rNext ?_))) | refine rBu 34 ?_)
      all_goals (refine rStep (i := 36) ?_; ((try refine qWant ?_); (first | (refine qEf ?_; try intro _)) <;> ((try simp only [List.cons_append, List.nil_append, List.append_eq]); refine tl_nil ?_; refine rNext ?_)))
      all_goals refine rDone ?_
      all_goals (repeat' (first | (refine i_op ?_; first | (refine i_qq ?_; refine qQ ?_) | refine qEf ?_) | refine tl_nil ?_ | (refine i_tc ?_; refine qTc ?_) | (refine i_te ?_; refine qTe ?_) | intro _))
      all_goals
        simp only [e1, e2, e3]
        rename_i bh
        have hls := laid_spec ρ7 (R.cutH j note) e.a e.n e.c (by have := he.s; rw [hel] at this; exact this) hcl.1 hcl.2.1 hcl.2.2.1 hcl.2.2.2 (by rw [hen]; omega) db k D hD
        refine tc_any (Stays _ _ ([[(bh, .cells ⟨hdV (R.cutH j note) e.a e.n e.c⟩ 144 (0, 0))], [(rb, .cells ⟨rgV R db ⟨wna, wnn, wnc, .slice (some ⟨bx, 0, none⟩) els.length cap, els, sp⟩⟩ 146 (0, 0))]])) (stays_of (hT := tk) (Hp.le_refl _)) ?_
        all_goals refine rLd 0 ?_
        all_goals refine rMv 1 ?_
        all_goals refine rNc 2 ?_
        all_goals refine rFa 3 ?_
        all_goals refine rLd 4 ?_
        all_goals (refine rStep (i := 5) ?_; ((try refine qWant ?_); (first | (refine tl_is (.func 84) ?_; refine qC rfl rfl hls ?_; rintro v8 ρ8 L8 hle8 ⟨rfl, hl8, k8, hD8, rfl⟩; try simp only [List.cons_append, List.nil_append, List.append_assoc]) | (refine qEf ?_; try intro _)) <;> ((try simp only [List.cons_append, List.nil_append, List.append_eq]); refine tl_nil ?_; refine rNext ?_)))
        all_goals refine rFull ?_
        all_goals refine rAs 6 ?_
        all_goals refine rDone ?_
        all_goals (repeat' (first | (refine i_op ?_; first | (refine i_qq ?_; refine qQ ?_) | refine qEf ?_) | refine tl_nil ?_ | (refine i_tc ?_; refine qTc ?_) | (refine i_te ?_; refine qTe ?_) | intro _))
        have hhe := fun (v : Value) (sp : List Value) ho => hcutok (Hp.le_trans hl7 hl8) (he.mono hl8) hel (v := v) (sp := sp) ho
        have hbk := hbrk (Hp.le_trans hl7 hl8)
        rw [hsome]
        generalize DS.lays (headL (R.cutH j note)) D = r at *
        obtain ⟨D', ec⟩ := r
        dsimp only at hD8 ⊢
        by_cases hz : ec = 0
        · subst hz
          rw [show ((0 : Int) != 0) = false from rfl, if_pos rfl]
          repeat' (first | (refine i_op ?_; first | (refine i_qq ?_; refine qQ ?_) | refine qEf ?_) | refine tl_nil ?_ | (refine i_tc ?_; refine qTc ?_) | (refine i_te ?_; refine qTe ?_) | intro _)
          obtain ⟨off, hval, hxx⟩ : ∃ off, (if cap = j then some (⟨bx, 0, none⟩ : Addr) else some ⟨bx, 0 + j * 1, none⟩) = some ⟨bx, off, none⟩ ∧ ((els.map slv ++ sp).drop off).take (els.length - j) = (els.drop j).map slv := by
            by_cases hcap : cap = j
            · refine ⟨0, by rw [if_pos hcap], ?_⟩
              have : els.length - j = 0 := by omega
              have h2 : els.drop j = [] := List.drop_eq_nil_of_le (by omega)
              rw [this, h2]; simp
            · refine ⟨j, by rw [if_neg hcap]; simp, ?_⟩
              rw [List.drop_append_of_le_length (by simp; omega), List.take_append_of_le_length (by simp), List.take_of_length_le (by simp), List.map_drop]
          refine tc_any (Stays _ _ ([[(bh, .cells ⟨hdV (R.cutH j note) e.a e.n e.c⟩ 144 (0, 0))]])) (stays_of (hT := tk) (Hp.le_refl _)) ?_
          all_goals refine rMv 0 ?_
          all_goals refine rMv 1 ?_
          all_goals refine rMv 2 ?_
          all_goals refine rLd 3 ?_
          all_goals refine rMv 4 ?_
          all_goals refine rNc 5 ?_
          all_goals refine rFa 6 ?_
          all_goals refine rMv 8 ?_
          all_goals refine rMv 11 ?_
          all_goals refine rNc 12 ?_
          all_goals refine rFa 13 ?_
          all_goals refine rMv 15 ?_
          all_goals (refine rStep2 (i := 7) (j := 14) ?_ ?_ <;> ((try refine qWant ?_); (first | (simp only [Int.toNat_natCast, Option.map_some, addr_add, hval]; refine tl_is (.func 85) ?_; refine qC rfl rfl (clone2_spec _ _ (els.length - j) _ off 22 (els.map slv ++ sp) sp _ bx cap (els.drop j) (by omega) (by simp) rfl rfl hxx) ?_; rintro v9 ρ9 L9 hle9 ⟨rfl, sp9, hown9, rfl⟩; obtain ⟨a9, c9, rfl, _⟩ := hown9.slice; simp only [List.cons_append, List.nil_append]) | (refine i_qq ?_; refine qQ ?_) | (refine qEf ?_; try intro _)) <;> ((try simp only [List.cons_append, List.nil_append, List.append_eq]); refine tl_nil ?_; refine rNext ?_)))
          all_goals (first | refine rSl 9 ?_ | refine rSb 16 ?_)
          all_goals (first | (refine rStep2 (i := 10) (j := 14) ?_ ?_ <;> ((try refine qWant ?_); (first | (simp only [Int.toNat_natCast, Option.map_some, addr_add, hval]; refine tl_is (.func 85) ?_; refine qC rfl rfl (clone2_spec _ _ (els.length - j) _ off 22 (els.map slv ++ sp) sp _ bx cap (els.drop j) (by omega) (by simp) rfl rfl hxx) ?_; rintro v9 ρ9 L9 hle9 ⟨rfl, sp9, hown9, rfl⟩; obtain ⟨a9, c9, rfl, _⟩ := hown9.slice; simp only [List.cons_append, List.nil_append]) | (refine i_qq ?_; refine qQ ?_) | (refine qEf ?_; try intro _)) <;> ((try simp only [List.cons_append, List.nil_append, List.append_eq]); refine tl_nil ?_; refine rNext ?_))) | (refine rStep (i := 7) ?_; ((try refine qWant ?_); (first | (simp only [Int.toNat_natCast, Option.map_some, addr_add, hval]; refine tl_is (.func 85) ?_; refine qC rfl rfl (clone2_spec _ _ (els.length - j) _ off 22 (els.map slv ++ sp) sp _ bx cap (els.drop j) (by omega) (by simp) rfl rfl hxx) ?_; rintro v9 ρ9 L9 hle9 ⟨rfl, sp9, hown9, rfl⟩; obtain ⟨a9, c9, rfl, _⟩ := hown9.slice; simp only [List.cons_append, List.nil_append]) | (refine i_qq ?_; refine qQ ?_) | (refine qEf ?_; try intro _)) <;> ((try simp only [List.cons_append, List.nil_append, List.append_eq]); refine tl_nil ?_; refine rNext ?_))))
          all_goals (first | (refine rStep (i := 14) ?_; ((try refine qWant ?_); (first | (simp only [Int.toNat_natCast, Option.map_some, addr_add, hval]; refine tl_is (.func 85) ?_; refine qC rfl rfl (clone2_spec _ _ (els.length - j) _ off 22 (els.map slv ++ sp) sp _ bx cap (els.drop j) (by omega) (by simp) rfl rfl hxx) ?_; rintro v9 ρ9 L9 hle9 ⟨rfl, sp9, hown9, rfl⟩; obtain ⟨a9, c9, rfl, _⟩ := hown9.slice; simp only [List.cons_append, List.nil_append]) | (refine i_qq ?_; refine qQ ?_) | (refine qEf ?_; try intro _)) <;> ((try simp only [List.cons_append, List.nil_append, List.append_eq]); refine tl_nil ?_; refine rNext ?_))) | refine rSb 16 ?_ | refine rSl 9 ?_)
          all_goals (first | refine rSb 16 ?_ | (refine rStep (i := 10) ?_; ((try refine qWant ?_); (first | (simp only [Int.toNat_natCast, Option.map_some, addr_add, hval]; refine tl_is (.func 85) ?_; refine qC rfl rfl (clone2_spec _ _ (els.length - j) _ off 22 (els.map slv ++ sp) sp _ bx cap (els.drop j) (by omega) (by simp) rfl rfl hxx) ?_; rintro v9 ρ9 L9 hle9 ⟨rfl, sp9, hown9, rfl⟩; obtain ⟨a9, c9, rfl, _⟩ := hown9.slice; simp only [List.cons_append, List.nil_append]) | (refine i_qq ?_; refine qQ ?_) | (refine qEf ?_; try intro _)) <;> ((try simp only [List.cons_append, List.nil_append, List.append_eq]); refine tl_nil ?_; refine rNext ?_))))
          all_goals refine rNc 17 ?_
          all_goals refine rFa 18 ?_
          all_goals (refine rStep (i := 19) ?_; ((try refine qWant ?_); (first | (refine i_qq ?_; refine qQ ?_) | (refine qEf ?_; try intro _)) <;> ((try simp only [List.cons_append, List.nil_append, List.append_eq]); refine tl_nil ?_; refine rNext ?_)))
          all_goals refine rNc 20 ?_
          all_goals refine rFa 21 ?_
          all_goals (refine rStep (i := 22) ?_; ((try refine qWant ?_); (first | (refine i_qq ?_; refine qQ ?_) | (refine qEf ?_; try intro _)) <;> ((try simp only [List.cons_append, List.nil_append, List.append_eq]); refine tl_nil ?_; refine rNext ?_)))
          all_goals refine rNc 23 ?_
          all_goals refine rFa 24 ?_
          all_goals (refine rStep (i := 25) ?_; ((try refine qWant ?_); (first | (refine i_qq ?_; refine qQ ?_) | (refine qEf ?_; try intro _)) <;> ((try simp only [List.cons_append, List.nil_append, List.append_eq]); refine tl_nil ?_; refine rNext ?_)))
          all_goals refine rDone ?_
          all_goals (repeat' (first | (refine i_op ?_; first | (refine i_qq ?_; refine qQ ?_) | refine qEf ?_) | refine tl_nil ?_ | (refine i_tc ?_; refine qTc ?_) | (refine i_te ?_; refine qTe ?_) | intro _))
          all_goals simp only [e4]
          all_goals exact qE (L' := ringC rb db ⟨R.cutH j note, R.ents.drop j, R.used - usedL (R.ents.take j), false⟩ ⟨e.a, e.n, e.c, _, els.drop j, sp9⟩ ++ (diskK db k8 D' ++ L7)) ⟨rfl, Hp.le_trans hl7 hl8, k8, _, hD8, hhe _ sp9 hown9, rfl⟩
        · have hcb : (ec != 0) = true := by simpa using hz
          rw [hcb, if_neg hz]
          repeat' (first | (refine i_op ?_; first | (refine i_qq ?_; refine qQ ?_) | refine qEf ?_) | refine tl_nil ?_ | (refine i_tc ?_; refine qTc ?_) | (refine i_te ?_; refine qTe ?_) | intro _)
          exact qE (L' := ringC rb db { R with broken := true } ⟨wna, wnn, wnc, .slice (some ⟨bx, 0, none⟩) els.length cap, els, sp⟩ ++ (diskK db k8 D' ++ L7)) ⟨rfl, Hp.le_trans hl7 hl8, k8, _, hD8, hbk, rfl⟩
end Go.Proofs.E

namespace Go.Proofs.E
open Go
set_option linter.unusedVariables false
set_option linter.unusedSimpArgs false
set_option linter.unusedSectionVars false
set_option maxRecDepth 4000
set_option maxHeartbeats 1000000
attribute [local irreducible] Yl TL TC TE Spec YSpec R1 Hp.le EnvLe TS TR YS Stays
theorem format_nil (ρ : Hp) (size : Int) : Spec Try.prog 40 [.pointer none, .int .i64 size] ρ [] (fun v ρ' L' => v = .tuple ⟨[.pointer none, .int .i64 1]⟩ ∧ ρ' = ρ ∧ L' = []) := by
  refine spec_enter Try.func40 rfl rfl rfl fun u R => ?_
  simp only [argsE, List.cons_append, List.nil_append]
  repeat' (first | (refine i_op ?_; first | (refine i_qq ?_; refine qQ ?_) | refine qEf ?_) | refine tl_nil ?_ | (refine i_tc ?_; refine qTc ?_) | (refine i_te ?_; refine qTe ?_) | intro _)
  exact qE ⟨rfl, rfl, rfl⟩
theorem noughtsL_64 {n : Nat} : ∀ p ∈ noughtsL n, p.2.length = 64 := fun p hp => by
  simp only [noughtsL, List.mem_map] at hp
  obtain ⟨k, _, rfl⟩ := hp; rfl
theorem fresh_rok {n : Nat} (h0 : 4 ≤ n) (h1 : n ≤ 1000) : RgS.Ok ⟨freshH n, [], 0, false⟩ :=
  ⟨by simp [freshH], ⟨h0, h1⟩, by simp [freshH], by simp [RgS.next, freshH], by simp only [freshH]; omega, by simp [freshH], rfl, Nat.zero_le _, by simp⟩
theorem fresh_rin {ρ : Hp} {n : Nat} (h0 : 4 ≤ n) (h1 : n ≤ 1000) : RIn ρ ⟨freshH n, [], 0, false⟩ ⟨none, 0, 0, .slice none 0 0, [], []⟩ :=
  ⟨fresh_rok h0 h1, SIn.nil, Nat.le_refl _, OwnS.nil 1, rfl, by simp⟩
/-- what a call that makes a ring answers -/
def ringAns (ρ' : Hp) (db : Nat) (r : Option RgS × DS × Int) (v : Value) (L' : SH) : Prop :=
  ∃ k', DOk k' r.2.1 ∧ match r.1 with
    | none => v = .tuple ⟨[.pointer none, .int .i64 r.2.2]⟩ ∧ L' = diskK db k' r.2.1
    | some R => ∃ rb w, v = .tuple ⟨[.pointer (some ⟨rb, 0, none⟩), .int .i64 0]⟩ ∧ RIn ρ' R w ∧ L' = ringC rb db R w ++ diskK db k' r.2.1
theorem format_spec (ρ : Hp) (db : Nat) (k : DK) (D : DS) (hD : DOk k D) (size : Int) (hs : -9223372036854775808 ≤ size ∧ size ≤ 9223372036854775807) :
    Spec Try.prog 40 [.pointer (some ⟨db, 0, none⟩), .int .i64 size] ρ (diskK db k D) (fun v ρ' L' => ρ.le ρ' ∧ ringAns ρ' db (formatR size D) v L') := by
  by_cases h1 : size < 4
  · have he : formatR size D = (none, D, 2) := by unfold formatR; rw [if_pos (.inl h1)]
    rw [he]
    refine spec_enter Try.func40 rfl rfl rfl fun u R => ?_
    simp only [argsE, List.cons_append, List.nil_append]
    repeat' (first | (refine i_op ?_; first | (refine i_qq ?_; refine qQ ?_) | refine qEf ?_) | refine tl_nil ?_ | (refine i_tc ?_; refine qTc ?_) | (refine i_te ?_; refine qTe ?_) | intro _)
    rename_i b3
    refine tc_any (Stays _ _ ([[(b3, .cells ⟨[.int .i64 size]⟩ 3 (0, 0))]])) (stays_of (hT := tk) (Hp.le_refl _)) ?_
    all_goals refine rLd 0 ?_
    all_goals refine rCm 1 ?_
    all_goals refine rMv 2 ?_
    all_goals (first | refine wSkip 3 ?_ | refine wSkipU 3 ?_ | refine wLd 3 ?_ | (refine tr_guard (t := 12) rfl (fun hb => ?_) (fun hb => ?_) <;> (try simp only [decide_eq_true_eq, decide_eq_false_iff_not, Bool.not_eq_true, Bool.not_eq_false, beq_iff_eq, bne_iff_ne, ne_eq, Bool.not_eq_eq_eq_not, Bool.not_true, Bool.not_false, beq_eq_false_iff_ne, bne_eq_false_iff_eq] at hb) <;> first | refine wSkip 3 ?_ | refine wSkipU 3 ?_ | refine wLd 3 ?_))
    all_goals (first | refine wSkip 4 ?_ | refine wSkipU 4 ?_ | refine wCm 4 ?_ | (refine tr_guard (t := 12) rfl (fun hb => ?_) (fun hb => ?_) <;> (try simp only [decide_eq_true_eq, decide_eq_false_iff_not, Bool.not_eq_true, Bool.not_eq_false, beq_iff_eq, bne_iff_ne, ne_eq, Bool.not_eq_eq_eq_not, Bool.not_true, Bool.not_false, beq_eq_false_iff_ne, bne_eq_false_iff_eq] at hb) <;> first | refine wSkip 4 ?_ | refine wSkipU 4 ?_ | refine wCm 4 ?_))
    all_goals refine rPk 5 ?_
    all_goals refine rMv 6 ?_
    all_goals (first | refine wSkip 7 ?_ | refine wSkipU 7 ?_ | refine wMv 7 ?_ | (refine tr_guard (t := 16) rfl (fun hb => ?_) (fun hb => ?_) <;> (try simp only [decide_eq_true_eq, decide_eq_false_iff_not, Bool.not_eq_true, Bool.not_eq_false, beq_iff_eq, bne_iff_ne, ne_eq, Bool.not_eq_eq_eq_not, Bool.not_true, Bool.not_false, beq_eq_false_iff_ne, bne_eq_false_iff_eq] at hb) <;> first | refine wSkip 7 ?_ | refine wSkipU 7 ?_ | refine wMv 7 ?_))
    all_goals (first | refine wSkip 9 ?_ | refine wSkipU 9 ?_ | refine wLd 9 ?_ | (refine tr_guard (t := 16) rfl (fun hb => ?_) (fun hb => ?_) <;> (try simp only [decide_eq_true_eq, decide_eq_false_iff_not, Bool.not_eq_true, Bool.not_eq_false, beq_iff_eq, bne_iff_ne, ne_eq, Bool.not_eq_eq_eq_not, Bool.not_true, Bool.not_false, beq_eq_false_iff_ne, bne_eq_false_iff_eq] at hb) <;> first | refine wSkip 9 ?_ | refine wSkipU 9 ?_ | refine wLd 9 ?_))
    all_goals (first | refine wSkip 10 ?_ | refine wSkipU 10 ?_ | refine wAd 10 ?_ | (refine tr_guard (t := 16) rfl (fun hb => ?_) (fun hb => ?_) <;> (try simp only [decide_eq_true_eq, decide_eq_false_iff_not, Bool.not_eq_true, Bool.not_eq_false, beq_iff_eq, bne_iff_ne, ne_eq, Bool.not_eq_eq_eq_not, Bool.not_true, Bool.not_false, beq_eq_false_iff_ne, bne_eq_false_iff_eq] at hb) <;> first | refine wSkip 10 ?_ | refine wSkipU 10 ?_ | refine wAd 10 ?_))
    all_goals (first | refine wSkip 8 ?_ | refine wSkipU 8 ?_ | (refine rStep (i := 8) ?_; ((try refine qWant ?_); (first | (refine tl_is (.func 95) ?_; refine qC rfl rfl (klen _ db k D) ?_; rintro v ρ' L' hle ⟨rfl, rfl, rfl⟩ <;> (try simp only [List.cons_append, List.nil_append, List.append_eq])) | (refine qEf ?_; try intro _)) <;> ((try simp only [List.cons_append, List.nil_append, List.append_eq]); refine tl_nil ?_; refine rNext ?_))))
    all_goals refine rFull ?_
    all_goals (first | refine wSkip 11 ?_ | refine wSkipU 11 ?_ | refine wCm 11 ?_ | (refine tr_guard (t := 16) rfl (fun hb => ?_) (fun hb => ?_) <;> (try simp only [decide_eq_true_eq, decide_eq_false_iff_not, Bool.not_eq_true, Bool.not_eq_false, beq_iff_eq, bne_iff_ne, ne_eq, Bool.not_eq_eq_eq_not, Bool.not_true, Bool.not_false, beq_eq_false_iff_ne, bne_eq_false_iff_eq] at hb) <;> first | refine wSkip 11 ?_ | refine wSkipU 11 ?_ | refine wCm 11 ?_))
    all_goals refine rPk 12 ?_
    all_goals refine rDone ?_
    all_goals (repeat' (first | (refine i_op ?_; first | (refine i_qq ?_; refine qQ ?_) | refine qEf ?_) | refine tl_nil ?_ | (refine i_tc ?_; refine qTc ?_) | (refine i_te ?_; refine qTe ?_) | intro _))
    all_goals exact qE ⟨Hp.le_refl _, k, hD, rfl, rfl⟩
  · by_cases h2 : 1000 < size
    · have he : formatR size D = (none, D, 2) := by unfold formatR; rw [if_pos (.inr (.inl h2))]
      rw [he]
      refine spec_enter Try.func40 rfl rfl rfl fun u R => ?_
      simp only [argsE, List.cons_append, List.nil_append]
      repeat' (first | (refine i_op ?_; first | (refine i_qq ?_; refine qQ ?_) | refine qEf ?_) | refine tl_nil ?_ | (refine i_tc ?_; refine qTc ?_) | (refine i_te ?_; refine qTe ?_) | intro _)
      rename_i b3
      refine tc_any (Stays _ _ ([[(b3, .cells ⟨[.int .i64 size]⟩ 3 (0, 0))]])) (stays_of (hT := tk) (Hp.le_refl _)) ?_
      all_goals refine rLd 0 ?_
      all_goals refine rCm 1 ?_
      all_goals refine rMv 2 ?_
      all_goals (first | refine wSkip 3 ?_ | refine wSkipU 3 ?_ | refine wLd 3 ?_ | (refine tr_guard (t := 12) rfl (fun hb => ?_) (fun hb => ?_) <;> (try simp only [decide_eq_true_eq, decide_eq_false_iff_not, Bool.not_eq_true, Bool.not_eq_false, beq_iff_eq, bne_iff_ne, ne_eq, Bool.not_eq_eq_eq_not, Bool.not_true, Bool.not_false, beq_eq_false_iff_ne, bne_eq_false_iff_eq] at hb) <;> first | refine wSkip 3 ?_ | refine wSkipU 3 ?_ | refine wLd 3 ?_))
      all_goals (first | refine wSkip 4 ?_ | refine wSkipU 4 ?_ | refine wCm 4 ?_ | (refine tr_guard (t := 12) rfl (fun hb => ?_) (fun hb => ?_) <;> (try simp only [decide_eq_true_eq, decide_eq_false_iff_not, Bool.not_eq_true, Bool.not_eq_false, beq_iff_eq, bne_iff_ne, ne_eq, Bool.not_eq_eq_eq_not, Bool.not_true, Bool.not_false, beq_eq_false_iff_ne, bne_eq_false_iff_eq] at hb) <;> first | refine wSkip 4 ?_ | refine wSkipU 4 ?_ | refine wCm 4 ?_))
      all_goals refine rPk 5 ?_
      all_goals refine rMv 6 ?_
      all_goals (first | refine wSkip 7 ?_ | refine wSkipU 7 ?_ | refine wMv 7 ?_ | (refine tr_guard (t := 16) rfl (fun hb => ?_) (fun hb => ?_) <;> (try simp only [decide_eq_true_eq, decide_eq_false_iff_not, Bool.not_eq_true, Bool.not_eq_false, beq_iff_eq, bne_iff_ne, ne_eq, Bool.not_eq_eq_eq_not, Bool.not_true, Bool.not_false, beq_eq_false_iff_ne, bne_eq_false_iff_eq] at hb) <;> first | refine wSkip 7 ?_ | refine wSkipU 7 ?_ | refine wMv 7 ?_))
      all_goals (first | refine wSkip 9 ?_ | refine wSkipU 9 ?_ | refine wLd 9 ?_ | (refine tr_guard (t := 16) rfl (fun hb => ?_) (fun hb => ?_) <;> (try simp only [decide_eq_true_eq, decide_eq_false_iff_not, Bool.not_eq_true, Bool.not_eq_false, beq_iff_eq, bne_iff_ne, ne_eq, Bool.not_eq_eq_eq_not, Bool.not_true, Bool.not_false, beq_eq_false_iff_ne, bne_eq_false_iff_eq] at hb) <;> first | refine wSkip 9 ?_ | refine wSkipU 9 ?_ | refine wLd 9 ?_))
      all_goals (first | refine wSkip 10 ?_ | refine wSkipU 10 ?_ | refine wAd 10 ?_ | (refine tr_guard (t := 16) rfl (fun hb => ?_) (fun hb => ?_) <;> (try simp only [decide_eq_true_eq, decide_eq_false_iff_not, Bool.not_eq_true, Bool.not_eq_false, beq_iff_eq, bne_iff_ne, ne_eq, Bool.not_eq_eq_eq_not, Bool.not_true, Bool.not_false, beq_eq_false_iff_ne, bne_eq_false_iff_eq] at hb) <;> first | refine wSkip 10 ?_ | refine wSkipU 10 ?_ | refine wAd 10 ?_))
      all_goals (first | refine wSkip 8 ?_ | refine wSkipU 8 ?_ | (refine rStep (i := 8) ?_; ((try refine qWant ?_); (first | (refine tl_is (.func 95) ?_; refine qC rfl rfl (klen _ db k D) ?_; rintro v ρ' L' hle ⟨rfl, rfl, rfl⟩ <;> (try simp only [List.cons_append, List.nil_append, List.append_eq])) | (refine qEf ?_; try intro _)) <;> ((try simp only [List.cons_append, List.nil_append, List.append_eq]); refine tl_nil ?_; refine rNext ?_))))
      all_goals refine rFull ?_
      all_goals (first | refine wSkip 11 ?_ | refine wSkipU 11 ?_ | refine wCm 11 ?_ | (refine tr_guard (t := 16) rfl (fun hb => ?_) (fun hb => ?_) <;> (try simp only [decide_eq_true_eq, decide_eq_false_iff_not, Bool.not_eq_true, Bool.not_eq_false, beq_iff_eq, bne_iff_ne, ne_eq, Bool.not_eq_eq_eq_not, Bool.not_true, Bool.not_false, beq_eq_false_iff_ne, bne_eq_false_iff_eq] at hb) <;> first | refine wSkip 11 ?_ | refine wSkipU 11 ?_ | refine wCm 11 ?_))
      all_goals refine rPk 12 ?_
      all_goals refine rDone ?_
      all_goals (repeat' (first | (refine i_op ?_; first | (refine i_qq ?_; refine qQ ?_) | refine qEf ?_) | refine tl_nil ?_ | (refine i_tc ?_; refine qTc ?_) | (refine i_te ?_; refine qTe ?_) | intro _))
      all_goals exact qE ⟨Hp.le_refl _, k, hD, rfl, rfl⟩
    · by_cases h3 : (D.secs.length : Int) < size + 2
      · have he : formatR size D = (none, D, 2) := by unfold formatR; rw [if_pos (.inr (.inr h3))]
        rw [he]
        refine spec_enter Try.func40 rfl rfl rfl fun u R => ?_
        simp only [argsE, List.cons_append, List.nil_append]
        repeat' (first | (refine i_op ?_; first | (refine i_qq ?_; refine qQ ?_) | refine qEf ?_) | refine tl_nil ?_ | (refine i_tc ?_; refine qTc ?_) | (refine i_te ?_; refine qTe ?_) | intro _)
        rename_i b3
        refine tc_any (Stays _ _ ([[(b3, .cells ⟨[.int .i64 size]⟩ 3 (0, 0))]])) (stays_of (hT := tk) (Hp.le_refl _)) ?_
        all_goals refine rLd 0 ?_
        all_goals refine rCm 1 ?_
        all_goals refine rMv 2 ?_
        all_goals (first | refine wSkip 3 ?_ | refine wSkipU 3 ?_ | refine wLd 3 ?_ | (refine tr_guard (t := 12) rfl (fun hb => ?_) (fun hb => ?_) <;> (try simp only [decide_eq_true_eq, decide_eq_false_iff_not, Bool.not_eq_true, Bool.not_eq_false, beq_iff_eq, bne_iff_ne, ne_eq, Bool.not_eq_eq_eq_not, Bool.not_true, Bool.not_false, beq_eq_false_iff_ne, bne_eq_false_iff_eq] at hb) <;> first | refine wSkip 3 ?_ | refine wSkipU 3 ?_ | refine wLd 3 ?_))
        all_goals (first | refine wSkip 4 ?_ | refine wSkipU 4 ?_ | refine wCm 4 ?_ | (refine tr_guard (t := 12) rfl (fun hb => ?_) (fun hb => ?_) <;> (try simp only [decide_eq_true_eq, decide_eq_false_iff_not, Bool.not_eq_true, Bool.not_eq_false, beq_iff_eq, bne_iff_ne, ne_eq, Bool.not_eq_eq_eq_not, Bool.not_true, Bool.not_false, beq_eq_false_iff_ne, bne_eq_false_iff_eq] at hb) <;> first | refine wSkip 4 ?_ | refine wSkipU 4 ?_ | refine wCm 4 ?_))
        all_goals refine rPk 5 ?_
        all_goals refine rMv 6 ?_
        all_goals (first | refine wSkip 7 ?_ | refine wSkipU 7 ?_ | refine wMv 7 ?_ | (refine tr_guard (t := 16) rfl (fun hb => ?_) (fun hb => ?_) <;> (try simp only [decide_eq_true_eq, decide_eq_false_iff_not, Bool.not_eq_true, Bool.not_eq_false, beq_iff_eq, bne_iff_ne, ne_eq, Bool.not_eq_eq_eq_not, Bool.not_true, Bool.not_false, beq_eq_false_iff_ne, bne_eq_false_iff_eq] at hb) <;> first | refine wSkip 7 ?_ | refine wSkipU 7 ?_ | refine wMv 7 ?_))
        all_goals (first | refine wSkip 9 ?_ | refine wSkipU 9 ?_ | refine wLd 9 ?_ | (refine tr_guard (t := 16) rfl (fun hb => ?_) (fun hb => ?_) <;> (try simp only [decide_eq_true_eq, decide_eq_false_iff_not, Bool.not_eq_true, Bool.not_eq_false, beq_iff_eq, bne_iff_ne, ne_eq, Bool.not_eq_eq_eq_not, Bool.not_true, Bool.not_false, beq_eq_false_iff_ne, bne_eq_false_iff_eq] at hb) <;> first | refine wSkip 9 ?_ | refine wSkipU 9 ?_ | refine wLd 9 ?_))
        all_goals (first | refine wSkip 10 ?_ | refine wSkipU 10 ?_ | refine wAd 10 ?_ | (refine tr_guard (t := 16) rfl (fun hb => ?_) (fun hb => ?_) <;> (try simp only [decide_eq_true_eq, decide_eq_false_iff_not, Bool.not_eq_true, Bool.not_eq_false, beq_iff_eq, bne_iff_ne, ne_eq, Bool.not_eq_eq_eq_not, Bool.not_true, Bool.not_false, beq_eq_false_iff_ne, bne_eq_false_iff_eq] at hb) <;> first | refine wSkip 10 ?_ | refine wSkipU 10 ?_ | refine wAd 10 ?_))
        all_goals (first | refine wSkip 8 ?_ | refine wSkipU 8 ?_ | (refine rStep (i := 8) ?_; ((try refine qWant ?_); (first | (refine tl_is (.func 95) ?_; refine qC rfl rfl (klen _ db k D) ?_; rintro v ρ' L' hle ⟨rfl, rfl, rfl⟩ <;> (try simp only [List.cons_append, List.nil_append, List.append_eq])) | (refine qEf ?_; try intro _)) <;> ((try simp only [List.cons_append, List.nil_append, List.append_eq]); refine tl_nil ?_; refine rNext ?_))))
        all_goals refine rFull ?_
        all_goals (first | refine wSkip 11 ?_ | refine wSkipU 11 ?_ | refine wCm 11 ?_ | (refine tr_guard (t := 16) rfl (fun hb => ?_) (fun hb => ?_) <;> (try simp only [decide_eq_true_eq, decide_eq_false_iff_not, Bool.not_eq_true, Bool.not_eq_false, beq_iff_eq, bne_iff_ne, ne_eq, Bool.not_eq_eq_eq_not, Bool.not_true, Bool.not_false, beq_eq_false_iff_ne, bne_eq_false_iff_eq] at hb) <;> first | refine wSkip 11 ?_ | refine wSkipU 11 ?_ | refine wCm 11 ?_))
        all_goals refine rPk 12 ?_
        all_goals refine rDone ?_
        all_goals (repeat' (first | (refine i_op ?_; first | (refine i_qq ?_; refine qQ ?_) | refine qEf ?_) | refine tl_nil ?_ | (refine i_tc ?_; refine qTc ?_) | (refine i_te ?_; refine qTe ?_) | intro _))
        all_goals exact qE ⟨Hp.le_refl _, k, hD, rfl, rfl⟩
      · obtain ⟨n, rfl⟩ : ∃ n : Nat, size = n := ⟨size.toNat, by omega⟩
        have hn0 : 4 ≤ n := by omega
        have hn1 : n ≤ 1000 := by omega
        have he : formatR n D = if (DS.lays (noughtsL n) D).2 = 0 then
            if (DS.lays (headL (freshH n)) (DS.lays (noughtsL n) D).1).2 = 0 then (some ⟨freshH n, [], 0, false⟩, DS.lays (headL (freshH n)) (DS.lays (noughtsL n) D).1) else (none, DS.lays (headL (freshH n)) (DS.lays (noughtsL n) D).1)
          else (none, DS.lays (noughtsL n) D) := by unfold formatR; rw [if_neg (by omega)]; simp only [Int.toNat_natCast]
        rw [he]
        refine spec_enter Try.func40 rfl rfl rfl fun u R => ?_
        simp only [argsE, List.cons_append, List.nil_append]
        repeat' (first | (refine i_op ?_; first | (refine i_qq ?_; refine qQ ?_) | refine qEf ?_) | refine tl_nil ?_ | (refine i_tc ?_; refine qTc ?_) | (refine i_te ?_; refine qTe ?_) | intro _)
        rename_i b3
        refine tc_any (Stays _ _ ([[(b3, .cells ⟨[.int .i64 n]⟩ 3 (0, 0))]])) (stays_of (hT := tk) (Hp.le_refl _)) ?_
        all_goals refine rLd 0 ?_
        all_goals refine rCm 1 ?_
        all_goals refine rMv 2 ?_
        all_goals (first | refine wSkip 3 ?_ | refine wSkipU 3 ?_ | refine wLd 3 ?_ | (refine tr_guard (t := 12) rfl (fun hb => ?_) (fun hb => ?_) <;> (try simp only [decide_eq_true_eq, decide_eq_false_iff_not, Bool.not_eq_true, Bool.not_eq_false, beq_iff_eq, bne_iff_ne, ne_eq, Bool.not_eq_eq_eq_not, Bool.not_true, Bool.not_false, beq_eq_false_iff_ne, bne_eq_false_iff_eq] at hb) <;> first | refine wSkip 3 ?_ | refine wSkipU 3 ?_ | refine wLd 3 ?_))
        all_goals (first | refine wSkip 4 ?_ | refine wSkipU 4 ?_ | refine wCm 4 ?_ | (refine tr_guard (t := 12) rfl (fun hb => ?_) (fun hb => ?_) <;> (try simp only [decide_eq_true_eq, decide_eq_false_iff_not, Bool.not_eq_true, Bool.not_eq_false, beq_iff_eq, bne_iff_ne, ne_eq, Bool.not_eq_eq_eq_not, Bool.not_true, Bool.not_false, beq_eq_false_iff_ne, bne_eq_false_iff_eq] at hb) <;> first | refine wSkip 4 ?_ | refine wSkipU 4 ?_ | refine wCm 4 ?_))
        all_goals refine rPk 5 ?_
        all_goals refine rMv 6 ?_
        all_goals (first | refine wSkip 7 ?_ | refine wSkipU 7 ?_ | refine wMv 7 ?_ | (refine tr_guard (t := 16) rfl (fun hb => ?_) (fun hb => ?_) <;> (try simp only [decide_eq_true_eq, decide_eq_false_iff_not, Bool.not_eq_true, Bool.not_eq_false, beq_iff_eq, bne_iff_ne, ne_eq, Bool.not_eq_eq_eq_not, Bool.not_true, Bool.not_false, beq_eq_false_iff_ne, bne_eq_false_iff_eq] at hb) <;> first | refine wSkip 7 ?_ | refine wSkipU 7 ?_ | refine wMv 7 ?_))
        all_goals (first | refine wSkip 9 ?_ | refine wSkipU 9 ?_ | refine wLd 9 ?_ | (refine tr_guard (t := 16) rfl (fun hb => ?_) (fun hb => ?_) <;> (try simp only [decide_eq_true_eq, decide_eq_false_iff_not, Bool.not_eq_true, Bool.not_eq_false, beq_iff_eq, bne_iff_ne, ne_eq, Bool.not_eq_eq_eq_not, Bool.not_true, Bool.not_false, beq_eq_false_iff_ne, bne_eq_false_iff_eq] at hb) <;> first | refine wSkip 9 ?_ | refine wSkipU 9 ?_ | refine wLd 9 ?_))
        all_goals (first | refine wSkip 10 ?_ | refine wSkipU 10 ?_ | refine wAd 10 ?_ | (refine tr_guard (t := 16) rfl (fun hb => ?_) (fun hb => ?_) <;> (try simp only [decide_eq_true_eq, decide_eq_false_iff_not, Bool.not_eq_true, Bool.not_eq_false, beq_iff_eq, bne_iff_ne, ne_eq, Bool.not_eq_eq_eq_not, Bool.not_true, Bool.not_false, beq_eq_false_iff_ne, bne_eq_false_iff_eq] at hb) <;> first | refine wSkip 10 ?_ | refine wSkipU 10 ?_ | refine wAd 10 ?_))
        all_goals (first | refine wSkip 8 ?_ | refine wSkipU 8 ?_ | (refine rStep (i := 8) ?_; ((try refine qWant ?_); (first | (refine tl_is (.func 95) ?_; refine qC rfl rfl (klen _ db k D) ?_; rintro v ρ' L' hle ⟨rfl, rfl, rfl⟩ <;> (try simp only [List.cons_append, List.nil_append, List.append_eq])) | (refine qEf ?_; try intro _)) <;> ((try simp only [List.cons_append, List.nil_append, List.append_eq]); refine tl_nil ?_; refine rNext ?_))))
        all_goals refine rFull ?_
        all_goals (first | refine wSkip 11 ?_ | refine wSkipU 11 ?_ | refine wCm 11 ?_ | (refine tr_guard (t := 16) rfl (fun hb => ?_) (fun hb => ?_) <;> (try simp only [decide_eq_true_eq, decide_eq_false_iff_not, Bool.not_eq_true, Bool.not_eq_false, beq_iff_eq, bne_iff_ne, ne_eq, Bool.not_eq_eq_eq_not, Bool.not_true, Bool.not_false, beq_eq_false_iff_ne, bne_eq_false_iff_eq] at hb) <;> first | refine wSkip 11 ?_ | refine wSkipU 11 ?_ | refine wCm 11 ?_))
        all_goals refine rPk 12 ?_
        all_goals refine rDone ?_
        all_goals (repeat' (first | (refine tl_is (.func 80) ?_; refine qC rfl rfl (lays_spec _ _ 96 [.pointer (some ⟨b3, 0, none⟩)] [[(b3, .cells ⟨[.int .i64 n]⟩ 3 (0, 0))]] (noughtsL n) (Hp.le_refl _) (noughts_iter _ b3 n (by omega)) noughtsL_64 db k D hD) ?_; rintro v6 ρ6 L6 hle6 ⟨rfl, hl6, k6, hD6, rfl⟩; simp only [List.cons_append, List.nil_append, List.append_assoc]) | (refine i_op ?_; first | (refine i_qq ?_; refine qQ ?_) | refine qEf ?_) | refine tl_nil ?_ | (refine i_tc ?_; refine qTc ?_) | (refine i_te ?_; refine qTe ?_) | intro _))
        all_goals generalize DS.lays (noughtsL n) D = r at *
        all_goals obtain ⟨D', ec⟩ := r
        all_goals dsimp only at hD6 ⊢
        all_goals
          by_cases hz : ec = 0
          · subst hz
            have hrd := fun ρ => laid_spec ρ (freshH n) none 0 0 SIn.nil (by simp [freshH]) (by simp [freshH]) (by simp only [freshH]; omega) (by simp [freshH]) (by omega) db k6 D' hD6
            rw [show ((0 : Int) == 0) = true from rfl, if_pos rfl]
            repeat' (first | (refine tl_is (.func 84) ?_; refine qC rfl rfl (hrd _) ?_; rintro v8 ρ8 L8 hle8 ⟨rfl, hl8, k8, hD8, rfl⟩; try simp only [List.cons_append, List.nil_append, List.append_assoc]) | (refine i_op ?_; first | (refine i_qq ?_; refine qQ ?_) | refine qEf ?_) | refine tl_nil ?_ | (refine i_tc ?_; refine qTc ?_) | (refine i_te ?_; refine qTe ?_) | intro _)
            generalize DS.lays (headL (freshH n)) D' = r at *
            obtain ⟨D'', ec⟩ := r
            dsimp only at hD8 ⊢
            by_cases hz : ec = 0
            · subst hz
              rw [show ((0 : Int) != 0) = false from rfl, if_pos rfl]
              repeat' (first | (refine i_op ?_; first | (refine i_qq ?_; refine qQ ?_) | refine qEf ?_) | refine tl_nil ?_ | (refine i_tc ?_; refine qTc ?_) | (refine i_te ?_; refine qTe ?_) | intro _)
              rename_i rb
              exact qE (L' := ringC rb db ⟨freshH n, [], 0, false⟩ ⟨none, 0, 0, .slice none 0 0, [], []⟩ ++ diskK db k8 D'') ⟨Hp.le_trans hl6 hl8, k8, hD8, rb, _, rfl, fresh_rin hn0 hn1, rfl⟩
            · have hcb : (ec != 0) = true := by simpa using hz
              rw [hcb, if_neg hz]
              repeat' (first | (refine i_op ?_; first | (refine i_qq ?_; refine qQ ?_) | refine qEf ?_) | refine tl_nil ?_ | (refine i_tc ?_; refine qTc ?_) | (refine i_te ?_; refine qTe ?_) | intro _)
              exact qE (L' := diskK db k8 D'') ⟨Hp.le_trans hl6 hl8, k8, hD8, rfl, rfl⟩
          · have hcb : (ec == 0) = false := by simpa using hz
            have hcb2 : (ec != 0) = true := by simpa using hz
            rw [hcb, if_neg hz]
            repeat' (first | (refine i_op ?_; first | (refine i_qq ?_; refine qQ ?_) | refine qEf ?_) | refine tl_nil ?_ | (refine i_tc ?_; refine qTc ?_) | (refine i_te ?_; refine qTe ?_) | intro _)
            exact qE (L' := diskK db k6 D') ⟨hl6, k6, hD6, rfl, rfl⟩
theorem first_spec (ρ : Hp) (rb db : Nat) (R : RgS) (w : RW) : Spec Try.prog 28 [.pointer (some ⟨rb, 0, none⟩)] ρ [[(rb, .cells ⟨rgV R db w⟩ 146 (0, 0))]] (fun v ρ' L' => v = .int .u64 (R.h.first : Nat) ∧ ρ' = ρ ∧ L' = [[(rb, .cells ⟨rgV R db w⟩ 146 (0, 0))]]) := by
  refine spec_enter Try.func28 rfl rfl rfl fun u R0 => ?_
  simp only [argsE, List.cons_append, List.nil_append]
  repeat' (first | (refine i_op ?_; first | (refine i_qq ?_; refine qQ ?_) | refine qEf ?_) | refine tl_nil ?_ | (refine i_tc ?_; refine qTc ?_) | (refine i_te ?_; refine qTe ?_) | intro _)
  exact qE ⟨rfl, rfl, rfl⟩
theorem left_spec4 (ρ : Hp) (rb db : Nat) (R : RgS) (w : RW) (h : R.Ok) : Spec Try.prog 23 [.pointer (some ⟨rb, 0, none⟩)] ρ [[(rb, .cells ⟨rgV R db w⟩ 146 (0, 0))]] (fun v ρ' L' => v = .int .i64 ((R.h.size - R.used : Nat) : Int) ∧ ρ' = ρ ∧ L' = [[(rb, .cells ⟨rgV R db w⟩ 146 (0, 0))]]) := by
  have hft := h.fit
  have hsz := h.size
  have e : (R.h.size : Int) - (R.used : Int) = ((R.h.size - R.used : Nat) : Int) := by omega
  refine spec_enter Try.func23 rfl rfl rfl fun u R0 => ?_
  simp only [argsE, List.cons_append, List.nil_append]
  repeat' (first | (refine i_op ?_; first | (refine i_qq ?_; refine qQ ?_) | refine qEf ?_) | refine tl_nil ?_ | (refine i_tc ?_; refine qTc ?_) | (refine i_te ?_; refine qTe ?_) | intro _)
  refine tc_any (Stays _ _ _) stays_refl ?_
  all_goals refine rMv 0 ?_
  all_goals refine rFull ?_
  all_goals refine rNc 1 ?_
  all_goals refine rFa 2 ?_
  all_goals refine rFa 3 ?_
  all_goals refine rLd 4 ?_
  all_goals refine rMv 5 ?_
  all_goals refine rNc 6 ?_
  all_goals refine rFa 7 ?_
  all_goals refine rLd 8 ?_
  all_goals refine rSb 9 ?_
  all_goals refine rAs 10 ?_
  all_goals refine rDone ?_
  all_goals (repeat' (first | (refine i_op ?_; first | (refine i_qq ?_; refine qQ ?_) | refine qEf ?_) | refine tl_nil ?_ | (refine i_tc ?_; refine qTc ?_) | (refine i_te ?_; refine qTe ?_) | intro _))
  rw [e]
  exact qE ⟨rfl, rfl, rfl⟩
theorem broken_spec (ρ : Hp) (rb db : Nat) (R : RgS) (w : RW) : Spec Try.prog 45 [.pointer (some ⟨rb, 0, none⟩)] ρ [[(rb, .cells ⟨rgV R db w⟩ 146 (0, 0))]] (fun v ρ' L' => v = .bool R.broken ∧ ρ' = ρ ∧ L' = [[(rb, .cells ⟨rgV R db w⟩ 146 (0, 0))]]) := by
  refine spec_enter Try.func45 rfl rfl rfl fun u R0 => ?_
  simp only [argsE, List.cons_append, List.nil_append]
  repeat' (first | (refine i_op ?_; first | (refine i_qq ?_; refine qQ ?_) | refine qEf ?_) | refine tl_nil ?_ | (refine i_tc ?_; refine qTc ?_) | (refine i_te ?_; refine qTe ?_) | intro _)
  exact qE ⟨rfl, rfl, rfl⟩
theorem note_spec (ρ : Hp) (rb db : Nat) (R : RgS) (w : RW) (h : RIn ρ R w) : Spec Try.prog 44 [.pointer (some ⟨rb, 0, none⟩)] ρ [[(rb, .cells ⟨rgV R db w⟩ 146 (0, 0))]] (fun v ρ' L' => ρ.le ρ' ∧ ∃ e : BSl, v = slv e ∧ BIn ρ' e ∧ e.l = R.h.note ∧ L' = [[(rb, .cells ⟨rgV R db w⟩ 146 (0, 0))]]) := by
  have hn := h.ok.note
  have hl := h.note.len
  refine spec_enter Try.func44 rfl rfl rfl fun u R0 => ?_
  simp only [argsE, List.cons_append, List.nil_append]
  repeat' (first | (refine tl_is (.func 83) ?_; refine qC rfl rfl (cloneR_spec _ [] w.na w.nn w.nc R.h.note h.note.rd (by omega)) ?_; rintro v7 ρ7 L7 hle7 ⟨hl7, e, rfl, he, hel, hen, rfl⟩; simp only [List.cons_append, List.nil_append]) | (refine i_op ?_; first | (refine i_qq ?_; refine qQ ?_) | refine qEf ?_) | refine tl_nil ?_ | (refine i_tc ?_; refine qTc ?_) | (refine i_te ?_; refine qTe ?_) | intro _)
  exact qE ⟨hl7, e, rfl, he, hel, rfl⟩
theorem nils_spec (ρ : Hp) : (Spec Try.prog 28 [.pointer none] ρ [] (fun v ρ' L' => v = .int .u64 0 ∧ ρ' = ρ ∧ L' = [])) ∧
    (Spec Try.prog 23 [.pointer none] ρ [] (fun v ρ' L' => v = .int .i64 0 ∧ ρ' = ρ ∧ L' = [])) ∧
    (Spec Try.prog 45 [.pointer none] ρ [] (fun v ρ' L' => v = .bool false ∧ ρ' = ρ ∧ L' = [])) ∧
    (Spec Try.prog 44 [.pointer none] ρ [] (fun v ρ' L' => v = .slice none 0 0 ∧ ρ' = ρ ∧ L' = [])) ∧
    (Spec Try.prog 26 [.pointer none] ρ [] (fun v ρ' L' => v = .slice none 0 0 ∧ ρ' = ρ ∧ L' = [])) := by
  refine ⟨?_, ?_, ?_, ?_, ?_⟩
  · refine spec_enter Try.func28 rfl rfl rfl fun u R0 => ?_
    simp only [argsE, List.cons_append, List.nil_append]
    repeat' (first | (refine i_op ?_; first | (refine i_qq ?_; refine qQ ?_) | refine qEf ?_) | refine tl_nil ?_ | (refine i_tc ?_; refine qTc ?_) | (refine i_te ?_; refine qTe ?_) | intro _)
    exact qE ⟨rfl, rfl, rfl⟩
  · refine spec_enter Try.func23 rfl rfl rfl fun u R0 => ?_
    simp only [argsE, List.cons_append, List.nil_append]
    repeat' (first | (refine i_op ?_; first | (refine i_qq ?_; refine qQ ?_) | refine qEf ?_) | refine tl_nil ?_ | (refine i_tc ?_; refine qTc ?_) | (refine i_te ?_; refine qTe ?_) | intro _)
    exact qE ⟨rfl, rfl, rfl⟩
  · refine spec_enter Try.func45 rfl rfl rfl fun u R0 => ?_
    simp only [argsE, List.cons_append, List.nil_append]
    repeat' (first | (refine i_op ?_; first | (refine i_qq ?_; refine qQ ?_) | refine qEf ?_) | refine tl_nil ?_ | (refine i_tc ?_; refine qTc ?_) | (refine i_te ?_; refine qTe ?_) | intro _)
    exact qE ⟨rfl, rfl, rfl⟩
  · refine spec_enter Try.func44 rfl rfl rfl fun u R0 => ?_
    simp only [argsE, List.cons_append, List.nil_append]
    repeat' (first | (refine i_op ?_; first | (refine i_qq ?_; refine qQ ?_) | refine qEf ?_) | refine tl_nil ?_ | (refine i_tc ?_; refine qTc ?_) | (refine i_te ?_; refine qTe ?_) | intro _)
    exact qE ⟨rfl, rfl, rfl⟩
  · refine spec_enter Try.func26 rfl rfl rfl fun u R0 => ?_
    simp only [argsE, List.cons_append, List.nil_append]
    repeat' (first | (refine i_op ?_; first | (refine i_qq ?_; refine qQ ?_) | refine qEf ?_) | refine tl_nil ?_ | (refine i_tc ?_; refine qTc ?_) | (refine i_te ?_; refine qTe ?_) | intro _)
    exact qE ⟨rfl, rfl, rfl⟩
end Go.Proofs.E

namespace Go.Proofs.E
open Go
set_option linter.unusedVariables false
set_option linter.unusedSimpArgs false
set_option linter.unusedSectionVars false
set_option maxRecDepth 4000
set_option maxHeartbeats 1000000
attribute [local irreducible] Yl TL TC TE Spec YSpec R1 Hp.le EnvLe TS TR YS Stays
theorem all_spec (ρ : Hp) (rb db : Nat) (R : RgS) (w : RW) (h : RIn ρ R w) :
    Spec Try.prog 26 [.pointer (some ⟨rb, 0, none⟩)] ρ (ringC rb db R w) (fun v ρ' L' => ρ.le ρ' ∧ ∃ (els' : List BSl) (sp' : List Value), OwnS v els'.length (els'.map slv) sp' 1 ∧ (∀ e ∈ els', BIn ρ' e) ∧ els'.map BSl.l = R.ents ∧ L' = ringC rb db R w ++ [ownC v (els'.map slv) sp' 22]) := by
  have hlen := h.len
  have hfit := h.ok.fit
  have hsz := h.ok.size
  have hus := h.ok.used
  have hul := usedL_len R.ents
  have hall := fun {j : Nat} (hj : j < w.els.length) => h.at hj
  rcases h.own.out with ⟨hev, h0, h1, h2⟩ | ⟨bx, cap, hev, g1, g2, g3⟩
  · have he : R.ents = [] := List.eq_nil_of_length_eq_zero (by omega)
    obtain ⟨wna, wnn, wnc, wev, els, sp⟩ := w
    dsimp only at hev h0 h1 h2 ⊢
    subst hev
    subst h2
    have hels : els = [] := List.eq_nil_of_length_eq_zero h0
    subst hels
    refine spec_enter Try.func26 rfl rfl rfl fun u R0 => ?_
    simp only [argsE, List.cons_append, List.nil_append]
    repeat' (first | (refine i_op ?_; first | (refine i_qq ?_; refine qQ ?_) | refine qEf ?_) | refine tl_nil ?_ | (refine i_tc ?_; refine qTc ?_) | (refine i_te ?_; refine qTe ?_) | intro _)
    refine tc_loop_g [(2, _), (11, _), (12, _)] (fun (ζ : (Nat)) => [(13, .int .i64 ζ), (3, .slice none 0 0)]) (fun (ζ : (Nat)) => ρ) (fun (ζ : (Nat)) => []) (fun (ζ : (Nat)) => ζ = 0) (fun (ζ : (Nat)) => 0) (0) (rfl) ev_le ev_le rfl tk ?_
    rintro j hI
    try simp only [List.cons_append, List.nil_append, List.append_assoc, List.append_eq] at hI ⊢
    try dsimp only at hI ⊢
    subst hI
    repeat' (first | (refine i_op ?_; first | (refine i_qq ?_; refine qQ ?_) | refine qEf ?_) | refine tl_nil ?_ | (refine i_tc ?_; refine qTc ?_) | (refine i_te ?_; refine qTe ?_) | intro _)
    exact qE (L' := ringC rb db R ⟨wna, wnn, wnc, .slice none 0 0, [], []⟩ ++ [[]]) ⟨Hp.le_refl _, [], [], OwnS.nil 1, fun x hx => (by cases hx), he.symm, rfl⟩
  · obtain ⟨wna, wnn, wnc, wev, els, sp⟩ := w
    dsimp only at hev g1 g2 g3 hlen hall ⊢
    subst hev
    simp only [ringC, ownC]
    refine spec_enter Try.func26 rfl rfl rfl fun u R0 => ?_
    simp only [argsE, List.cons_append, List.nil_append]
    repeat' (first | (refine i_op ?_; first | (refine i_qq ?_; refine qQ ?_) | refine qEf ?_) | refine tl_nil ?_ | (refine i_tc ?_; refine qTc ?_) | (refine i_te ?_; refine qTe ?_) | intro _)
    refine tc_loop_g [(2, _), (11, _), (12, _)] (fun (ζ : (Nat) × (Hp) × (Value) × (List BSl) × (List Value)) => [(13, .int .i64 ζ.1), (3, ζ.2.2.1)]) (fun (ζ : (Nat) × (Hp) × (Value) × (List BSl) × (List Value)) => ζ.2.1) (fun (ζ : (Nat) × (Hp) × (Value) × (List BSl) × (List Value)) => [[(bx, .cells ⟨els.map slv ++ sp⟩ 22 (0, 0))], ownC ζ.2.2.1 (ζ.2.2.2.1.map slv) ζ.2.2.2.2 22]) (fun (ζ : (Nat) × (Hp) × (Value) × (List BSl) × (List Value)) => ζ.1 ≤ els.length ∧ ρ.le ζ.2.1 ∧ OwnS ζ.2.2.1 ζ.2.2.2.1.length (ζ.2.2.2.1.map slv) ζ.2.2.2.2 1 ∧ (∀ e ∈ ζ.2.2.2.1, BIn ζ.2.1 e) ∧ ζ.2.2.2.1.map BSl.l = R.ents.take ζ.1) (fun (ζ : (Nat) × (Hp) × (Value) × (List BSl) × (List Value)) => els.length - ζ.1) ((0, ρ, .slice none 0 0, [], [])) (⟨Nat.zero_le _, Hp.le_refl _, OwnS.nil 1, by simp, rfl⟩) ev_le ev_le rfl tk ?_
    rintro ⟨j, ρ1, v, els2, sp2⟩ hI
    try simp only [List.cons_append, List.nil_append, List.append_assoc, List.append_eq] at hI ⊢
    try dsimp only at hI ⊢
    obtain ⟨hj, hle1, hown, hbin, hl⟩ := hI
    by_cases hlt : j < els.length
    · obtain ⟨q1, q2, q3⟩ := hall hlt
      have hget : (els.map slv ++ sp)[0 + j * 1]? = some (slv els[j]) := by
        rw [Nat.zero_add, Nat.mul_one, List.getElem?_append_left (by simp; omega)]; simp [hlt]
      have hl2 : els2.length = j := by have := congrArg List.length hl; simp at this; omega
      repeat' (first | (refine tl_is (.func 83) ?_; refine qC rfl rfl (cloneR_spec _ [] (els[j]).a (els[j]).n (els[j]).c (els[j]).l (q2.mono hle1).s.rd (by omega)) ?_; rintro v7 ρ7 L7 hle7 ⟨hl7, e, rfl, he, hel, hen, rfl⟩; try simp only [List.cons_append, List.nil_append]) | (refine tl_buildSlice_s rfl rfl rfl rfl (by simp) rfl rfl (fun _ => ?_)) | (refine tl_app (ys := [slv e]) (m := 1) (sz := 1) rfl rfl hown (hR := by infer_instance) SrcV.lit rfl rfl (by decide) rfl (by omega) (by omega) rfl (fun v2 sp3 hown2 => ?_); rw [show els2.map slv ++ [slv e] = (els2 ++ [e]).map slv by simp] at hown2 ⊢) | (refine i_op ?_; first | (refine i_qq ?_; refine qQ ?_) | refine qEf ?_) | refine tl_nil ?_ | (refine i_tc ?_; refine qTc ?_) | (refine i_te ?_; refine qTe ?_) | intro _)
      rw [show els2.length + 1 = (els2 ++ [e]).length by simp] at hown2
      refine te_round_g (j + 1, ρ7, v2, els2 ++ [e], sp3) (⟨hlt, Hp.le_trans hle1 hl7, hown2, fun x hx => (by rcases List.mem_append.1 hx with hx | hx <;> first | exact (hbin x hx).mono hl7 | (rw [List.mem_singleton.1 hx]; exact he)), by dsimp only; rw [List.map_append, hl, List.take_succ_eq_append_getElem (by omega), ← q1, ← hel]; rfl⟩) ev_le ev_le rfl tk inferInstance (by first | omega | (dsimp only; omega))
    · have hk : j = els.length := by omega
      rw [hk, hlen, List.take_of_length_le (Nat.le_refl _)] at hl
      repeat' (first | (refine i_op ?_; first | (refine i_qq ?_; refine qQ ?_) | refine qEf ?_) | refine tl_nil ?_ | (refine i_tc ?_; refine qTc ?_) | (refine i_te ?_; refine qTe ?_) | intro _)
      exact qE (L' := ringC rb db R ⟨wna, wnn, wnc, .slice (some ⟨bx, 0, none⟩) els.length cap, els, sp⟩ ++ [ownC v (els2.map slv) sp2 22]) ⟨hle1, els2, sp2, hown, hbin, hl, rfl⟩
end Go.Proofs.E

namespace Go.Proofs.E
open Go
set_option linter.unusedVariables false
set_option linter.unusedSimpArgs false
set_option linter.unusedSectionVars false
set_option maxRecDepth 4000
set_option maxHeartbeats 1000000
attribute [local irreducible] Yl TL TC TE Spec YSpec R1 Hp.le EnvLe TS TR YS Stays
/-! ## what a row of writes leaves -/
def putAll (s : Secs) (l : List (Nat × Blk)) : Secs := l.foldl (fun s p => putC s p.1 p.2) s
theorem putAll_length (l : List (Nat × Blk)) : ∀ (s : Secs), (putAll s l).length = s.length := by
  induction l with
  | nil => intro s; rfl
  | cons p r ih => intro s; simp only [putAll, List.foldl_cons] at ih ⊢; rw [ih, putC_length]
theorem putC_at {s : Secs} {j i : Nat} {b : Blk} (hi : i < s.length) (h' : i < (putC s j b).length) : (putC s j b)[i] = if j = i then (s[i].1, some b) else s[i] := by
  simp only [putC, List.getElem_set]
  by_cases e : j = i
  · subst e; simp [hi]
  · simp [e]
theorem putAll_at : ∀ (l : List (Nat × Blk)) (s : Secs) (i : Nat) (hi : i < s.length) (h' : i < (putAll s l).length), (putAll s l)[i] = s[i] ∧ (∀ p ∈ l, p.1 ≠ i) ∨ ∃ p ∈ l, p.1 = i ∧ (putAll s l)[i] = (s[i].1, some p.2)
  | [], s, i, hi, h' => .inl ⟨rfl, by simp⟩
  | p :: r, s, i, hi, h' => by
    have h1 : i < (putC s p.1 p.2).length := by rw [putC_length]; exact hi
    have hat := putC_at hi h1
    rcases putAll_at r (putC s p.1 p.2) i h1 (by rw [putAll_length]; exact h1) with ⟨e1, e2⟩ | ⟨q, hq, e1, e2⟩
    · by_cases hp : p.1 = i
      · rw [if_pos hp] at hat
        exact .inr ⟨p, by simp, hp, by rw [← hat, ← e1]; rfl⟩
      · rw [if_neg hp] at hat
        refine .inl ⟨by rw [← hat, ← e1]; rfl, fun q hq => ?_⟩
        rcases List.mem_cons.1 hq with rfl | hq
        · exact hp
        · exact e2 q hq
    · refine .inr ⟨q, by simp [hq], e1, ?_⟩
      have : (putC s p.1 p.2)[i].1 = s[i].1 := by rw [hat]; split <;> rfl
      rw [← this, ← e2]; rfl
theorem lays_out : ∀ (l : List (Nat × Blk)) (D : DS), D.dead = false → (∀ p ∈ l, p.1 < D.secs.length) →
    (∃ l', l' <+: l ∧ (DS.lays l D).1.secs = putAll D.secs l' ∧ (DS.lays l D).2 ≠ 0) ∨
    ((DS.lays l D).1.secs = settled (fun _ => true) (putAll D.secs l) ∧ (DS.lays l D).2 = 0 ∧ (DS.lays l D).1.dead = false)
  | [], D, hd, _ => by
    simp only [DS.lays, DS.sync, hd, Bool.false_eq_true, if_false]
    split
    · exact .inl ⟨[], List.prefix_refl _, rfl, by simp⟩
    · split
      · exact .inl ⟨[], List.prefix_refl _, rfl, by simp⟩
      · exact .inr ⟨rfl, rfl, hd⟩
  | p :: r, D, hd, hl => by
    have hp := hl p (by simp)
    have hlt : ¬ ((p.1 : Int) < 0 ∨ (D.secs.length : Int) ≤ p.1) := by omega
    unfold DS.lays
    by_cases ha : D.armed = 0
    · have hw : D.write p.1 p.2 = ({ D.tick with dead := true, secs := putC D.secs p.1 p.2 }, 9) := by
        unfold DS.write
        rw [if_neg (by simp [hd]), if_neg hlt, if_pos ha]; rfl
      rw [hw]
      rw [if_neg (by simp)]
      exact .inl ⟨[p], ⟨r, rfl⟩, rfl, by simp⟩
    · by_cases hf : D.failing = 0
      · have hw : D.write p.1 p.2 = (D.tick, 8) := by
          unfold DS.write
          rw [if_neg (by simp [hd]), if_neg hlt, if_neg ha, if_pos hf]
        rw [hw]
        rw [if_neg (by simp)]
        exact .inl ⟨[], ⟨p :: r, rfl⟩, rfl, by simp⟩
      · have hw : D.write p.1 p.2 = ({ D.tick with armed := cnt D.armed, secs := putC D.secs p.1 p.2 }, 0) := by
          unfold DS.write
          rw [if_neg (by simp [hd]), if_neg hlt, if_neg ha, if_neg hf]; rfl
        rw [hw, if_pos rfl]
        have ih := lays_out r { D.tick with armed := cnt D.armed, secs := putC D.secs p.1 p.2 } hd (fun q hq => by simp only [putC_length]; exact hl q (by simp [hq]))
        rcases ih with ⟨l', ⟨t, ht⟩, h2, h3⟩ | h
        · exact .inl ⟨p :: l', ⟨t, by rw [← ht]; rfl⟩, h2, h3⟩
        · exact .inr h
/-- a disk that has nothing in its cache, and on which nothing is to happen -/
theorem Calm_lays : ∀ (l : List (Nat × Blk)) (D : DS), D.Calm → (∀ p ∈ l, p.1 < D.secs.length) → (DS.lays l D).2 = 0 ∧ (DS.lays l D).1.Calm ∧ (DS.lays l D).1.secs = settled (fun _ => true) (putAll D.secs l)
  | [], D, h, _ => by
    rw [DS.lays, h.sync_eq]
    exact ⟨rfl, ⟨rfl, rfl, rfl⟩, rfl⟩
  | p :: r, D, h, hl => by
    have hp := hl p (by simp)
    unfold DS.lays
    rw [h.write_eq hp, if_pos rfl]
    exact Calm_lays r _ ⟨rfl, rfl, rfl⟩ (fun q hq => by simp only [putC_length]; exact hl q (by simp [hq]))
/-- what a sector says behind a settling -/
theorem settled_one {keep : Nat → Bool} {s : Secs} {i : Nat} (he : emptyC s) (l : List (Nat × Blk)) (hi : i < s.length) (h' : i < (settled keep (putAll s l)).length) :
    (settled keep (putAll s l))[i] = s[i] ∨ ∃ p ∈ l, p.1 = i ∧ (settled keep (putAll s l))[i] = (p.2, none) := by
  have hp : i < (putAll s l).length := by rw [putAll_length]; exact hi
  have hn := he s[i] (List.getElem_mem hi)
  rw [settled_at hp h']
  rcases putAll_at l s i hi hp with ⟨e, _⟩ | ⟨p, hm, e1, e2⟩
  · left
    have hip : isP (putAll s l) i = false := by simp [isP, hp, e, hn]
    rw [hip, e]
    simp only [Bool.false_and, Bool.false_eq_true, if_false]
    rw [← hn]
  · have hip : isP (putAll s l) i = true := by simp [isP, hp, e2]
    rw [hip, e2]
    cases hk : keep (pendTo (putAll s l) i).length with
    | false => left; simp [← hn]
    | true => right; exact ⟨p, hm, e1, by simp⟩
theorem settled_all {s : Secs} {i : Nat} (he : emptyC s) (l : List (Nat × Blk)) (hi : i < s.length) (h' : i < (settled (fun _ => true) (putAll s l)).length) :
    (settled (fun _ => true) (putAll s l))[i] = s[i] ∧ (∀ p ∈ l, p.1 ≠ i) ∨ ∃ p ∈ l, p.1 = i ∧ (settled (fun _ => true) (putAll s l))[i] = (p.2, none) := by
  have hp : i < (putAll s l).length := by rw [putAll_length]; exact hi
  have hn := he s[i] (List.getElem_mem hi)
  rw [settled_at hp h']
  rcases putAll_at l s i hi hp with ⟨e, h2⟩ | ⟨p, hm, e1, e2⟩
  · left
    have hip : isP (putAll s l) i = false := by simp [isP, hp, e, hn]
    rw [hip, e]
    simp only [Bool.false_and, Bool.false_eq_true, if_false]
    exact ⟨by rw [← hn], h2⟩
  · have hip : isP (putAll s l) i = true := by simp [isP, hp, e2]
    rw [hip, e2]
    right; exact ⟨p, hm, e1, by simp⟩
end Go.Proofs.E

namespace Go.Proofs.E
open Go
set_option linter.unusedVariables false
set_option linter.unusedSimpArgs false
set_option linter.unusedSectionVars false
set_option maxRecDepth 4000
set_option maxHeartbeats 1000000
attribute [local irreducible] Yl TL TC TE Spec YSpec R1 Hp.le EnvLe TS TR YS Stays
/-! ## sectors, read and laid -/
theorem mid {A B C : Bs} {n m : Nat} (hA : A.length = n) (hB : B.length = m) : ((A ++ (B ++ C)).drop n).take m = B := by
  subst hA; subst hB; rw [List.drop_left, List.take_left]
theorem fit52 (l : Bs) : fitB 52 l = l.take 52 ++ z8 (52 - l.length) := by
  unfold fitB z8
  rw [List.take_append, List.take_replicate]
  congr 2; omega
theorem pad_drop {x l : Bs} (hx : x.length = 12) (hl : l.length ≤ 52) : (pad (x ++ l)).drop 12 = fitB 52 l := by
  rw [pad_of (by simp; omega), ← hx, List.append_assoc, List.drop_left, fit52, List.take_of_length_le hl]
  congr 2; simp; omega
theorem partB_eq (t n : Nat) (b : Bs) (k : Nat) : partB t n b k = pad ((be 4 t ++ (be 5 n ++ (be 2 b.length ++ [UInt8.ofNat k]))) ++ (b.drop (52 * k)).take 52) := by
  unfold partB; simp
theorem partB_drop (t n : Nat) (b : Bs) (k : Nat) : (partB t n b k).drop 12 = fitB 52 (b.drop (52 * k)) := by
  rw [partB_eq, pad_drop (by simp [be_length]) (by simp; omega), fit52, fit52, List.take_take]
  congr 2
  simp; omega
theorem partB_congr {t n : Nat} {b c : Bs} {k : Nat} (hl : b.length = c.length) (h : (b.drop (52 * k)).take 52 = (c.drop (52 * k)).take 52) : partB t n b k = partB t n c k := by
  unfold partB; rw [hl, h]
theorem pad_pre {x l : Bs} {n : Nat} (hx : x.length ≤ n) (hn : n ≤ 64) : True := trivial
theorem partB_turn {t n : Nat} {b : Bs} {k : Nat} (ht : t < 4294967296) : turnOf (partB t n b k) = t := by
  have h : (partB t n b k).take 4 = be 4 t := by
    unfold partB pad
    rw [List.append_assoc, List.take_take, Nat.min_eq_left (by omega), List.take_left' (be_length 4 t)]
  unfold turnOf
  rw [h, unbe_be, Nat.mod_eq_of_lt (by simpa using ht)]
theorem partB_num {t n : Nat} {b : Bs} {k : Nat} (hn : n < 1099511627776) : numOf (partB t n b k) = n := by
  have h : ((partB t n b k).drop 4).take 5 = be 5 n := by
    unfold partB pad
    rw [List.drop_take, List.take_take, Nat.min_eq_left (by omega)]
    simp only [List.append_assoc]
    exact mid (be_length 4 t) (be_length 5 n)
  unfold numOf
  rw [h, unbe_be, Nat.mod_eq_of_lt (by simpa using hn)]
theorem partB_size {t n : Nat} {b : Bs} {k : Nat} (hn : b.length < 65536) : sizeOf' (partB t n b k) = b.length := by
  have h : ((partB t n b k).drop 9).take 2 = be 2 b.length := by
    unfold partB pad
    rw [List.drop_take, List.take_take, Nat.min_eq_left (by omega)]
    simp only [List.append_assoc]
    rw [← List.append_assoc (be 4 t)]
    exact mid (by simp [be_length]) (be_length 2 _)
  unfold sizeOf'
  rw [h, unbe_be, Nat.mod_eq_of_lt (by simpa using hn)]
theorem sects_mul {n k : Nat} (h : k < sects n) : 52 * k < n ∨ (k = 0 ∧ n = 0) := by unfold sects at h; omega
theorem sects_end (n : Nat) : n ≤ 52 * sects n := by unfold sects; omega
/-- what is laid of bytes behind k sectors -/
theorem fit_step {size k : Nat} {b acc : Bs} (hb : b.length = size) (hk : k < sects size) (hl : acc.length = 52 * k) (h : acc.take size = b.take (52 * k)) :
    (acc ++ fitB 52 (b.drop (52 * k))).take size = b.take (52 * (k + 1)) := by
  have hm : 52 * k ≤ size := by rcases sects_mul hk with h | h <;> omega
  have ha : acc = b.take (52 * k) := by rw [← h, List.take_of_length_le (by omega)]
  rw [List.take_append, List.take_of_length_le (by omega), hl, ha]
  by_cases h52 : 52 * (k + 1) ≤ size
  · have e : fitB 52 (b.drop (52 * k)) = (b.drop (52 * k)).take 52 := by
      rw [fit52]
      have : 52 - (b.drop (52 * k)).length = 0 := by simp; omega
      rw [this]; simp [z8]
    rw [e, List.take_take, Nat.min_eq_right (by omega), Nat.mul_add, Nat.mul_one, List.take_add]
  · have e : (fitB 52 (b.drop (52 * k))).take (size - 52 * k) = b.drop (52 * k) := by
      rw [fit52, List.take_of_length_le (l := b.drop (52 * k)) (by simp; omega), List.take_append_of_le_length (by simp; omega), List.take_of_length_le (by simp; omega)]
    rw [e, List.take_append_drop, List.take_of_length_le (by omega)]
theorem fit_of {size k : Nat} {b acc : Bs} (hb : b.length = size) (hl : acc.length = 52 * k) (h : acc.take size = b.take (52 * k)) : fitB size acc = b.take (52 * k) ++ z8 (size - 52 * k) := by
  unfold fitB z8
  rw [List.take_append, h, List.take_replicate, hl]
  congr 2; omega
theorem part_fit {t n size k : Nat} {b acc : Bs} (hb : b.length = size) (hl : acc.length = 52 * (k + 1)) (h : acc.take size = b.take (52 * (k + 1))) : partB t n (fitB size acc) k = partB t n b k := by
  refine partB_congr (by rw [fitB_len, hb]) ?_
  rw [fit_of hb hl h]
  by_cases h52 : 52 * (k + 1) ≤ size
  · rw [List.drop_append_of_le_length (by simp; omega), List.take_append_of_le_length (by simp; omega), List.drop_take, List.take_take]
    congr 1; omega
  · have e : size - 52 * (k + 1) = 0 := by omega
    rw [e]
    simp only [z8, List.replicate_zero, List.append_nil]
    rw [List.drop_take, List.take_take]
    congr 1; omega
/-! ## a scan over sectors that stay -/
def entP (g : Nat → Blk) (m n at' turn size : Nat) : Nat → Nat → Bs → Option Bs
  | 0, _, acc => some (fitB size acc)
  | j + 1, k, acc => if partB turn n (fitB size (acc ++ (g (2 + (at' + k) % m)).drop 12)) k = g (2 + (at' + k) % m) then entP g m n at' turn size j (k + 1) (acc ++ (g (2 + (at' + k) % m)).drop 12) else none
theorem entP_some {g : Nat → Blk} {m n at' t size : Nat} {b : Bs} (hb : b.length = size) (hg : ∀ k, k < sects size → g (2 + (at' + k) % m) = partB t n b k) :
    ∀ (j k : Nat) (acc : Bs), j + k = sects size → acc.length = 52 * k → acc.take size = b.take (52 * k) → entP g m n at' t size j k acc = some b
  | 0, k, acc, hjk, hl, h => by
    have hk : k = sects size := by omega
    have he := sects_end size
    subst hk
    rw [entP, fit_of hb hl h, List.take_of_length_le (by omega)]
    have e : size - 52 * sects size = 0 := by omega
    rw [e]; simp [z8]
  | j + 1, k, acc, hjk, hl, h => by
    have hk : k < sects size := by omega
    have hgk := hg k hk
    have hst := fit_step hb hk hl h
    have hl2 : (acc ++ (partB t n b k).drop 12).length = 52 * (k + 1) := by simp [partB_len, hl]; omega
    rw [entP, hgk, if_pos]
    · exact entP_some hb hg j (k + 1) _ (by omega) hl2 (by rw [partB_drop]; exact hst)
    · exact part_fit hb hl2 (by rw [partB_drop]; exact hst)
theorem entP_inv {g : Nat → Blk} {m n at' t size : Nat} {b : Bs} (hg64 : ∀ q, (g (2 + q % m)).length = 64) : ∀ (j k : Nat) (acc : Bs), j + k = sects size → acc.length = 52 * k → entP g m n at' t size j k acc = some b →
    b.length = size ∧ acc.take size = b.take (52 * k) ∧ ∀ i, k ≤ i → i < sects size → g (2 + (at' + i) % m) = partB t n b i
  | 0, k, acc, hjk, hl, h => by
    have hk : k = sects size := by omega
    have he := sects_end size
    subst hk
    simp only [entP, Option.some.injEq] at h
    subst h
    refine ⟨fitB_len _ _, ?_, fun i h1 h2 => by omega⟩
    have : fitB size acc = acc.take size := by
      unfold fitB; rw [List.take_append_of_le_length (by omega)]
    rw [this, List.take_take, Nat.min_eq_right (by omega)]
  | j + 1, k, acc, hjk, hl, h => by
    have hk : k < sects size := by omega
    rw [entP] at h
    split at h
    · rename_i hp
      have hl2 : (acc ++ (g (2 + (at' + k) % m)).drop 12).length = 52 * (k + 1) := by simp [hg64, hl]; omega
      obtain ⟨h1, h2, h3⟩ := entP_inv hg64 j (k + 1) _ (by omega) hl2 h
      have hm : 52 * k ≤ size := by rcases sects_mul hk with h | h <;> omega
      refine ⟨h1, ?_, fun i hi1 hi2 => ?_⟩
      · have := congrArg (fun l : Bs => l.take (52 * k)) h2
        simp only [List.take_take] at this
        rw [Nat.min_eq_left hm, Nat.min_eq_left (by omega), List.take_append_of_le_length (by omega)] at this
        rw [← this, List.take_of_length_le (by omega), List.take_of_length_le (by omega)]
      · by_cases e : i = k
        · subst e; rw [← hp, part_fit h1 hl2 h2]
        · exact h3 i (by omega) hi2
    · cases h
def entP0 (g : Nat → Blk) (m T n at' left : Nat) : Option Bs :=
  if left = 0 then none
  else if turnOf (g (2 + at' % m)) < 1 ∨ T < turnOf (g (2 + at' % m)) ∨ 8000 < sizeOf' (g (2 + at' % m)) ∨ left < sects (sizeOf' (g (2 + at' % m))) then none
  else entP g m n at' (turnOf (g (2 + at' % m))) (sizeOf' (g (2 + at' % m))) (sects (sizeOf' (g (2 + at' % m)))) 0 []
theorem entP0_some {g : Nat → Blk} {m T n at' left t : Nat} {b : Bs} (ht : 1 ≤ t ∧ t ≤ T) (hT : T < 4294967296) (hb : b.length ≤ 8000) (hleft : sects b.length ≤ left) (hg : ∀ k, k < sects b.length → g (2 + (at' + k) % m) = partB t n b k) :
    entP0 g m T n at' left = some b := by
  have hp := sects_pos b.length
  have h0 := hg 0 (by omega)
  rw [Nat.add_zero] at h0
  unfold entP0
  rw [h0, partB_turn (by omega), partB_size (by omega), if_neg (by omega), if_neg (by omega)]
  exact entP_some rfl hg _ 0 [] (by omega) rfl (by simp)
theorem entP0_inv {g : Nat → Blk} {m T n at' left : Nat} {b : Bs} (hg64 : ∀ q, (g (2 + q % m)).length = 64) (h : entP0 g m T n at' left = some b) :
    ∃ t, 1 ≤ t ∧ t ≤ T ∧ b.length ≤ 8000 ∧ sects b.length ≤ left ∧ ∀ k, k < sects b.length → g (2 + (at' + k) % m) = partB t n b k := by
  unfold entP0 at h
  split at h
  · cases h
  · split at h
    · cases h
    · rename_i h1 h2
      obtain ⟨g1, g2, g3⟩ := entP_inv hg64 _ 0 [] (by omega) rfl h
      exact ⟨_, by omega, by omega, by omega, by rw [g1]; omega, fun k hk => g3 k (by omega) (by rw [← g1]; exact hk)⟩
/-- there is nothing whole of that number from a place on -/
def NoAt (g : Nat → Blk) (m pos n : Nat) : Prop := ∀ t b, 1 ≤ t → t ≤ 1073741824 → b.length ≤ 8000 → sects b.length ≤ m → ∃ k, k < sects b.length ∧ g (2 + (pos + k) % m) ≠ partB t n b k
theorem NoAt.scan {g : Nat → Blk} {m T n pos left : Nat} (h : NoAt g m pos n) (hg64 : ∀ q, (g (2 + q % m)).length = 64) (hl : left ≤ m) (hT : T ≤ 1073741824) : entP0 g m T n pos left = none := by
  cases he : entP0 g m T n pos left with
  | none => rfl
  | some b =>
    obtain ⟨t, h1, h2, h3, h4, h5⟩ := entP0_inv hg64 he
    obtain ⟨k, hk, hne⟩ := h t b h1 (by omega) h3 (by omega)
    exact absurd (h5 k hk) hne
def Has (g : Nat → Blk) (m T : Nat) : Nat → Nat → List Bs → Prop
  | _, _, [] => True
  | n, pos, b :: r => (∃ t, 1 ≤ t ∧ t ≤ T ∧ ∀ k, k < sects b.length → g (2 + (pos + k) % m) = partB t n b k) ∧ Has g m T (n + 1) (pos + sects b.length) r
theorem Has.frame {g g' : Nat → Blk} {m T : Nat} : ∀ {l : List Bs} {n pos pos' : Nat}, Has g m T n pos l → pos % m = pos' % m → (∀ j, j < usedL l → g' (2 + (pos + j) % m) = g (2 + (pos + j) % m)) → Has g' m T n pos' l
  | [], n, pos, pos', _, _, _ => trivial
  | b :: r, n, pos, pos', ⟨⟨t, h1, h2, h3⟩, h4⟩, hp, hg => by
    rw [usedL_cons] at hg
    refine ⟨⟨t, h1, h2, fun k hk => ?_⟩, ?_⟩
    · have e : (pos' + k) % m = (pos + k) % m := by rw [Nat.add_mod, ← hp, ← Nat.add_mod]
      rw [e, hg k (by omega), h3 k hk]
    · refine h4.frame (by rw [Nat.add_mod, hp, ← Nat.add_mod]) (fun j hj => ?_)
      have := hg (sects b.length + j) (by omega)
      rw [← Nat.add_assoc] at this; exact this
theorem Has.le {g : Nat → Blk} {m T T' : Nat} (hT : T ≤ T') : ∀ {l : List Bs} {n pos : Nat}, Has g m T n pos l → Has g m T' n pos l
  | [], _, _, _ => trivial
  | b :: r, n, pos, ⟨⟨t, h1, h2, h3⟩, h4⟩ => ⟨⟨t, h1, by omega, h3⟩, h4.le hT⟩
theorem Has.append {g : Nat → Blk} {m T : Nat} : ∀ {l l' : List Bs} {n pos : Nat}, Has g m T n pos l → Has g m T (n + l.length) (pos + usedL l) l' → Has g m T n pos (l ++ l')
  | [], l', n, pos, _, h => by simpa [usedL] using h
  | b :: r, l', n, pos, ⟨h1, h2⟩, h => by
    refine ⟨h1, h2.append ?_⟩
    rw [usedL_cons] at h
    rw [show n + 1 + r.length = n + (b :: r).length by simp; omega, Nat.add_assoc]; exact h
theorem Has.drop {g : Nat → Blk} {m T : Nat} : ∀ {l : List Bs} {n pos : Nat} (i : Nat), Has g m T n pos l → i ≤ l.length → Has g m T (n + i) (pos + usedL (l.take i)) (l.drop i)
  | l, n, pos, 0, h, _ => by simpa [usedL] using h
  | [], n, pos, i + 1, h, hi => by simp at hi
  | b :: r, n, pos, i + 1, ⟨h1, h2⟩, hi => by
    have := h2.drop i (by simpa using hi)
    simp only [List.take_succ_cons, List.drop_succ_cons, usedL_cons]
    rw [show n + (i + 1) = n + 1 + i by omega, ← Nat.add_assoc]; exact this
end Go.Proofs.E

namespace Go.Proofs.E
open Go
set_option linter.unusedVariables false
set_option linter.unusedSimpArgs false
set_option linter.unusedSectionVars false
set_option maxRecDepth 4000
set_option maxHeartbeats 1000000
attribute [local irreducible] Yl TL TC TE Spec YSpec R1 Hp.le EnvLe TS TR YS Stays
/-! ## disks with nothing in their caches -/
def img (D : DS) (i : Nat) : Blk := (D.secs[i]?.map (·.1)).getD (z8 64)
theorem img_at {D : DS} {i : Nat} (hi : i < D.secs.length) : img D i = D.secs[i].1 := by simp [img, hi]
theorem img_len {D : DS} (h : D.Ok) (i : Nat) : (img D i).length = 64 := by
  unfold img
  cases hs : D.secs[i]? with
  | none => simp [z8]
  | some p => simpa using h.secs.held p (List.mem_of_getElem? hs)
theorem img_congr {D D' : DS} (h : D'.secs = D.secs) : img D' = img D := by funext i; simp [img, h]
structure DS.Clean (D : DS) : Prop where
  ok : D.Ok
  calm : D.Calm
  empty : emptyC D.secs
theorem DS.Clean.read {D : DS} (h : D.Clean) {i : Nat} (hi : i < D.secs.length) : ∃ D', D.read (i : Int) = (D', img D i, 0) ∧ D'.Clean ∧ D'.secs = D.secs := by
  refine ⟨⟨D.secs, IntKind.i64.wrap (D.ops + 1), -1, -1, false⟩, ?_, ⟨DS.Ok.mk' h.ok.secs, DS.Calm.mk', h.empty⟩, rfl⟩
  · rw [h.calm.read_eq hi, img_at hi]
    simp [says1, h.empty _ (List.getElem_mem hi)]
theorem entGo_clean {h : Hd} {n at' t size : Nat} (hm : 0 < h.size) : ∀ (j k : Nat) (acc : Bs) (D : DS), D.Clean → h.size + 2 ≤ D.secs.length →
    ∃ D', entGo h n at' t size j k acc D = (entP (img D) h.size n at' t size j k acc, D', 0) ∧ D'.Clean ∧ D'.secs = D.secs
  | 0, k, acc, D, hD, hl => ⟨D, rfl, hD, rfl⟩
  | j + 1, k, acc, D, hD, hl => by
    have hlt : 2 + (at' + k) % h.size < D.secs.length := by have := Nat.mod_lt (at' + k) hm; omega
    obtain ⟨D1, e1, h1, h2⟩ := hD.read hlt
    unfold entGo entP
    rw [e1]
    rw [if_neg (by simp)]
    by_cases hp : partB t n (fitB size (acc ++ (img D (2 + (at' + k) % h.size)).drop 12)) k = img D (2 + (at' + k) % h.size)
    · rw [if_pos hp, if_pos hp]
      obtain ⟨D2, e2, h3, h4⟩ := entGo_clean hm j (k + 1) (acc ++ (img D (2 + (at' + k) % h.size)).drop 12) D1 h1 (by rw [h2]; exact hl)
      rw [img_congr h2] at e2
      exact ⟨D2, e2, h3, h4.trans h2⟩
    · rw [if_neg hp, if_neg hp]
      exact ⟨D1, rfl, h1, h2⟩
theorem entryR_clean {h : Hd} {n at' left : Nat} (hm : 0 < h.size) {D : DS} (hD : D.Clean) (hl : h.size + 2 ≤ D.secs.length) :
    ∃ D', entryR h n at' left D = (entP0 (img D) h.size h.turn n at' left, D', 0) ∧ D'.Clean ∧ D'.secs = D.secs := by
  unfold entryR entP0
  split
  · exact ⟨D, rfl, hD, rfl⟩
  · have hlt : 2 + at' % h.size < D.secs.length := by have := Nat.mod_lt at' hm; omega
    obtain ⟨D1, e1, h1, h2⟩ := hD.read hlt
    rw [e1, if_neg (by simp)]
    unfold entGo0
    split
    · exact ⟨D1, rfl, h1, h2⟩
    · have hs := sects_pos (sizeOf' (img D (2 + at' % h.size)))
      have e : sects (sizeOf' (img D (2 + at' % h.size))) = (sects (sizeOf' (img D (2 + at' % h.size))) - 1) + 1 := by omega
      rw [e, entP]
      simp only [Nat.add_zero, List.nil_append, Nat.zero_add, Nat.add_sub_cancel]
      split
      · obtain ⟨D2, e2, h3, h4⟩ := entGo_clean (n := n) (at' := at') (t := turnOf (img D (2 + at' % h.size))) (size := sizeOf' (img D (2 + at' % h.size))) hm (sects (sizeOf' (img D (2 + at' % h.size))) - 1) 1 ((img D (2 + at' % h.size)).drop 12) D1 h1 (by rw [h2]; exact hl)
        rw [img_congr h2] at e2
        exact ⟨D2, e2, h3, h4.trans h2⟩
      · exact ⟨D1, rfl, h1, h2⟩
theorem found_clean : ∀ (l : List Bs) (f : Nat) (R : RgS) (D : DS), D.Clean → 0 < R.h.size → R.h.size + 2 ≤ D.secs.length → R.h.turn ≤ 1073741824 → Has (img D) R.h.size R.h.turn R.next (R.h.place + R.used) l → (∀ b ∈ l, b.length ≤ 8000) →
    R.used + usedL l ≤ R.h.size → (R.next + l.length < 1099511627776 → NoAt (img D) R.h.size (R.h.place + R.used + usedL l) (R.next + l.length)) → R.next + l.length ≤ 1099511627776 → l.length < f →
    ∃ D', foundGo f R D = ({ R with ents := R.ents ++ l, used := R.used + usedL l }, D', 0) ∧ D'.Clean ∧ D'.secs = D.secs
  | _, 0, _, _, _, _, _, _, _, _, _, _, _, h => by omega
  | [], f + 1, R, D, hD, hm, hl, hT, _, _, hfit, hno, hn, hf => by
    unfold foundGo
    have hR : ({ R with ents := R.ents ++ [], used := R.used + usedL [] } : RgS) = R := by simp [usedL]
    rw [hR]
    by_cases hlt : R.next < 1099511627776
    · rw [if_pos hlt]
      obtain ⟨D', e1, h1, h2⟩ := entryR_clean (h := R.h) (n := R.next) (at' := R.h.place + R.used) (left := R.h.size - R.used) hm hD hl
      have := (hno (by simpa using hlt)).scan (T := R.h.turn) (left := R.h.size - R.used) (fun q => img_len hD.ok _) (by omega) hT
      simp only [usedL, List.map_nil, List.sum_nil, Nat.add_zero, List.length_nil] at this
      rw [e1, this]
      exact ⟨D', rfl, h1, h2⟩
    · rw [if_neg hlt]
      exact ⟨D, rfl, hD, rfl⟩
  | b :: r, f + 1, R, D, hD, hm, hl, hT, hhas, hlong, hfit, hno, hn, hf => by
    obtain ⟨⟨t, h1, h2, h3⟩, h4⟩ := hhas
    simp only [usedL_cons] at hfit hno
    simp only [List.length_cons] at hn hno hf
    unfold foundGo
    rw [if_pos (by omega)]
    obtain ⟨D1, e1, g1, g2⟩ := entryR_clean (h := R.h) (n := R.next) (at' := R.h.place + R.used) (left := R.h.size - R.used) hm hD hl
    rw [entP0_some ⟨h1, h2⟩ (by omega) (hlong b (by simp)) (by omega) h3] at e1
    rw [e1]
    simp only [if_true]
    have hnx : (R.adds b).next = R.next + 1 := by simp [RgS.adds, RgS.next]; omega
    obtain ⟨D2, e2, g3, g4⟩ := found_clean r f (R.adds b) D1 g1 hm (by rw [g2]; exact hl) hT (by
      rw [hnx, img_congr g2]
      have : (R.adds b).h.place + (R.adds b).used = R.h.place + R.used + sects b.length := by simp [RgS.adds]; omega
      rw [this]; exact h4) (fun c hc => hlong c (by simp [hc])) (by simp only [RgS.adds]; omega) (fun hlt => by
      rw [hnx, img_congr g2] at *
      have e : (R.adds b).h.place + (R.adds b).used + usedL r = R.h.place + R.used + (sects b.length + usedL r) := by simp [RgS.adds]; omega
      rw [e, show R.next + 1 + r.length = R.next + (r.length + 1) by omega]
      exact hno (by omega)) (by rw [hnx]; omega) (by omega)
    refine ⟨D2, ?_, g3, g4.trans g2⟩
    rw [e2]
    simp [RgS.adds, usedL_cons, Nat.add_assoc]
/-! ## heads -/
theorem headB_eq {h : Hd} (hn : h.note.length ≤ 32) : headB h = letB ++ (be 4 h.turn ++ (be 2 h.size ++ (be 5 h.first ++ (be 2 h.place ++ ([UInt8.ofNat h.note.length] ++ (h.note ++ z8 (42 - h.note.length))))))) := by
  unfold headB
  rw [pad_of (by simp [be_length, letB]; omega)]
  simp only [List.append_assoc, List.cons_append, List.nil_append]
  have e : 64 - (letB ++ (be 4 h.turn ++ (be 2 h.size ++ (be 5 h.first ++ (be 2 h.place ++ (UInt8.ofNat h.note.length :: h.note)))))).length = 42 - h.note.length := by simp [be_length, letB]; omega
  rw [e]
theorem headOf_headB {h : Hd} (hr : h.Right h.note.length) (hf : h.first < 1099511627776) : headOf (headB h) = h ∧ ((headB h).getD 21 0).toNat = h.note.length := by
  obtain ⟨h1, h2, h3, h4, h5, h6, h7, h8⟩ := hr
  have e := headB_eq h8
  have hl : letB.length = 8 := rfl
  have hb4 := be_length 4 h.turn
  have hb2 := be_length 2 h.size
  have hb5 := be_length 5 h.first
  have hbp := be_length 2 h.place
  have hn8 : h.note.length < 256 := by omega
  have e21 : (headB h).getD 21 0 = UInt8.ofNat h.note.length := by
    rw [e, ← List.append_assoc, ← List.append_assoc, ← List.append_assoc, ← List.append_assoc]
    rw [List.getD_eq_getElem?_getD, List.getElem?_append_right (by simp [hl, hb4, hb2, hb5, hbp])]
    simp [hl, hb4, hb2, hb5, hbp]
  have en : (UInt8.ofNat h.note.length).toNat = h.note.length := by simp; omega
  refine ⟨?_, by rw [e21, en]⟩
  unfold headOf
  have f1 : ((headB h).drop 8).take 4 = be 4 h.turn := by rw [e]; exact mid hl hb4
  have f2 : ((headB h).drop 12).take 2 = be 2 h.size := by
    rw [e, ← List.append_assoc]; exact mid (by simp [hl, hb4]) hb2
  have f3 : ((headB h).drop 14).take 5 = be 5 h.first := by
    rw [e, ← List.append_assoc, ← List.append_assoc]; exact mid (by simp [hl, hb4, hb2]) hb5
  have f4 : ((headB h).drop 19).take 2 = be 2 h.place := by
    rw [e, ← List.append_assoc, ← List.append_assoc, ← List.append_assoc]; exact mid (by simp [hl, hb4, hb2, hb5]) hbp
  have f5 : ((headB h).drop 22).take h.note.length = h.note := by
    rw [e, ← List.append_assoc, ← List.append_assoc, ← List.append_assoc, ← List.append_assoc, ← List.append_assoc]; exact mid (by simp [hl, hb4, hb2, hb5, hbp]) rfl
  have g1 : h.turn % 256 ^ 4 = h.turn := Nat.mod_eq_of_lt (by simp; omega)
  have g2 : h.size % 256 ^ 2 = h.size := Nat.mod_eq_of_lt (by simp; omega)
  have g3 : h.first % 256 ^ 5 = h.first := Nat.mod_eq_of_lt (by simp; omega)
  have g4 : h.place % 256 ^ 2 = h.place := Nat.mod_eq_of_lt (by simp; omega)
  rw [e21, en, f1, f2, f3, f4, f5, unbe_be, unbe_be, unbe_be, unbe_be, g1, g2, g3, g4]
theorem readB_headB {h : Hd} (hr : h.Right h.note.length) (hf : h.first < 1099511627776) : readB (headB h) = (h, true) := by
  obtain ⟨h1, h2⟩ := headOf_headB hr hf
  unfold readB
  rw [h1, h2, if_pos hr]; simp
theorem RgS.Ok.right {R : RgS} (h : R.Ok) : R.h.Right R.h.note.length := ⟨h.turn.1, h.turn.2, h.size.1, h.size.2, h.first, by have := h.next; unfold RgS.next at this; omega, h.place, h.note⟩
end Go.Proofs.E

