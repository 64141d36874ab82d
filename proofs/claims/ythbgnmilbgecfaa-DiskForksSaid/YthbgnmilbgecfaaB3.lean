/- The disk of layer 2 as a model, and what its functions come to. Part 3 of 3. -/
import Derived.Test.YthbgnmilbgecfaaB2
import Derived.ProofKit
import Derived.OpenShut
import Derived.ChangeOld
import Derived.Below
import Derived.Carry
import Derived.SizedLaws
namespace Go.Proofs.E
open Go
set_option linter.unusedVariables false
set_option linter.unusedSimpArgs false
set_option maxRecDepth 4000
attribute [local irreducible] Yl TL TC TE Spec YSpec R1 Hp.le EnvLe TS TR YS Stays

def isP (s : Secs) (i : Nat) : Bool := ((s[i]?).bind (·.2)).isSome
def pendTo (s : Secs) (k : Nat) : List Nat := (List.range k).filter (isP s)
def pend (s : Secs) : List Nat := pendTo s s.length
theorem pendTo_succ_t {s : Secs} {k : Nat} (h : isP s k = true) : pendTo s (k + 1) = pendTo s k ++ [k] := by simp [pendTo, List.range_succ, h]
theorem pendTo_succ_f {s : Secs} {k : Nat} (h : isP s k = false) : pendTo s (k + 1) = pendTo s k := by simp [pendTo, List.range_succ, h]
theorem pendTo_pre {s : Secs} {k m : Nat} (h : k ≤ m) : pendTo s k <+: pendTo s m := by
  induction m with
  | zero => have : k = 0 := by omega
            subst this; exact List.prefix_refl _
  | succ m ih =>
    by_cases e : k = m + 1
    · subst e; exact List.prefix_refl _
    · refine (ih (by omega)).trans ?_
      cases hp : isP s m
      · rw [pendTo_succ_f hp]; exact List.prefix_refl _
      · rw [pendTo_succ_t hp]; exact List.prefix_append _ _
def natE (i : Nat) : List Value := [.int .i64 i]

theorem pending1_iter (ρ0 : Hp) (b : Nat) (hb : HB) (mb bx : Nat) (s : Secs) (ops armed failing : Int) (dead : Bool) (es : List MapEntry) (ck : Nat) (hm : MapOk s es) (hs : SecsOk s) :
    Iter Try.prog 57 [] [.pointer (some ⟨bx, 0, none⟩)] natE ρ0
      [[(bx, .cells ⟨[.pointer (some ⟨b, 0, none⟩)]⟩ 27 (0, 0))], [(b, dO hb mb s.length ops armed failing dead)], [(mb, .map ⟨es⟩ ck)]] (pend s) := by
  intro l J Jx hY ρ Lj hle hJ
  refine spec_enter Try.func57 rfl rfl rfl fun u R => ?_
  simp only [argsE, List.cons_append, List.nil_append, dO]
  have hk := hm.keys
  have hlen := hs.len
  repeat' (first | (refine i_op ?_; first | (refine iMv ?_; refine qMv ?_) | (refine iLd ?_; refine qLd ?_) | (refine iFa ?_; refine qFa ?_) | (refine iAd ?_; refine qAd ?_) | (refine iSb ?_; refine qSb ?_) | (refine iMl ?_; refine qMl ?_) | (refine iRm ?_; refine qRm ?_) | (refine iQu ?_; refine qQu ?_) | (refine iSr ?_; refine qSr ?_) | (refine iSh ?_; refine qSh ?_) | (refine iCm ?_; refine qCm ?_) | (refine iEx ?_; refine qEx ?_) | (refine iAs ?_; refine qAs ?_) | (refine iPk ?_; refine qPk ?_) | (refine iNc ?_; refine qNc ?_) | (refine iIa ?_; refine qIa ?_) | (refine iCv ?_; refine qCv ?_) | (refine iBi ?_; refine qBi ?_) | (refine iUn ?_; refine qUn ?_) | (refine iFl ?_; refine qFl ?_) | (refine iLu ?_; refine qLu ?_) | (refine iBu ?_; refine qBu ?_) | (refine iSl ?_; refine qSl ?_) | (refine iMf ?_; refine qMf ?_) | (refine iMi ?_; refine qMi ?_) | (refine iTa ?_; refine qTa ?_) | (refine iSt ?_; refine qSt ?_) | (refine iAl ?_; first | refine qAlA (fun _ => ?_) | refine qAlS (fun _ => ?_)) | (refine iBx ?_; first | refine qBxA (fun _ => ?_) | refine qBxS (fun _ => ?_)) | (refine iMm ?_; refine qMm (fun _ => ?_)) | (refine iBs ?_; refine qBs (fun _ => ?_)) | (refine i_gd ?_; first | refine qWant ?_ | refine qSkip ?_ | refine qSkip0 ?_ | refine qSkipU ?_)) | refine tl_nil ?_ | refine tc_seq ?_ | refine tc_region ?_ | refine te_seq ?_ | (refine i_cond ?_; first | refine qCt ?_ | refine qCf ?_) | refine tc_block ?_ | refine te_block_normal ?_ | refine te_block_ret ?_ | refine te_then_ret ?_ | refine te_block_hit ?_ | (refine i_miss ?_; refine qMiss ?_) | refine te_then_exit ?_ | refine tc_exit ?_ | refine tc_ret ?_ | refine tc_skip ?_)
  refine tc_loop_e (fun (y : Nat × Hp × SH) => ⟨[(0, .func (.yield l) ⟨[]⟩ ⟨[]⟩), (1, .pointer (some ⟨bx, 0, none⟩)), (10, .int .i64 s.length), (11, .int .i64 y.1)], y.2.1,
      [[(bx, .cells ⟨[.pointer (some ⟨b, 0, none⟩)]⟩ 27 (0, 0))], [(b, dO hb mb s.length ops armed failing dead)], [(mb, .map ⟨es⟩ ck)]] ++ y.2.2 ++ R⟩)
    (fun y => y.1 ≤ s.length ∧ ρ.le y.2.1 ∧ J (pendTo s y.1) y.2.1 y.2.2) (fun y => s.length - y.1) (0, ρ, Lj) rfl ⟨by simp, Hp.le_refl _, hJ⟩
    ev_le rfl tk inferInstance ?_
  rintro ⟨k, ρ1, L1⟩ ⟨h1, h2, h3⟩
  dsimp only at h1 h2 h3 ⊢
  simp only [List.cons_append, List.nil_append, dO]
  by_cases hlt : k < s.length
  · have hat := hm.at hlt
    cases hc : s[k].2 with
    | none =>
      rw [hc] at hat
      simp only [Option.map_none] at hat
      have hp : isP s k = false := by simp [isP, hlt, hc]
      repeat' (first | (refine i_op ?_; first | (refine iMv ?_; refine qMv ?_) | (refine iLd ?_; refine qLd ?_) | (refine iFa ?_; refine qFa ?_) | (refine iAd ?_; refine qAd ?_) | (refine iSb ?_; refine qSb ?_) | (refine iMl ?_; refine qMl ?_) | (refine iRm ?_; refine qRm ?_) | (refine iQu ?_; refine qQu ?_) | (refine iSr ?_; refine qSr ?_) | (refine iSh ?_; refine qSh ?_) | (refine iCm ?_; refine qCm ?_) | (refine iEx ?_; refine qEx ?_) | (refine iAs ?_; refine qAs ?_) | (refine iPk ?_; refine qPk ?_) | (refine iNc ?_; refine qNc ?_) | (refine iIa ?_; refine qIa ?_) | (refine iCv ?_; refine qCv ?_) | (refine iBi ?_; refine qBi ?_) | (refine iUn ?_; refine qUn ?_) | (refine iFl ?_; refine qFl ?_) | (refine iLu ?_; refine qLu ?_) | (refine iBu ?_; refine qBu ?_) | (refine iSl ?_; refine qSl ?_) | (refine iMf ?_; refine qMf ?_) | (refine iMi ?_; refine qMi ?_) | (refine iTa ?_; refine qTa ?_) | (refine iSt ?_; refine qSt ?_) | (refine iAl ?_; first | refine qAlA (fun _ => ?_) | refine qAlS (fun _ => ?_)) | (refine iBx ?_; first | refine qBxA (fun _ => ?_) | refine qBxS (fun _ => ?_)) | (refine iMm ?_; refine qMm (fun _ => ?_)) | (refine iBs ?_; refine qBs (fun _ => ?_)) | (refine i_gd ?_; first | refine qWant ?_ | refine qSkip ?_ | refine qSkip0 ?_ | refine qSkipU ?_)) | refine tl_nil ?_ | refine tc_seq ?_ | refine tc_region ?_ | refine te_seq ?_ | (refine i_cond ?_; first | refine qCt ?_ | refine qCf ?_) | refine tc_block ?_ | refine te_block_normal ?_ | refine te_block_ret ?_ | refine te_then_ret ?_ | refine te_block_hit ?_ | (refine i_miss ?_; refine qMiss ?_) | refine te_then_exit ?_ | refine tc_exit ?_ | refine tc_ret ?_ | refine tc_skip ?_)
      refine te_round_e (Lm := [_, _, _] ++ L1) (R := R) (k + 1, ρ1, L1) rfl ⟨by omega, h2, by dsimp only; rw [pendTo_succ_f hp]; exact h3⟩ ev_le rfl tk inferInstance (by dsimp only; omega)
    | some c =>
      rw [hc] at hat
      simp only [Option.map_some] at hat
      have hp : isP s k = true := by simp [isP, hlt, hc]
      have hsub := pendTo_succ_t hp
      have hpre : pendTo s k ++ [k] <+: pend s := by rw [← hsub]; exact pendTo_pre (by omega)
      have hone := u8c_one c
      have hcl : (c.map u8c).length = 64 := by simpa using hs.cached s[k] (List.getElem_mem hlt) c hc
      have hy := hY (pendTo s k) k ρ1 L1 hpre (Hp.le_trans hle h2) h3
      unfold dO at hy
      repeat' (first | (refine tl_is (.tmp 25) ?_; refine qY rfl rfl (hy) ?_; rintro v ρ' L' hle ⟨Lj', rfl, ⟨rfl, hj⟩ | ⟨rfl, hj⟩⟩ <;> (try simp only [List.cons_append, List.nil_append, List.append_eq])) | (refine i_op ?_; first | (refine iMv ?_; refine qMv ?_) | (refine iLd ?_; refine qLd ?_) | (refine iFa ?_; refine qFa ?_) | (refine iAd ?_; refine qAd ?_) | (refine iSb ?_; refine qSb ?_) | (refine iMl ?_; refine qMl ?_) | (refine iRm ?_; refine qRm ?_) | (refine iQu ?_; refine qQu ?_) | (refine iSr ?_; refine qSr ?_) | (refine iSh ?_; refine qSh ?_) | (refine iCm ?_; refine qCm ?_) | (refine iEx ?_; refine qEx ?_) | (refine iAs ?_; refine qAs ?_) | (refine iPk ?_; refine qPk ?_) | (refine iNc ?_; refine qNc ?_) | (refine iIa ?_; refine qIa ?_) | (refine iCv ?_; refine qCv ?_) | (refine iBi ?_; refine qBi ?_) | (refine iUn ?_; refine qUn ?_) | (refine iFl ?_; refine qFl ?_) | (refine iLu ?_; refine qLu ?_) | (refine iBu ?_; refine qBu ?_) | (refine iSl ?_; refine qSl ?_) | (refine iMf ?_; refine qMf ?_) | (refine iMi ?_; refine qMi ?_) | (refine iTa ?_; refine qTa ?_) | (refine iSt ?_; refine qSt ?_) | (refine iAl ?_; first | refine qAlA (fun _ => ?_) | refine qAlS (fun _ => ?_)) | (refine iBx ?_; first | refine qBxA (fun _ => ?_) | refine qBxS (fun _ => ?_)) | (refine iMm ?_; refine qMm (fun _ => ?_)) | (refine iBs ?_; refine qBs (fun _ => ?_)) | (refine i_gd ?_; first | refine qWant ?_ | refine qSkip ?_ | refine qSkip0 ?_ | refine qSkipU ?_)) | refine tl_nil ?_ | refine tc_seq ?_ | refine tc_region ?_ | refine te_seq ?_ | (refine i_cond ?_; first | refine qCt ?_ | refine qCf ?_) | refine tc_block ?_ | refine te_block_normal ?_ | refine te_block_ret ?_ | refine te_then_ret ?_ | refine te_block_hit ?_ | (refine i_miss ?_; refine qMiss ?_) | refine te_then_exit ?_ | refine tc_exit ?_ | refine tc_ret ?_ | refine tc_skip ?_)
      · refine te_round_e (Lm := [_, _, _] ++ Lj') (R := R) (k + 1, ρ', Lj') rfl ⟨by omega, Hp.le_trans h2 hle, by dsimp only; rw [hsub]; exact hj⟩ ev_le rfl tk inferInstance (by dsimp only; omega)
      · exact te_end rfl rfl rfl (res0 rfl) (Hp.le_trans h2 hle) tk (by infer_instance) ⟨Lj', rfl, .inr hj⟩
  · have hk2 : k = s.length := by omega
    subst hk2
    repeat' (first | (refine i_op ?_; first | (refine iMv ?_; refine qMv ?_) | (refine iLd ?_; refine qLd ?_) | (refine iFa ?_; refine qFa ?_) | (refine iAd ?_; refine qAd ?_) | (refine iSb ?_; refine qSb ?_) | (refine iMl ?_; refine qMl ?_) | (refine iRm ?_; refine qRm ?_) | (refine iQu ?_; refine qQu ?_) | (refine iSr ?_; refine qSr ?_) | (refine iSh ?_; refine qSh ?_) | (refine iCm ?_; refine qCm ?_) | (refine iEx ?_; refine qEx ?_) | (refine iAs ?_; refine qAs ?_) | (refine iPk ?_; refine qPk ?_) | (refine iNc ?_; refine qNc ?_) | (refine iIa ?_; refine qIa ?_) | (refine iCv ?_; refine qCv ?_) | (refine iBi ?_; refine qBi ?_) | (refine iUn ?_; refine qUn ?_) | (refine iFl ?_; refine qFl ?_) | (refine iLu ?_; refine qLu ?_) | (refine iBu ?_; refine qBu ?_) | (refine iSl ?_; refine qSl ?_) | (refine iMf ?_; refine qMf ?_) | (refine iMi ?_; refine qMi ?_) | (refine iTa ?_; refine qTa ?_) | (refine iSt ?_; refine qSt ?_) | (refine iAl ?_; first | refine qAlA (fun _ => ?_) | refine qAlS (fun _ => ?_)) | (refine iBx ?_; first | refine qBxA (fun _ => ?_) | refine qBxS (fun _ => ?_)) | (refine iMm ?_; refine qMm (fun _ => ?_)) | (refine iBs ?_; refine qBs (fun _ => ?_)) | (refine i_gd ?_; first | refine qWant ?_ | refine qSkip ?_ | refine qSkip0 ?_ | refine qSkipU ?_)) | refine tl_nil ?_ | refine tc_seq ?_ | refine tc_region ?_ | refine te_seq ?_ | (refine i_cond ?_; first | refine qCt ?_ | refine qCf ?_) | refine tc_block ?_ | refine te_block_normal ?_ | refine te_block_ret ?_ | refine te_then_ret ?_ | refine te_block_hit ?_ | (refine i_miss ?_; refine qMiss ?_) | refine te_then_exit ?_ | refine tc_exit ?_ | refine tc_ret ?_ | refine tc_skip ?_)
    exact te_end rfl rfl rfl (res0 rfl) h2 tk (by infer_instance) ⟨L1, rfl, .inl h3⟩
end Go.Proofs.E

namespace Go.Proofs.E
open Go
set_option linter.unusedVariables false
set_option linter.unusedSimpArgs false
set_option maxRecDepth 4000
attribute [local irreducible] Yl TL TC TE Spec YSpec R1 Hp.le EnvLe TS TR YS Stays

theorem pending_spec (ρ : Hp) (b : Nat) : Spec Try.prog 42 [.pointer (some ⟨b, 0, none⟩)] ρ [] (fun v ρ' L' => ∃ bx, v = .func (.func 57) ⟨[]⟩ ⟨[.pointer (some ⟨bx, 0, none⟩)]⟩ ∧ ρ' = ρ ∧ L' = [[(bx, .cells ⟨[.pointer (some ⟨b, 0, none⟩)]⟩ 27 (0, 0))]]) := by
  refine spec_enter Try.func42 rfl rfl rfl fun u R => ?_
  simp only [argsE, List.cons_append, List.nil_append]
  repeat' (first | (refine i_op ?_; first | (refine iMv ?_; refine qMv ?_) | (refine iLd ?_; refine qLd ?_) | (refine iFa ?_; refine qFa ?_) | (refine iAd ?_; refine qAd ?_) | (refine iSb ?_; refine qSb ?_) | (refine iMl ?_; refine qMl ?_) | (refine iRm ?_; refine qRm ?_) | (refine iQu ?_; refine qQu ?_) | (refine iSr ?_; refine qSr ?_) | (refine iSh ?_; refine qSh ?_) | (refine iCm ?_; refine qCm ?_) | (refine iEx ?_; refine qEx ?_) | (refine iAs ?_; refine qAs ?_) | (refine iPk ?_; refine qPk ?_) | (refine iNc ?_; refine qNc ?_) | (refine iIa ?_; refine qIa ?_) | (refine iCv ?_; refine qCv ?_) | (refine iBi ?_; refine qBi ?_) | (refine iUn ?_; refine qUn ?_) | (refine iFl ?_; refine qFl ?_) | (refine iLu ?_; refine qLu ?_) | (refine iBu ?_; refine qBu ?_) | (refine iSl ?_; refine qSl ?_) | (refine iMf ?_; refine qMf ?_) | (refine iMi ?_; refine qMi ?_) | (refine iTa ?_; refine qTa ?_) | (refine iSt ?_; refine qSt ?_) | (refine iAl ?_; first | refine qAlA (fun _ => ?_) | refine qAlS (fun _ => ?_)) | (refine iBx ?_; first | refine qBxA (fun _ => ?_) | refine qBxS (fun _ => ?_)) | (refine iMm ?_; refine qMm (fun _ => ?_)) | (refine iBs ?_; refine qBs (fun _ => ?_)) | (refine i_gd ?_; first | refine qWant ?_ | refine qSkip ?_ | refine qSkip0 ?_ | refine qSkipU ?_)) | refine tl_nil ?_ | refine tc_seq ?_ | refine tc_region ?_ | refine te_seq ?_ | (refine i_cond ?_; first | refine qCt ?_ | refine qCf ?_) | refine tc_block ?_ | refine te_block_normal ?_ | refine te_block_ret ?_ | refine te_then_ret ?_ | refine te_block_hit ?_ | (refine i_miss ?_; refine qMiss ?_) | refine te_then_exit ?_ | refine tc_exit ?_ | refine tc_ret ?_ | refine tc_skip ?_)
  exact qE ⟨_, rfl, rfl, rfl⟩
def iv (i : Nat) : Value := .int .i64 i
theorem iv_one (l : List Nat) : (l.map iv).all (·.oneCell') = true := by
  rw [List.all_eq_true]; intro v hv; obtain ⟨b, _, rfl⟩ := List.mem_map.1 hv; rfl

theorem appendSeq_spec (ρ0 ρ : Hp) (g : Nat) (cs : List Value) (S : SH) (xs : List Nat) (hle : ρ0.le ρ) (hxs : xs.length ≤ 1000000) (hI : Iter Try.prog g [] cs natE ρ0 S xs) [hF : Fun Try.prog g] :
    Spec Try.prog 56 [.slice none 0 0, .func (.func g) ⟨[]⟩ ⟨cs⟩] ρ S (fun v ρ' L' => ρ.le ρ' ∧ ∃ sp, OwnS v xs.length (xs.map iv) sp 1 ∧ L' = S ++ [ownC v (xs.map iv) sp 3]) := by
  refine spec_enter Try.func56 rfl rfl rfl fun u R => ?_
  simp only [argsE, List.cons_append, List.nil_append]
  repeat' (first | (refine i_op ?_; first | (refine iMv ?_; refine qMv ?_) | (refine iLd ?_; refine qLd ?_) | (refine iFa ?_; refine qFa ?_) | (refine iAd ?_; refine qAd ?_) | (refine iSb ?_; refine qSb ?_) | (refine iMl ?_; refine qMl ?_) | (refine iRm ?_; refine qRm ?_) | (refine iQu ?_; refine qQu ?_) | (refine iSr ?_; refine qSr ?_) | (refine iSh ?_; refine qSh ?_) | (refine iCm ?_; refine qCm ?_) | (refine iEx ?_; refine qEx ?_) | (refine iAs ?_; refine qAs ?_) | (refine iPk ?_; refine qPk ?_) | (refine iNc ?_; refine qNc ?_) | (refine iIa ?_; refine qIa ?_) | (refine iCv ?_; refine qCv ?_) | (refine iBi ?_; refine qBi ?_) | (refine iUn ?_; refine qUn ?_) | (refine iFl ?_; refine qFl ?_) | (refine iLu ?_; refine qLu ?_) | (refine iBu ?_; refine qBu ?_) | (refine iSl ?_; refine qSl ?_) | (refine iMf ?_; refine qMf ?_) | (refine iMi ?_; refine qMi ?_) | (refine iTa ?_; refine qTa ?_) | (refine iSt ?_; refine qSt ?_) | (refine iAl ?_; first | refine qAlA (fun _ => ?_) | refine qAlS (fun _ => ?_)) | (refine iBx ?_; first | refine qBxA (fun _ => ?_) | refine qBxS (fun _ => ?_)) | (refine iMm ?_; refine qMm (fun _ => ?_)) | (refine iBs ?_; refine qBs (fun _ => ?_)) | (refine i_gd ?_; first | refine qWant ?_ | refine qSkip ?_ | refine qSkip0 ?_ | refine qSkipU ?_)) | refine tl_nil ?_ | refine tc_seq ?_ | refine tc_region ?_ | refine te_seq ?_ | (refine i_cond ?_; first | refine qCt ?_ | refine qCf ?_) | refine tc_block ?_ | refine te_block_normal ?_ | refine te_block_ret ?_ | refine te_then_ret ?_ | refine te_block_hit ?_ | (refine i_miss ?_; refine qMiss ?_) | refine te_then_exit ?_ | refine tc_exit ?_ | refine tc_ret ?_ | refine tc_skip ?_)
  rename_i sb
  refine tc_rangeFunc (S := S) (L0 := [[(sb, .cells ⟨[.slice none 0 0]⟩ 40 (0, 0))], ownC (.slice none 0 0) [] [] 3]) (R := R) (R0 := [(sb, .cells ⟨[.slice none 0 0]⟩ 40 (0, 0))] :: R) rfl rfl hI hle (fun _ => rfl) rfl
    (fun pre ρ' Lu => ρ.le ρ' ∧ ∃ v sp, OwnS v pre.length (pre.map iv) sp 1 ∧ Lu = [[(sb, .cells ⟨[v]⟩ 40 (0, 0))], ownC v (pre.map iv) sp 3]) (fun _ _ _ => False) ?k1 ?k2 ⟨Hp.le_refl _, _, [], OwnS.nil 1, rfl⟩ ?round ?done ?stop
  case k1 => exact take_skip' take_app'
  case k2 => exact take_cons' rem_here' (take_cons' rem_nil' take_nil')
  case stop => rintro D0 c ρ' Lu _ hf; exact hf.elim
  case round =>
    rintro l tm r pre y ρ' Lu u R' hpre hle' ⟨hle2, v, sp, hown, rfl⟩ hr hrec
    simp only [envP, natE, List.cons_append, List.nil_append]
    repeat' (first | (refine i_op ?_; first | (refine iMv ?_; refine qMv ?_) | (refine iLd ?_; refine qLd ?_) | (refine iFa ?_; refine qFa ?_) | (refine iAd ?_; refine qAd ?_) | (refine iSb ?_; refine qSb ?_) | (refine iMl ?_; refine qMl ?_) | (refine iRm ?_; refine qRm ?_) | (refine iQu ?_; refine qQu ?_) | (refine iSr ?_; refine qSr ?_) | (refine iSh ?_; refine qSh ?_) | (refine iCm ?_; refine qCm ?_) | (refine iEx ?_; refine qEx ?_) | (refine iAs ?_; refine qAs ?_) | (refine iPk ?_; refine qPk ?_) | (refine iNc ?_; refine qNc ?_) | (refine iIa ?_; refine qIa ?_) | (refine iCv ?_; refine qCv ?_) | (refine iBi ?_; refine qBi ?_) | (refine iUn ?_; refine qUn ?_) | (refine iFl ?_; refine qFl ?_) | (refine iLu ?_; refine qLu ?_) | (refine iBu ?_; refine qBu ?_) | (refine iSl ?_; refine qSl ?_) | (refine iMf ?_; refine qMf ?_) | (refine iMi ?_; refine qMi ?_) | (refine iTa ?_; refine qTa ?_) | (refine iSt ?_; refine qSt ?_) | (refine iAl ?_; first | refine qAlA (fun _ => ?_) | refine qAlS (fun _ => ?_)) | (refine iBx ?_; first | refine qBxA (fun _ => ?_) | refine qBxS (fun _ => ?_)) | (refine iMm ?_; refine qMm (fun _ => ?_)) | (refine iBs ?_; refine qBs (fun _ => ?_)) | (refine i_gd ?_; first | refine qWant ?_ | refine qSkip ?_ | refine qSkip0 ?_ | refine qSkipU ?_)) | refine tl_nil ?_ | refine tc_seq ?_ | refine tc_region ?_ | refine te_seq ?_ | (refine i_cond ?_; first | refine qCt ?_ | refine qCf ?_) | refine tc_block ?_ | refine te_block_normal ?_ | refine te_block_ret ?_ | refine te_then_ret ?_ | refine te_block_hit ?_ | (refine i_miss ?_; refine qMiss ?_) | refine te_then_exit ?_ | refine tc_exit ?_ | refine tc_ret ?_ | refine tc_skip ?_)
    refine te_begin rfl hr (fun r' hb hrec' => ?_)
    have hlen := hpre.length_le
    simp only [List.length_append, List.length_singleton] at hlen
    repeat' (first | (refine tl_buildSlice_s rfl rfl rfl rfl (by simp) rfl rfl (fun _ => ?_)) | (refine tl_append (ys := [_]) rfl rfl hown (Src.find (n := 1) rfl) rfl rfl (by decide) rfl (by omega) (by omega) rfl (fun v' sp' hown' => ?_); obtain ⟨a', cap', rfl, hvl⟩ := hown'.len) | (refine i_op ?_; first | (refine iMv ?_; refine qMv ?_) | (refine iLd ?_; refine qLd ?_) | (refine iFa ?_; refine qFa ?_) | (refine iAd ?_; refine qAd ?_) | (refine iSb ?_; refine qSb ?_) | (refine iMl ?_; refine qMl ?_) | (refine iRm ?_; refine qRm ?_) | (refine iQu ?_; refine qQu ?_) | (refine iSr ?_; refine qSr ?_) | (refine iSh ?_; refine qSh ?_) | (refine iCm ?_; refine qCm ?_) | (refine iEx ?_; refine qEx ?_) | (refine iAs ?_; refine qAs ?_) | (refine iPk ?_; refine qPk ?_) | (refine iNc ?_; refine qNc ?_) | (refine iIa ?_; refine qIa ?_) | (refine iCv ?_; refine qCv ?_) | (refine iBi ?_; refine qBi ?_) | (refine iUn ?_; refine qUn ?_) | (refine iFl ?_; refine qFl ?_) | (refine iLu ?_; refine qLu ?_) | (refine iBu ?_; refine qBu ?_) | (refine iSl ?_; refine qSl ?_) | (refine iMf ?_; refine qMf ?_) | (refine iMi ?_; refine qMi ?_) | (refine iTa ?_; refine qTa ?_) | (refine iSt ?_; refine qSt ?_) | (refine iAl ?_; first | refine qAlA (fun _ => ?_) | refine qAlS (fun _ => ?_)) | (refine iBx ?_; first | refine qBxA (fun _ => ?_) | refine qBxS (fun _ => ?_)) | (refine iMm ?_; refine qMm (fun _ => ?_)) | (refine iBs ?_; refine qBs (fun _ => ?_)) | (refine i_gd ?_; first | refine qWant ?_ | refine qSkip ?_ | refine qSkip0 ?_ | refine qSkipU ?_)) | refine tl_nil ?_ | refine tc_seq ?_ | refine tc_region ?_ | refine te_seq ?_ | (refine i_cond ?_; first | refine qCt ?_ | refine qCf ?_) | refine tc_block ?_ | refine te_block_normal ?_ | refine te_block_ret ?_ | refine te_then_ret ?_ | refine te_block_hit ?_ | (refine i_miss ?_; refine qMiss ?_) | refine te_then_exit ?_ | refine tc_exit ?_ | refine tc_ret ?_ | refine tc_skip ?_)
    refine te_front [(l, .loop r')] ?_
    refine te_next (Lu := [[(sb, .cells ⟨[.slice a' (pre.length + 1) cap']⟩ 40 (0, 0))], ownC (.slice a' (pre.length + 1) cap') (pre.map iv ++ [.int .i64 (y : Int)]) sp' 3]) rfl (Hp.le_refl _) ⟨hrec'.tmps.trans hrec.tmps, hrec'.params.trans hrec.params, hrec'.assign.trans hrec.assign, hrec'.body.trans hrec.body⟩ tk tk inferInstance ?_
    refine ⟨hle2, .slice a' (pre.length + 1) cap', sp', ?_, ?_⟩
    · simpa [iv] using hown'
    · simp [iv]
  case done =>
    rintro D0 ρ' Lu hle' ⟨hle2, v, sp, hown, rfl⟩
    simp only [List.cons_append, List.nil_append]
    obtain ⟨a', cap', rfl, hvl⟩ := hown.len
    repeat' (first | (refine i_op ?_; first | (refine iMv ?_; refine qMv ?_) | (refine iLd ?_; refine qLd ?_) | (refine iFa ?_; refine qFa ?_) | (refine iAd ?_; refine qAd ?_) | (refine iSb ?_; refine qSb ?_) | (refine iMl ?_; refine qMl ?_) | (refine iRm ?_; refine qRm ?_) | (refine iQu ?_; refine qQu ?_) | (refine iSr ?_; refine qSr ?_) | (refine iSh ?_; refine qSh ?_) | (refine iCm ?_; refine qCm ?_) | (refine iEx ?_; refine qEx ?_) | (refine iAs ?_; refine qAs ?_) | (refine iPk ?_; refine qPk ?_) | (refine iNc ?_; refine qNc ?_) | (refine iIa ?_; refine qIa ?_) | (refine iCv ?_; refine qCv ?_) | (refine iBi ?_; refine qBi ?_) | (refine iUn ?_; refine qUn ?_) | (refine iFl ?_; refine qFl ?_) | (refine iLu ?_; refine qLu ?_) | (refine iBu ?_; refine qBu ?_) | (refine iSl ?_; refine qSl ?_) | (refine iMf ?_; refine qMf ?_) | (refine iMi ?_; refine qMi ?_) | (refine iTa ?_; refine qTa ?_) | (refine iSt ?_; refine qSt ?_) | (refine iAl ?_; first | refine qAlA (fun _ => ?_) | refine qAlS (fun _ => ?_)) | (refine iBx ?_; first | refine qBxA (fun _ => ?_) | refine qBxS (fun _ => ?_)) | (refine iMm ?_; refine qMm (fun _ => ?_)) | (refine iBs ?_; refine qBs (fun _ => ?_)) | (refine i_gd ?_; first | refine qWant ?_ | refine qSkip ?_ | refine qSkip0 ?_ | refine qSkipU ?_)) | refine tl_nil ?_ | refine tc_seq ?_ | refine tc_region ?_ | refine te_seq ?_ | (refine i_cond ?_; first | refine qCt ?_ | refine qCf ?_) | refine tc_block ?_ | refine te_block_normal ?_ | refine te_block_ret ?_ | refine te_then_ret ?_ | refine te_block_hit ?_ | (refine i_miss ?_; refine qMiss ?_) | refine te_then_exit ?_ | refine tc_exit ?_ | refine tc_ret ?_ | refine tc_skip ?_)
    exact te_end_d rfl rfl rfl inferInstance (res1 rfl (r1_tmp rfl)) hle2 (take_append' (take_skip' take_app') tk) (by infer_instance) ⟨hle2, sp, hown, rfl⟩
end Go.Proofs.E

namespace Go.Proofs.E
open Go
set_option linter.unusedVariables false
set_option linter.unusedSimpArgs false
set_option maxRecDepth 4000
attribute [local irreducible] Yl TL TC TE Spec YSpec R1 Hp.le EnvLe TS TR YS Stays

theorem pendTo_length (s : Secs) (k : Nat) : (pendTo s k).length ≤ k := by
  unfold pendTo
  refine Nat.le_trans (List.length_filter_le _ _) (by simp)
theorem pend_length {s : Secs} (h : SecsOk s) : (pend s).length ≤ 2048 := Nat.le_trans (pendTo_length s _) h.len

theorem collect_spec (ρ0 ρ : Hp) (g : Nat) (cs : List Value) (S : SH) (xs : List Nat) (hle : ρ0.le ρ) (hxs : xs.length ≤ 1000000) (hI : Iter Try.prog g [] cs natE ρ0 S xs) [hF : Fun Try.prog g] :
    Spec Try.prog 41 [.func (.func g) ⟨[]⟩ ⟨cs⟩] ρ S (fun v ρ' L' => ρ.le ρ' ∧ ∃ sp, OwnS v xs.length (xs.map iv) sp 1 ∧ L' = S ++ [ownC v (xs.map iv) sp 3]) := by
  refine spec_enter Try.func41 rfl rfl rfl fun u R => ?_
  simp only [argsE, List.cons_append, List.nil_append]
  repeat' (first | (refine tl_is (.func 56) ?_; refine tl_call rfl rfl (appendSeq_spec ρ0 ρ g cs S xs hle hxs hI) take_app' rfl ?_; rintro v ρ' L' hle' ⟨hle2, sp, hown, rfl⟩) | (refine i_op ?_; first | (refine iMv ?_; refine qMv ?_) | (refine iLd ?_; refine qLd ?_) | (refine iFa ?_; refine qFa ?_) | (refine iAd ?_; refine qAd ?_) | (refine iSb ?_; refine qSb ?_) | (refine iMl ?_; refine qMl ?_) | (refine iRm ?_; refine qRm ?_) | (refine iQu ?_; refine qQu ?_) | (refine iSr ?_; refine qSr ?_) | (refine iSh ?_; refine qSh ?_) | (refine iCm ?_; refine qCm ?_) | (refine iEx ?_; refine qEx ?_) | (refine iAs ?_; refine qAs ?_) | (refine iPk ?_; refine qPk ?_) | (refine iNc ?_; refine qNc ?_) | (refine iIa ?_; refine qIa ?_) | (refine iCv ?_; refine qCv ?_) | (refine iBi ?_; refine qBi ?_) | (refine iUn ?_; refine qUn ?_) | (refine iFl ?_; refine qFl ?_) | (refine iLu ?_; refine qLu ?_) | (refine iBu ?_; refine qBu ?_) | (refine iSl ?_; refine qSl ?_) | (refine iMf ?_; refine qMf ?_) | (refine iMi ?_; refine qMi ?_) | (refine iTa ?_; refine qTa ?_) | (refine iSt ?_; refine qSt ?_) | (refine iAl ?_; first | refine qAlA (fun _ => ?_) | refine qAlS (fun _ => ?_)) | (refine iBx ?_; first | refine qBxA (fun _ => ?_) | refine qBxS (fun _ => ?_)) | (refine iMm ?_; refine qMm (fun _ => ?_)) | (refine iBs ?_; refine qBs (fun _ => ?_)) | (refine i_gd ?_; first | refine qWant ?_ | refine qSkip ?_ | refine qSkip0 ?_ | refine qSkipU ?_)) | refine tl_nil ?_ | refine tc_seq ?_ | refine tc_region ?_ | refine te_seq ?_ | (refine i_cond ?_; first | refine qCt ?_ | refine qCf ?_) | refine tc_block ?_ | refine te_block_normal ?_ | refine te_block_ret ?_ | refine te_then_ret ?_ | refine te_block_hit ?_ | (refine i_miss ?_; refine qMiss ?_) | refine te_then_exit ?_ | refine tc_exit ?_ | refine tc_ret ?_ | refine tc_skip ?_)
  exact te_end rfl rfl rfl (res1 rfl (r1_tmp rfl)) hle2 (by rw [List.append_assoc]; exact take_append' take_app' tk) (by infer_instance) ⟨hle2, sp, hown, rfl⟩

/-- what a list of numbers is, in memory of its own -/
theorem pendingM_spec (ρ : Hp) (b : Nat) (hb : HB) (mb : Nat) (es : List MapEntry) (ck : Nat) (D : DS) (hD : D.Ok) (hm : MapOk D.secs es) :
    Spec Try.prog 17 [.pointer (some ⟨b, 0, none⟩)] ρ (diskL b hb mb es ck D) (fun v ρ' L' => ρ.le ρ' ∧ ∃ sp, OwnS v (pend D.secs).length ((pend D.secs).map iv) sp 1 ∧ L' = diskL b hb mb es ck D ++ [ownC v ((pend D.secs).map iv) sp 3]) := by
  obtain ⟨s, ops, armed, failing, dead⟩ := D
  obtain ⟨hs, a1, a2, f1, f2⟩ := hD
  dsimp only at hs a1 a2 f1 f2 hm ⊢
  have hpl := pend_length hs
  refine spec_enter Try.func17 rfl rfl rfl fun u R => ?_
  simp only [argsE, List.cons_append, List.nil_append, diskL]
  repeat' (first | (refine tl_is (.func 42) ?_; refine qC rfl rfl (pending_spec _ _) ?_; rintro v ρ' L' hle ⟨bx, rfl, rfl, rfl⟩ <;> (try simp only [List.cons_append, List.nil_append, List.append_eq])) | (refine i_op ?_; first | (refine iMv ?_; refine qMv ?_) | (refine iLd ?_; refine qLd ?_) | (refine iFa ?_; refine qFa ?_) | (refine iAd ?_; refine qAd ?_) | (refine iSb ?_; refine qSb ?_) | (refine iMl ?_; refine qMl ?_) | (refine iRm ?_; refine qRm ?_) | (refine iQu ?_; refine qQu ?_) | (refine iSr ?_; refine qSr ?_) | (refine iSh ?_; refine qSh ?_) | (refine iCm ?_; refine qCm ?_) | (refine iEx ?_; refine qEx ?_) | (refine iAs ?_; refine qAs ?_) | (refine iPk ?_; refine qPk ?_) | (refine iNc ?_; refine qNc ?_) | (refine iIa ?_; refine qIa ?_) | (refine iCv ?_; refine qCv ?_) | (refine iBi ?_; refine qBi ?_) | (refine iUn ?_; refine qUn ?_) | (refine iFl ?_; refine qFl ?_) | (refine iLu ?_; refine qLu ?_) | (refine iBu ?_; refine qBu ?_) | (refine iSl ?_; refine qSl ?_) | (refine iMf ?_; refine qMf ?_) | (refine iMi ?_; refine qMi ?_) | (refine iTa ?_; refine qTa ?_) | (refine iSt ?_; refine qSt ?_) | (refine iAl ?_; first | refine qAlA (fun _ => ?_) | refine qAlS (fun _ => ?_)) | (refine iBx ?_; first | refine qBxA (fun _ => ?_) | refine qBxS (fun _ => ?_)) | (refine iMm ?_; refine qMm (fun _ => ?_)) | (refine iBs ?_; refine qBs (fun _ => ?_)) | (refine i_gd ?_; first | refine qWant ?_ | refine qSkip ?_ | refine qSkip0 ?_ | refine qSkipU ?_)) | refine tl_nil ?_ | refine tc_seq ?_ | refine tc_region ?_ | refine te_seq ?_ | (refine i_cond ?_; first | refine qCt ?_ | refine qCf ?_) | refine tc_block ?_ | refine te_block_normal ?_ | refine te_block_ret ?_ | refine te_then_ret ?_ | refine te_block_hit ?_ | (refine i_miss ?_; refine qMiss ?_) | refine te_then_exit ?_ | refine tc_exit ?_ | refine tc_ret ?_ | refine tc_skip ?_)
  refine tl_call rfl rfl (collect_spec ρ' ρ' 57 _ [[(bx, .cells ⟨[.pointer (some ⟨b, 0, none⟩)]⟩ 27 (0, 0))], [(b, dO hb mb s.length ops armed failing dead)], [(mb, .map ⟨es⟩ ck)]] (pend s) (Hp.le_refl _) (by omega) (pending1_iter ρ' b hb mb bx s ops armed failing dead es ck hm hs)) tk rfl ?_
  rintro v ρ2 L' hle' ⟨hle2, sp, hown, rfl⟩
  simp only [List.cons_append, List.nil_append]
  repeat' (first | (refine i_op ?_; first | (refine iMv ?_; refine qMv ?_) | (refine iLd ?_; refine qLd ?_) | (refine iFa ?_; refine qFa ?_) | (refine iAd ?_; refine qAd ?_) | (refine iSb ?_; refine qSb ?_) | (refine iMl ?_; refine qMl ?_) | (refine iRm ?_; refine qRm ?_) | (refine iQu ?_; refine qQu ?_) | (refine iSr ?_; refine qSr ?_) | (refine iSh ?_; refine qSh ?_) | (refine iCm ?_; refine qCm ?_) | (refine iEx ?_; refine qEx ?_) | (refine iAs ?_; refine qAs ?_) | (refine iPk ?_; refine qPk ?_) | (refine iNc ?_; refine qNc ?_) | (refine iIa ?_; refine qIa ?_) | (refine iCv ?_; refine qCv ?_) | (refine iBi ?_; refine qBi ?_) | (refine iUn ?_; refine qUn ?_) | (refine iFl ?_; refine qFl ?_) | (refine iLu ?_; refine qLu ?_) | (refine iBu ?_; refine qBu ?_) | (refine iSl ?_; refine qSl ?_) | (refine iMf ?_; refine qMf ?_) | (refine iMi ?_; refine qMi ?_) | (refine iTa ?_; refine qTa ?_) | (refine iSt ?_; refine qSt ?_) | (refine iAl ?_; first | refine qAlA (fun _ => ?_) | refine qAlS (fun _ => ?_)) | (refine iBx ?_; first | refine qBxA (fun _ => ?_) | refine qBxS (fun _ => ?_)) | (refine iMm ?_; refine qMm (fun _ => ?_)) | (refine iBs ?_; refine qBs (fun _ => ?_)) | (refine i_gd ?_; first | refine qWant ?_ | refine qSkip ?_ | refine qSkip0 ?_ | refine qSkipU ?_)) | refine tl_nil ?_ | refine tc_seq ?_ | refine tc_region ?_ | refine te_seq ?_ | (refine i_cond ?_; first | refine qCt ?_ | refine qCf ?_) | refine tc_block ?_ | refine te_block_normal ?_ | refine te_block_ret ?_ | refine te_then_ret ?_ | refine te_block_hit ?_ | (refine i_miss ?_; refine qMiss ?_) | refine te_then_exit ?_ | refine tc_exit ?_ | refine tc_ret ?_ | refine tc_skip ?_)
  exact te_end rfl rfl rfl (res1 rfl (r1_tmp rfl)) hle2 tk (by infer_instance) ⟨hle2, sp, hown, rfl⟩
theorem pendingM_nil (ρ : Hp) : Spec Try.prog 17 [.pointer none] ρ [] (fun v ρ' L' => v = .slice none 0 0 ∧ ρ' = ρ ∧ L' = []) := by
  refine spec_enter Try.func17 rfl rfl rfl fun u R => ?_
  simp only [argsE, List.cons_append, List.nil_append]
  repeat' (first | (refine i_op ?_; first | (refine iMv ?_; refine qMv ?_) | (refine iLd ?_; refine qLd ?_) | (refine iFa ?_; refine qFa ?_) | (refine iAd ?_; refine qAd ?_) | (refine iSb ?_; refine qSb ?_) | (refine iMl ?_; refine qMl ?_) | (refine iRm ?_; refine qRm ?_) | (refine iQu ?_; refine qQu ?_) | (refine iSr ?_; refine qSr ?_) | (refine iSh ?_; refine qSh ?_) | (refine iCm ?_; refine qCm ?_) | (refine iEx ?_; refine qEx ?_) | (refine iAs ?_; refine qAs ?_) | (refine iPk ?_; refine qPk ?_) | (refine iNc ?_; refine qNc ?_) | (refine iIa ?_; refine qIa ?_) | (refine iCv ?_; refine qCv ?_) | (refine iBi ?_; refine qBi ?_) | (refine iUn ?_; refine qUn ?_) | (refine iFl ?_; refine qFl ?_) | (refine iLu ?_; refine qLu ?_) | (refine iBu ?_; refine qBu ?_) | (refine iSl ?_; refine qSl ?_) | (refine iMf ?_; refine qMf ?_) | (refine iMi ?_; refine qMi ?_) | (refine iTa ?_; refine qTa ?_) | (refine iSt ?_; refine qSt ?_) | (refine iAl ?_; first | refine qAlA (fun _ => ?_) | refine qAlS (fun _ => ?_)) | (refine iBx ?_; first | refine qBxA (fun _ => ?_) | refine qBxS (fun _ => ?_)) | (refine iMm ?_; refine qMm (fun _ => ?_)) | (refine iBs ?_; refine qBs (fun _ => ?_)) | (refine i_gd ?_; first | refine qWant ?_ | refine qSkip ?_ | refine qSkip0 ?_ | refine qSkipU ?_)) | refine tl_nil ?_ | refine tc_seq ?_ | refine tc_region ?_ | refine te_seq ?_ | (refine i_cond ?_; first | refine qCt ?_ | refine qCf ?_) | refine tc_block ?_ | refine te_block_normal ?_ | refine te_block_ret ?_ | refine te_then_ret ?_ | refine te_block_hit ?_ | (refine i_miss ?_; refine qMiss ?_) | refine te_then_exit ?_ | refine tc_exit ?_ | refine tc_ret ?_ | refine tc_skip ?_)
  exact qE ⟨rfl, rfl, rfl⟩
end Go.Proofs.E

namespace Go.Proofs.E
open Go
set_option linter.unusedVariables false
set_option linter.unusedSimpArgs false

theorem filter_range_pre (p : Nat → Bool) : ∀ (n : Nat) (pre : List Nat) (y : Nat), (pre ++ [y]) <+: (List.range n).filter p → pre = (List.range y).filter p ∧ p y = true ∧ y < n
  | 0, pre, y, h => by simp at h
  | n + 1, pre, y, h => by
    rw [List.range_succ, List.filter_append] at h
    cases hp : p n with
    | false =>
      have h' : (pre ++ [y]) <+: (List.range n).filter p := by simpa [hp] using h
      obtain ⟨h1, h2, h3⟩ := filter_range_pre p n pre y h'
      exact ⟨h1, h2, by omega⟩
    | true =>
      have h' : (pre ++ [y]) <+: (List.range n).filter p ++ [n] := by simpa [hp] using h
      by_cases hl : (pre ++ [y]).length ≤ ((List.range n).filter p).length
      · have h2 : (pre ++ [y]) <+: (List.range n).filter p := List.prefix_of_prefix_length_le h' (List.prefix_append _ _) hl
        obtain ⟨h1, h2, h3⟩ := filter_range_pre p n pre y h2
        exact ⟨h1, h2, by omega⟩
      · have hlen := h'.length_le
        have he : pre ++ [y] = (List.range n).filter p ++ [n] := h'.eq_of_length (by simp at hl hlen ⊢; omega)
        obtain ⟨h1, h2⟩ := List.append_inj' he rfl
        simp only [List.cons.injEq, and_true] at h2
        subst h2
        exact ⟨h1, hp, by omega⟩
/-- behind so many settled sectors: what is held -/
def setAfter (keep : Nat → Bool) (s : Secs) (m : Nat) : Secs := s.mapIdx fun i p => if isP s i && decide ((pendTo s i).length < m) && keep (pendTo s i).length then (p.2.getD p.1, p.2) else p
def settled (keep : Nat → Bool) (s : Secs) : Secs := (setAfter keep s (pend s).length).map fun p => (p.1, none)
theorem setAfter_length {keep s m} : (setAfter keep s m).length = s.length := by simp [setAfter]
theorem settled_length {keep s} : (settled keep s).length = s.length := by simp [settled, setAfter_length]
theorem setAfter_zero {keep : Nat → Bool} {s : Secs} : setAfter keep s 0 = s := by
  unfold setAfter
  apply List.ext_getElem (by simp)
  intro i h1 h2
  simp
theorem heldC_settled {keep s} : heldC (settled keep s) = heldC (setAfter keep s (pend s).length) := by simp [heldC, settled, Function.comp_def]
theorem pendTo_lt {s : Secs} {i j : Nat} (h : i < j) (hp : isP s i = true) : (pendTo s i).length < (pendTo s j).length := by
  have := (pendTo_pre (s := s) (k := i + 1) (m := j) (by omega)).length_le
  rw [pendTo_succ_t hp] at this
  simp at this; omega
theorem pendTo_le {s : Secs} {i j : Nat} (h : i ≤ j) : (pendTo s i).length ≤ (pendTo s j).length := (pendTo_pre h).length_le
theorem setAfter_succ {keep : Nat → Bool} {s : Secs} {y : Nat} {h c : Blk} (hy : s[y]? = some (h, some c)) :
    setAfter keep s ((pendTo s y).length + 1) = if keep (pendTo s y).length then (setAfter keep s (pendTo s y).length).set y (c, some c) else setAfter keep s (pendTo s y).length := by
  have hlt : y < s.length := (List.getElem?_eq_some_iff.1 hy).1
  have hyv : s[y] = (h, some c) := (List.getElem?_eq_some_iff.1 hy).2
  have hpy : isP s y = true := by simp [isP, hy]
  have key : ∀ i, i < s.length → i ≠ y → isP s i = true → ((pendTo s i).length < (pendTo s y).length + 1 ↔ (pendTo s i).length < (pendTo s y).length) := by
    intro i hi hne hp
    rcases Nat.lt_trichotomy i y with h1 | h1 | h1
    · have := pendTo_lt h1 hp; omega
    · exact absurd h1 hne
    · have := pendTo_lt h1 hpy; omega
  apply List.ext_getElem
  · split <;> simp [setAfter]
  · intro i h1 h2
    have hi : i < s.length := by simpa [setAfter] using h1
    by_cases e : i = y
    · subst e
      split
      · rename_i hk
        simp [setAfter, hpy, hk, hyv]
      · rename_i hk
        simp [setAfter, hpy, hk]
    · have hne : y ≠ i := fun h => e h.symm
      have : ∀ (q : Secs) (hq : i < q.length) (v : Blk × Option Blk) (hq2 : i < (q.set y v).length), (q.set y v)[i] = q[i] := fun q hq v hq2 => by rw [List.getElem_set_ne hne]
      cases hp : isP s i with
      | false => split <;> simp [setAfter, hp, List.getElem_set_ne hne]
      | true =>
        have hk := key i hi e hp
        split <;> simp [setAfter, hp, List.getElem_set_ne hne, hk]
theorem SecsOk.setAfter {keep : Nat → Bool} {s : Secs} {m : Nat} (h : SecsOk s) : SecsOk (setAfter keep s m) := by
  have hm : ∀ p ∈ E.setAfter keep s m, ∃ q ∈ s, p.2 = q.2 ∧ (p.1 = q.1 ∨ q.2 = some p.1) := by
    intro p hp
    obtain ⟨i, hi, rfl⟩ := List.mem_iff_getElem.1 hp
    have hi' : i < s.length := by simpa [E.setAfter] using hi
    refine ⟨s[i], List.getElem_mem hi', ?_⟩
    simp only [E.setAfter, List.getElem_mapIdx]
    split
    · refine ⟨rfl, ?_⟩
      cases hc : s[i].2 with
      | none => exact .inl rfl
      | some c => exact .inr rfl
    · exact ⟨rfl, .inl rfl⟩
  refine ⟨by rw [setAfter_length]; exact h.len, by rw [setAfter_length]; exact h.pos, fun p hp => ?_, fun p hp c hc => ?_⟩
  · obtain ⟨q, hq, h1, h2 | h2⟩ := hm p hp
    · rw [h2]; exact h.held q hq
    · exact h.cached q hq _ h2
  · obtain ⟨q, hq, h1, h2⟩ := hm p hp
    exact h.cached q hq c (by rw [← h1]; exact hc)
theorem SecsOk.settled {keep : Nat → Bool} {s : Secs} (h : SecsOk s) : SecsOk (settled keep s) := by
  have h1 := h.setAfter (keep := keep) (m := (pend s).length)
  refine ⟨by rw [settled_length]; exact h.len, by rw [settled_length]; exact h.pos, fun p hp => ?_, fun p hp c hc => ?_⟩
  · obtain ⟨q, hq, rfl⟩ := List.mem_map.1 hp
    exact h1.held q hq
  · obtain ⟨q, hq, rfl⟩ := List.mem_map.1 hp
    cases hc
theorem emptyC_settled {keep s} : emptyC (settled keep s) := fun p hp => by
  obtain ⟨q, hq, rfl⟩ := List.mem_map.1 hp
  rfl
end Go.Proofs.E

namespace Go.Proofs.E
open Go
set_option linter.unusedVariables false
set_option linter.unusedSimpArgs false
set_option maxRecDepth 4000
attribute [local irreducible] Yl TL TC TE Spec YSpec R1 Hp.le EnvLe TS TR YS Stays

theorem settle_spec (ρ : Hp) (b : Nat) (hb : HB) (mb : Nat) (es : List MapEntry) (ck : Nat) (s : Secs) (ops armed failing : Int) (dead : Bool) (kf : Nat) (kc : List Value) (Xk : SH) (keep : Nat → Bool) [hkF : Fun Try.prog kf]
    (hK : ∀ nth, nth < 2048 → Spec Try.prog kf ([.int .i64 (nth : Nat)] ++ kc) ρ Xk (fun v ρ' L' => v = .bool (keep nth) ∧ ρ' = ρ ∧ L' = Xk)) (hs : SecsOk s) (hm : MapOk s es) :
    Spec Try.prog 36 [.pointer (some ⟨b, 0, none⟩), .func (.func kf) ⟨[]⟩ ⟨kc⟩] ρ ([[(b, dO hb mb s.length ops armed failing dead)], [(hb.b, .cells ⟨heldC s ++ hb.sp⟩ 34 (0, 0))], [(mb, .map ⟨es⟩ ck)]] ++ Xk)
      (fun v ρ' L' => v = .tuple ⟨[]⟩ ∧ ρ.le ρ' ∧ ∃ mb' ck', L' = [[(b, dO hb mb' s.length ops armed failing dead)], [(hb.b, .cells ⟨heldC (settled keep s) ++ hb.sp⟩ 34 (0, 0))], [(mb', .map ⟨[]⟩ ck')]] ++ Xk) := by
  rw [heldC_settled]
  have hpl := pend_length hs
  have hk := hm.keys
  refine spec_enter Try.func36 rfl rfl rfl fun u R => ?_
  simp only [argsE, List.cons_append, List.nil_append, dO]
  repeat' (first | (refine tl_is (.func 42) ?_; refine qC rfl rfl (pending_spec _ _) ?_; rintro v ρ' L' hle ⟨bx, rfl, rfl, rfl⟩ <;> (try simp only [List.cons_append, List.nil_append, List.append_eq])) | (refine i_op ?_; first | (refine iMv ?_; refine qMv ?_) | (refine iLd ?_; refine qLd ?_) | (refine iFa ?_; refine qFa ?_) | (refine iAd ?_; refine qAd ?_) | (refine iSb ?_; refine qSb ?_) | (refine iMl ?_; refine qMl ?_) | (refine iRm ?_; refine qRm ?_) | (refine iQu ?_; refine qQu ?_) | (refine iSr ?_; refine qSr ?_) | (refine iSh ?_; refine qSh ?_) | (refine iCm ?_; refine qCm ?_) | (refine iEx ?_; refine qEx ?_) | (refine iAs ?_; refine qAs ?_) | (refine iPk ?_; refine qPk ?_) | (refine iNc ?_; refine qNc ?_) | (refine iIa ?_; refine qIa ?_) | (refine iCv ?_; refine qCv ?_) | (refine iBi ?_; refine qBi ?_) | (refine iUn ?_; refine qUn ?_) | (refine iFl ?_; refine qFl ?_) | (refine iLu ?_; refine qLu ?_) | (refine iBu ?_; refine qBu ?_) | (refine iSl ?_; refine qSl ?_) | (refine iMf ?_; refine qMf ?_) | (refine iMi ?_; refine qMi ?_) | (refine iTa ?_; refine qTa ?_) | (refine iSt ?_; refine qSt ?_) | (refine iAl ?_; first | refine qAlA (fun _ => ?_) | refine qAlS (fun _ => ?_)) | (refine iBx ?_; first | refine qBxA (fun _ => ?_) | refine qBxS (fun _ => ?_)) | (refine iMm ?_; refine qMm (fun _ => ?_)) | (refine iBs ?_; refine qBs (fun _ => ?_)) | (refine i_gd ?_; first | refine qWant ?_ | refine qSkip ?_ | refine qSkip0 ?_ | refine qSkipU ?_)) | refine tl_nil ?_ | refine tc_seq ?_ | refine tc_region ?_ | refine te_seq ?_ | (refine i_cond ?_; first | refine qCt ?_ | refine qCf ?_) | refine tc_block ?_ | refine te_block_normal ?_ | refine te_block_ret ?_ | refine te_then_ret ?_ | refine te_block_hit ?_ | (refine i_miss ?_; refine qMiss ?_) | refine te_then_exit ?_ | refine tc_exit ?_ | refine tc_ret ?_ | refine tc_skip ?_)
  rename_i bd bk bn
  refine tc_rangeFunc (S := [[(bx, .cells ⟨[.pointer (some ⟨b, 0, none⟩)]⟩ 27 (0, 0))], [(b, dO hb mb s.length ops armed failing dead)], [(mb, .map ⟨es⟩ ck)]])
    (L0 := [[(bd, .cells ⟨[.pointer (some ⟨b, 0, none⟩)]⟩ 27 (0, 0))], [(bk, .cells ⟨[.func (.func kf) ⟨[]⟩ ⟨kc⟩]⟩ 77 (0, 0))], [(bn, .cells ⟨[.int .i64 (0 : Nat)]⟩ 3 (0, 0))], [(hb.b, .cells ⟨heldC (setAfter keep s 0) ++ hb.sp⟩ 34 (0, 0))]] ++ Xk) (R := R) (R0 := ?r0) rfl rfl (pending1_iter ρ' b hb mb bx s ops armed failing dead es ck hm hs) (Hp.le_refl _) (fun _ => rfl) rfl
    (fun pre ρ1 Lu => ρ1 = ρ' ∧ Lu = [[(bd, .cells ⟨[.pointer (some ⟨b, 0, none⟩)]⟩ 27 (0, 0))], [(bk, .cells ⟨[.func (.func kf) ⟨[]⟩ ⟨kc⟩]⟩ 77 (0, 0))], [(bn, .cells ⟨[.int .i64 (pre.length : Nat)]⟩ 3 (0, 0))], [(hb.b, .cells ⟨heldC (setAfter keep s pre.length) ++ hb.sp⟩ 34 (0, 0))]] ++ Xk) (fun _ _ _ => False) ?k1 ?k2 ⟨rfl, rfl⟩ ?round ?done ?stop
  case k1 => unfold dO; exact tk
  case k2 => rw [setAfter_zero]; exact tk
  case stop => rintro D0 c ρ' Lu _ hf; exact hf.elim
  case round =>
    rintro l tm r pre y ρ1 Lu u R' hpre hle' ⟨rfl, rfl⟩ hr hrec
    simp only [envP, natE, List.cons_append, List.nil_append]
    have hlen := hpre.length_le
    simp only [List.length_append, List.length_singleton] at hlen
    obtain ⟨hpe, hpy, hy⟩ := filter_range_pre _ _ _ _ hpre
    repeat' (first | (refine i_op ?_; first | (refine iMv ?_; refine qMv ?_) | (refine iLd ?_; refine qLd ?_) | (refine iFa ?_; refine qFa ?_) | (refine iAd ?_; refine qAd ?_) | (refine iSb ?_; refine qSb ?_) | (refine iMl ?_; refine qMl ?_) | (refine iRm ?_; refine qRm ?_) | (refine iQu ?_; refine qQu ?_) | (refine iSr ?_; refine qSr ?_) | (refine iSh ?_; refine qSh ?_) | (refine iCm ?_; refine qCm ?_) | (refine iEx ?_; refine qEx ?_) | (refine iAs ?_; refine qAs ?_) | (refine iPk ?_; refine qPk ?_) | (refine iNc ?_; refine qNc ?_) | (refine iIa ?_; refine qIa ?_) | (refine iCv ?_; refine qCv ?_) | (refine iBi ?_; refine qBi ?_) | (refine iUn ?_; refine qUn ?_) | (refine iFl ?_; refine qFl ?_) | (refine iLu ?_; refine qLu ?_) | (refine iBu ?_; refine qBu ?_) | (refine iSl ?_; refine qSl ?_) | (refine iMf ?_; refine qMf ?_) | (refine iMi ?_; refine qMi ?_) | (refine iTa ?_; refine qTa ?_) | (refine iSt ?_; refine qSt ?_) | (refine iAl ?_; first | refine qAlA (fun _ => ?_) | refine qAlS (fun _ => ?_)) | (refine iBx ?_; first | refine qBxA (fun _ => ?_) | refine qBxS (fun _ => ?_)) | (refine iMm ?_; refine qMm (fun _ => ?_)) | (refine iBs ?_; refine qBs (fun _ => ?_)) | (refine i_gd ?_; first | refine qWant ?_ | refine qSkip ?_ | refine qSkip0 ?_ | refine qSkipU ?_)) | refine tl_nil ?_ | refine tc_seq ?_ | refine tc_region ?_ | refine te_seq ?_ | (refine i_cond ?_; first | refine qCt ?_ | refine qCf ?_) | refine tc_block ?_ | refine te_block_normal ?_ | refine te_block_ret ?_ | refine te_then_ret ?_ | refine te_block_hit ?_ | (refine i_miss ?_; refine qMiss ?_) | refine te_then_exit ?_ | refine tc_exit ?_ | refine tc_ret ?_ | refine tc_skip ?_)
    refine te_begin rfl hr (fun r' hbz hrec' => ?_)
    have hpl2 : (pendTo s y).length = pre.length := by rw [hpe]; rfl
    obtain ⟨hd0, c, hsy⟩ : ∃ h c, s[y]? = some (h, some c) := by
      simp only [isP, Option.isSome_iff_exists] at hpy
      obtain ⟨c, hc⟩ := hpy
      rw [List.getElem?_eq_getElem hy] at hc ⊢
      simp only [Option.bind_some] at hc
      exact ⟨s[y].1, c, by rw [← hc]⟩
    have hsv : s[y] = (hd0, some c) := (List.getElem?_eq_some_iff.1 hsy).2
    have hat := hm.at hy
    rw [hsv] at hat
    simp only [Option.map_some] at hat
    have hc64 : c.length = 64 := hs.cached s[y] (List.getElem_mem hy) c (by rw [hsv])
    have hcl : (c.map u8c).length = 64 := by simpa using hc64
    have hone := u8c_one c
    have hsa := hs.setAfter (keep := keep) (m := pre.length)
    have hhl : (heldC (setAfter keep s pre.length) ++ hb.sp).length = s.length * 64 + hb.sp.length := by rw [heldC_length' _ hsa.held, setAfter_length]
    have hnext := setAfter_succ (keep := keep) hsy
    rw [hpl2] at hnext
    have hst := stc_heldC' hb.sp (s := setAfter keep s pre.length) (i := y) (b := c) (some c) hsa.held hc64 (by rw [setAfter_length]; exact hy)
    repeat' (first | (refine tl_is (.tmp 9) ?_; refine qC rfl rfl (hK pre.length (by omega)) ?_; rintro v ρ' L' hle ⟨rfl, rfl, hx⟩ <;> (try simp only [List.cons_append, List.nil_append, List.append_eq, hx])) | (refine i_op ?_; first | (refine iMv ?_; refine qMv ?_) | (refine iLd ?_; refine qLd ?_) | (refine iFa ?_; refine qFa ?_) | (refine iAd ?_; refine qAd ?_) | (refine iSb ?_; refine qSb ?_) | (refine iMl ?_; refine qMl ?_) | (refine iRm ?_; refine qRm ?_) | (refine iQu ?_; refine qQu ?_) | (refine iSr ?_; refine qSr ?_) | (refine iSh ?_; refine qSh ?_) | (refine iCm ?_; refine qCm ?_) | (refine iEx ?_; refine qEx ?_) | (refine iAs ?_; refine qAs ?_) | (refine iPk ?_; refine qPk ?_) | (refine iNc ?_; refine qNc ?_) | (refine iIa ?_; refine qIa ?_) | (refine iCv ?_; refine qCv ?_) | (refine iBi ?_; refine qBi ?_) | (refine iUn ?_; refine qUn ?_) | (refine iFl ?_; refine qFl ?_) | (refine iLu ?_; refine qLu ?_) | (refine iBu ?_; refine qBu ?_) | (refine iSl ?_; refine qSl ?_) | (refine iMf ?_; refine qMf ?_) | (refine iMi ?_; refine qMi ?_) | (refine iTa ?_; refine qTa ?_) | (refine iSt ?_; refine qSt ?_) | (refine iAl ?_; first | refine qAlA (fun _ => ?_) | refine qAlS (fun _ => ?_)) | (refine iBx ?_; first | refine qBxA (fun _ => ?_) | refine qBxS (fun _ => ?_)) | (refine iMm ?_; refine qMm (fun _ => ?_)) | (refine iBs ?_; refine qBs (fun _ => ?_)) | (refine i_gd ?_; first | refine qWant ?_ | refine qSkip ?_ | refine qSkip0 ?_ | refine qSkipU ?_)) | refine tl_nil ?_ | refine tc_seq ?_ | refine tc_region ?_ | refine te_seq ?_ | (refine i_cond ?_; first | refine qCt ?_ | refine qCf ?_) | refine tc_block ?_ | refine te_block_normal ?_ | refine te_block_ret ?_ | refine te_then_ret ?_ | refine te_block_hit ?_ | (refine i_miss ?_; refine qMiss ?_) | refine te_then_exit ?_ | refine tc_exit ?_ | refine tc_ret ?_ | refine tc_skip ?_)
    cases hkp : keep pre.length with
    | false =>
      rw [hkp] at hnext
      simp only [Bool.false_eq_true, if_false] at hnext
      repeat' (first | (refine i_op ?_; first | (refine iMv ?_; refine qMv ?_) | (refine iLd ?_; refine qLd ?_) | (refine iFa ?_; refine qFa ?_) | (refine iAd ?_; refine qAd ?_) | (refine iSb ?_; refine qSb ?_) | (refine iMl ?_; refine qMl ?_) | (refine iRm ?_; refine qRm ?_) | (refine iQu ?_; refine qQu ?_) | (refine iSr ?_; refine qSr ?_) | (refine iSh ?_; refine qSh ?_) | (refine iCm ?_; refine qCm ?_) | (refine iEx ?_; refine qEx ?_) | (refine iAs ?_; refine qAs ?_) | (refine iPk ?_; refine qPk ?_) | (refine iNc ?_; refine qNc ?_) | (refine iIa ?_; refine qIa ?_) | (refine iCv ?_; refine qCv ?_) | (refine iBi ?_; refine qBi ?_) | (refine iUn ?_; refine qUn ?_) | (refine iFl ?_; refine qFl ?_) | (refine iLu ?_; refine qLu ?_) | (refine iBu ?_; refine qBu ?_) | (refine iSl ?_; refine qSl ?_) | (refine iMf ?_; refine qMf ?_) | (refine iMi ?_; refine qMi ?_) | (refine iTa ?_; refine qTa ?_) | (refine iSt ?_; refine qSt ?_) | (refine iAl ?_; first | refine qAlA (fun _ => ?_) | refine qAlS (fun _ => ?_)) | (refine iBx ?_; first | refine qBxA (fun _ => ?_) | refine qBxS (fun _ => ?_)) | (refine iMm ?_; refine qMm (fun _ => ?_)) | (refine iBs ?_; refine qBs (fun _ => ?_)) | (refine i_gd ?_; first | refine qWant ?_ | refine qSkip ?_ | refine qSkip0 ?_ | refine qSkipU ?_)) | refine tl_nil ?_ | refine tc_seq ?_ | refine tc_region ?_ | refine te_seq ?_ | (refine i_cond ?_; first | refine qCt ?_ | refine qCf ?_) | refine tc_block ?_ | refine te_block_normal ?_ | refine te_block_ret ?_ | refine te_then_ret ?_ | refine te_block_hit ?_ | (refine i_miss ?_; refine qMiss ?_) | refine te_then_exit ?_ | refine tc_exit ?_ | refine tc_ret ?_ | refine tc_skip ?_)
      refine te_front [(l, .loop r')] ?_
      refine te_next (Lu := [[(bd, .cells ⟨[.pointer (some ⟨b, 0, none⟩)]⟩ 27 (0, 0))], [(bk, .cells ⟨[.func (.func kf) ⟨[]⟩ ⟨kc⟩]⟩ 77 (0, 0))], [(bn, .cells ⟨[.int .i64 (pre.length + 1 : Nat)]⟩ 3 (0, 0))], [(hb.b, .cells ⟨heldC (setAfter keep s pre.length) ++ hb.sp⟩ 34 (0, 0))]] ++ Xk) rfl (Hp.le_refl _) ⟨hrec'.tmps.trans hrec.tmps, hrec'.params.trans hrec.params, hrec'.assign.trans hrec.assign, hrec'.body.trans hrec.body⟩ tk tk inferInstance ?_
      refine ⟨rfl, ?_⟩
      simp [hnext]
    | true =>
      rw [hkp] at hnext
      simp only [if_true] at hnext
      rw [← hnext] at hst
      repeat' (first | (refine i_op ?_; first | (refine iMv ?_; refine qMv ?_) | (refine iLd ?_; refine qLd ?_) | (refine iFa ?_; refine qFa ?_) | (refine iAd ?_; refine qAd ?_) | (refine iSb ?_; refine qSb ?_) | (refine iMl ?_; refine qMl ?_) | (refine iRm ?_; refine qRm ?_) | (refine iQu ?_; refine qQu ?_) | (refine iSr ?_; refine qSr ?_) | (refine iSh ?_; refine qSh ?_) | (refine iCm ?_; refine qCm ?_) | (refine iEx ?_; refine qEx ?_) | (refine iAs ?_; refine qAs ?_) | (refine iPk ?_; refine qPk ?_) | (refine iNc ?_; refine qNc ?_) | (refine iIa ?_; refine qIa ?_) | (refine iCv ?_; refine qCv ?_) | (refine iBi ?_; refine qBi ?_) | (refine iUn ?_; refine qUn ?_) | (refine iFl ?_; refine qFl ?_) | (refine iLu ?_; refine qLu ?_) | (refine iBu ?_; refine qBu ?_) | (refine iSl ?_; refine qSl ?_) | (refine iMf ?_; refine qMf ?_) | (refine iMi ?_; refine qMi ?_) | (refine iTa ?_; refine qTa ?_) | (refine iSt ?_; refine qSt ?_) | (refine iAl ?_; first | refine qAlA (fun _ => ?_) | refine qAlS (fun _ => ?_)) | (refine iBx ?_; first | refine qBxA (fun _ => ?_) | refine qBxS (fun _ => ?_)) | (refine iMm ?_; refine qMm (fun _ => ?_)) | (refine iBs ?_; refine qBs (fun _ => ?_)) | (refine i_gd ?_; first | refine qWant ?_ | refine qSkip ?_ | refine qSkip0 ?_ | refine qSkipU ?_)) | refine tl_nil ?_ | refine tc_seq ?_ | refine tc_region ?_ | refine te_seq ?_ | (refine i_cond ?_; first | refine qCt ?_ | refine qCf ?_) | refine tc_block ?_ | refine te_block_normal ?_ | refine te_block_ret ?_ | refine te_then_ret ?_ | refine te_block_hit ?_ | (refine i_miss ?_; refine qMiss ?_) | refine te_then_exit ?_ | refine tc_exit ?_ | refine tc_ret ?_ | refine tc_skip ?_)
      refine tc_draw 12 (by decide +kernel) (by decide +kernel) ?_
      repeat' (first | (refine jMv ?_; refine sMv ?_) | (refine jLd ?_; refine sLd ?_) | (refine jFa ?_; refine sFa ?_) | (refine jNc ?_; refine sNc ?_) | (refine jIa ?_; refine sIa ?_) | (refine jLu ?_; refine sLu ?_) | (refine j_gd ?_; first | refine sWant ?_ | refine sSkip ?_ | refine sSkipU ?_))
      all_goals refine ts_nil ?_
      repeat' (first | (refine i_op ?_; first | (refine iMv ?_; refine qMv ?_) | (refine iLd ?_; refine qLd ?_) | (refine iFa ?_; refine qFa ?_) | (refine iAd ?_; refine qAd ?_) | (refine iSb ?_; refine qSb ?_) | (refine iMl ?_; refine qMl ?_) | (refine iRm ?_; refine qRm ?_) | (refine iQu ?_; refine qQu ?_) | (refine iSr ?_; refine qSr ?_) | (refine iSh ?_; refine qSh ?_) | (refine iCm ?_; refine qCm ?_) | (refine iEx ?_; refine qEx ?_) | (refine iAs ?_; refine qAs ?_) | (refine iPk ?_; refine qPk ?_) | (refine iNc ?_; refine qNc ?_) | (refine iIa ?_; refine qIa ?_) | (refine iCv ?_; refine qCv ?_) | (refine iBi ?_; refine qBi ?_) | (refine iUn ?_; refine qUn ?_) | (refine iFl ?_; refine qFl ?_) | (refine iLu ?_; refine qLu ?_) | (refine iBu ?_; refine qBu ?_) | (refine iSl ?_; refine qSl ?_) | (refine iMf ?_; refine qMf ?_) | (refine iMi ?_; refine qMi ?_) | (refine iTa ?_; refine qTa ?_) | (refine iSt ?_; refine qSt ?_) | (refine iAl ?_; first | refine qAlA (fun _ => ?_) | refine qAlS (fun _ => ?_)) | (refine iBx ?_; first | refine qBxA (fun _ => ?_) | refine qBxS (fun _ => ?_)) | (refine iMm ?_; refine qMm (fun _ => ?_)) | (refine iBs ?_; refine qBs (fun _ => ?_)) | (refine i_gd ?_; first | refine qWant ?_ | refine qSkip ?_ | refine qSkip0 ?_ | refine qSkipU ?_)) | refine tl_nil ?_ | refine tc_seq ?_ | refine tc_region ?_ | refine te_seq ?_ | (refine i_cond ?_; first | refine qCt ?_ | refine qCf ?_) | refine tc_block ?_ | refine te_block_normal ?_ | refine te_block_ret ?_ | refine te_then_ret ?_ | refine te_block_hit ?_ | (refine i_miss ?_; refine qMiss ?_) | refine te_then_exit ?_ | refine tc_exit ?_ | refine tc_ret ?_ | refine tc_skip ?_)
      rw [Nat.zero_add, hst]
      refine te_front [(l, .loop r')] ?_
      refine te_next (Lu := [[(bd, .cells ⟨[.pointer (some ⟨b, 0, none⟩)]⟩ 27 (0, 0))], [(bk, .cells ⟨[.func (.func kf) ⟨[]⟩ ⟨kc⟩]⟩ 77 (0, 0))], [(bn, .cells ⟨[.int .i64 (pre.length + 1 : Nat)]⟩ 3 (0, 0))], [(hb.b, .cells ⟨heldC (setAfter keep s (pre.length + 1)) ++ hb.sp⟩ 34 (0, 0))]] ++ Xk) rfl (Hp.le_refl _) ⟨hrec'.tmps.trans hrec.tmps, hrec'.params.trans hrec.params, hrec'.assign.trans hrec.assign, hrec'.body.trans hrec.body⟩ tk tk inferInstance ?_
      refine ⟨rfl, ?_⟩
      simp
  case done =>
    rintro D0 ρ1 Lu hle' ⟨rfl, rfl⟩
    simp only [List.cons_append, List.nil_append, dO]
    repeat' (first | (refine i_op ?_; first | (refine iMv ?_; refine qMv ?_) | (refine iLd ?_; refine qLd ?_) | (refine iFa ?_; refine qFa ?_) | (refine iAd ?_; refine qAd ?_) | (refine iSb ?_; refine qSb ?_) | (refine iMl ?_; refine qMl ?_) | (refine iRm ?_; refine qRm ?_) | (refine iQu ?_; refine qQu ?_) | (refine iSr ?_; refine qSr ?_) | (refine iSh ?_; refine qSh ?_) | (refine iCm ?_; refine qCm ?_) | (refine iEx ?_; refine qEx ?_) | (refine iAs ?_; refine qAs ?_) | (refine iPk ?_; refine qPk ?_) | (refine iNc ?_; refine qNc ?_) | (refine iIa ?_; refine qIa ?_) | (refine iCv ?_; refine qCv ?_) | (refine iBi ?_; refine qBi ?_) | (refine iUn ?_; refine qUn ?_) | (refine iFl ?_; refine qFl ?_) | (refine iLu ?_; refine qLu ?_) | (refine iBu ?_; refine qBu ?_) | (refine iSl ?_; refine qSl ?_) | (refine iMf ?_; refine qMf ?_) | (refine iMi ?_; refine qMi ?_) | (refine iTa ?_; refine qTa ?_) | (refine iSt ?_; refine qSt ?_) | (refine iAl ?_; first | refine qAlA (fun _ => ?_) | refine qAlS (fun _ => ?_)) | (refine iBx ?_; first | refine qBxA (fun _ => ?_) | refine qBxS (fun _ => ?_)) | (refine iMm ?_; refine qMm (fun _ => ?_)) | (refine iBs ?_; refine qBs (fun _ => ?_)) | (refine i_gd ?_; first | refine qWant ?_ | refine qSkip ?_ | refine qSkip0 ?_ | refine qSkipU ?_)) | refine tl_nil ?_ | refine tc_seq ?_ | refine tc_region ?_ | refine te_seq ?_ | (refine i_cond ?_; first | refine qCt ?_ | refine qCf ?_) | refine tc_block ?_ | refine te_block_normal ?_ | refine te_block_ret ?_ | refine te_then_ret ?_ | refine te_block_hit ?_ | (refine i_miss ?_; refine qMiss ?_) | refine te_then_exit ?_ | refine tc_exit ?_ | refine tc_ret ?_ | refine tc_skip ?_)
    exact te_end_d rfl rfl rfl inferInstance (res0 rfl) (Hp.le_refl _) tk (by infer_instance) ⟨rfl, Hp.le_refl _, _, _, rfl⟩
end Go.Proofs.E

namespace Go.Proofs.E
open Go
set_option linter.unusedVariables false
set_option linter.unusedSimpArgs false
set_option maxRecDepth 4000
attribute [local irreducible] Yl TL TC TE Spec YSpec R1 Hp.le EnvLe TS TR YS Stays

theorem sync11 (ρ : Hp) (nth : Nat) : Spec Try.prog 37 [.int .i64 (nth : Nat)] ρ [] (fun v ρ' L' => v = .bool true ∧ ρ' = ρ ∧ L' = []) := by
  refine spec_enter Try.func37 rfl rfl rfl fun u R => ?_
  simp only [argsE, List.cons_append, List.nil_append]
  repeat' (first | (refine i_op ?_; first | (refine iMv ?_; refine qMv ?_) | (refine iLd ?_; refine qLd ?_) | (refine iFa ?_; refine qFa ?_) | (refine iAd ?_; refine qAd ?_) | (refine iSb ?_; refine qSb ?_) | (refine iMl ?_; refine qMl ?_) | (refine iRm ?_; refine qRm ?_) | (refine iQu ?_; refine qQu ?_) | (refine iSr ?_; refine qSr ?_) | (refine iSh ?_; refine qSh ?_) | (refine iCm ?_; refine qCm ?_) | (refine iEx ?_; refine qEx ?_) | (refine iAs ?_; refine qAs ?_) | (refine iPk ?_; refine qPk ?_) | (refine iNc ?_; refine qNc ?_) | (refine iIa ?_; refine qIa ?_) | (refine iCv ?_; refine qCv ?_) | (refine iBi ?_; refine qBi ?_) | (refine iUn ?_; refine qUn ?_) | (refine iFl ?_; refine qFl ?_) | (refine iLu ?_; refine qLu ?_) | (refine iBu ?_; refine qBu ?_) | (refine iSl ?_; refine qSl ?_) | (refine iMf ?_; refine qMf ?_) | (refine iMi ?_; refine qMi ?_) | (refine iTa ?_; refine qTa ?_) | (refine iSt ?_; refine qSt ?_) | (refine iAl ?_; first | refine qAlA (fun _ => ?_) | refine qAlS (fun _ => ?_)) | (refine iBx ?_; first | refine qBxA (fun _ => ?_) | refine qBxS (fun _ => ?_)) | (refine iMm ?_; refine qMm (fun _ => ?_)) | (refine iBs ?_; refine qBs (fun _ => ?_)) | (refine i_gd ?_; first | refine qWant ?_ | refine qSkip ?_ | refine qSkip0 ?_ | refine qSkipU ?_)) | refine tl_nil ?_ | refine tc_seq ?_ | refine tc_region ?_ | refine te_seq ?_ | (refine i_cond ?_; first | refine qCt ?_ | refine qCf ?_) | refine tc_block ?_ | refine te_block_normal ?_ | refine te_block_ret ?_ | refine te_then_ret ?_ | refine te_block_hit ?_ | (refine i_miss ?_; refine qMiss ?_) | refine te_then_exit ?_ | refine tc_exit ?_ | refine tc_ret ?_ | refine tc_skip ?_)
  exact qE ⟨rfl, rfl, rfl⟩
theorem sync2 (ρ : Hp) (X : SH) : Spec Try.prog 38 [] ρ X (fun v ρ' L' => v = .tuple ⟨[]⟩ ∧ ρ' = ρ ∧ L' = X) := by
  refine spec_enter Try.func38 rfl rfl rfl fun u R => ?_
  simp only [argsE, List.cons_append, List.nil_append]
  repeat' (first | (refine i_op ?_; first | (refine iMv ?_; refine qMv ?_) | (refine iLd ?_; refine qLd ?_) | (refine iFa ?_; refine qFa ?_) | (refine iAd ?_; refine qAd ?_) | (refine iSb ?_; refine qSb ?_) | (refine iMl ?_; refine qMl ?_) | (refine iRm ?_; refine qRm ?_) | (refine iQu ?_; refine qQu ?_) | (refine iSr ?_; refine qSr ?_) | (refine iSh ?_; refine qSh ?_) | (refine iCm ?_; refine qCm ?_) | (refine iEx ?_; refine qEx ?_) | (refine iAs ?_; refine qAs ?_) | (refine iPk ?_; refine qPk ?_) | (refine iNc ?_; refine qNc ?_) | (refine iIa ?_; refine qIa ?_) | (refine iCv ?_; refine qCv ?_) | (refine iBi ?_; refine qBi ?_) | (refine iUn ?_; refine qUn ?_) | (refine iFl ?_; refine qFl ?_) | (refine iLu ?_; refine qLu ?_) | (refine iBu ?_; refine qBu ?_) | (refine iSl ?_; refine qSl ?_) | (refine iMf ?_; refine qMf ?_) | (refine iMi ?_; refine qMi ?_) | (refine iTa ?_; refine qTa ?_) | (refine iSt ?_; refine qSt ?_) | (refine iAl ?_; first | refine qAlA (fun _ => ?_) | refine qAlS (fun _ => ?_)) | (refine iBx ?_; first | refine qBxA (fun _ => ?_) | refine qBxS (fun _ => ?_)) | (refine iMm ?_; refine qMm (fun _ => ?_)) | (refine iBs ?_; refine qBs (fun _ => ?_)) | (refine i_gd ?_; first | refine qWant ?_ | refine qSkip ?_ | refine qSkip0 ?_ | refine qSkipU ?_)) | refine tl_nil ?_ | refine tc_seq ?_ | refine tc_region ?_ | refine te_seq ?_ | (refine i_cond ?_; first | refine qCt ?_ | refine qCf ?_) | refine tc_block ?_ | refine te_block_normal ?_ | refine te_block_ret ?_ | refine te_then_ret ?_ | refine te_block_hit ?_ | (refine i_miss ?_; refine qMiss ?_) | refine te_then_exit ?_ | refine tc_exit ?_ | refine tc_ret ?_ | refine tc_skip ?_)
  exact te_end rfl rfl rfl (res0 rfl) (Hp.le_refl _) take_app' (by infer_instance) ⟨rfl, rfl, rfl⟩
theorem sync1 (ρ : Hp) (b : Nat) (hb : HB) (mb bx : Nat) (es : List MapEntry) (ck : Nat) (s : Secs) (ops armed failing : Int) (dead : Bool) (hs : SecsOk s) (hm : MapOk s es) :
    Spec Try.prog 35 [.pointer (some ⟨bx, 0, none⟩)] ρ ([(b, dO hb mb s.length ops armed failing dead)] :: [[(hb.b, .cells ⟨heldC s ++ hb.sp⟩ 34 (0, 0))], [(mb, .map ⟨es⟩ ck)], [(bx, .cells ⟨[.pointer (some ⟨b, 0, none⟩)]⟩ 27 (0, 0))]])
      (fun v ρ' L' => v = .tuple ⟨[]⟩ ∧ ρ.le ρ' ∧ ∃ mb' ck', L' = [[(b, dO hb mb' s.length ops armed failing dead)], [(hb.b, .cells ⟨heldC (settled (fun _ => true) s) ++ hb.sp⟩ 34 (0, 0))], [(mb', .map ⟨[]⟩ ck')]]) := by
  refine spec_enter Try.func35 rfl rfl rfl fun u R => ?_
  simp only [argsE, List.cons_append, List.nil_append]
  repeat' (first | (refine tl_is (.func 36) ?_; refine qC rfl rfl (settle_spec _ _ _ _ _ _ _ _ _ _ _ 37 [] [] (fun _ => true) (fun nth _ => sync11 _ nth) hs hm) ?_; rintro v ρ' L' hle ⟨rfl, hle2, mb', ck', rfl⟩ <;> (try simp only [List.cons_append, List.nil_append, List.append_eq])) | (refine i_op ?_; first | (refine iMv ?_; refine qMv ?_) | (refine iLd ?_; refine qLd ?_) | (refine iFa ?_; refine qFa ?_) | (refine iAd ?_; refine qAd ?_) | (refine iSb ?_; refine qSb ?_) | (refine iMl ?_; refine qMl ?_) | (refine iRm ?_; refine qRm ?_) | (refine iQu ?_; refine qQu ?_) | (refine iSr ?_; refine qSr ?_) | (refine iSh ?_; refine qSh ?_) | (refine iCm ?_; refine qCm ?_) | (refine iEx ?_; refine qEx ?_) | (refine iAs ?_; refine qAs ?_) | (refine iPk ?_; refine qPk ?_) | (refine iNc ?_; refine qNc ?_) | (refine iIa ?_; refine qIa ?_) | (refine iCv ?_; refine qCv ?_) | (refine iBi ?_; refine qBi ?_) | (refine iUn ?_; refine qUn ?_) | (refine iFl ?_; refine qFl ?_) | (refine iLu ?_; refine qLu ?_) | (refine iBu ?_; refine qBu ?_) | (refine iSl ?_; refine qSl ?_) | (refine iMf ?_; refine qMf ?_) | (refine iMi ?_; refine qMi ?_) | (refine iTa ?_; refine qTa ?_) | (refine iSt ?_; refine qSt ?_) | (refine iAl ?_; first | refine qAlA (fun _ => ?_) | refine qAlS (fun _ => ?_)) | (refine iBx ?_; first | refine qBxA (fun _ => ?_) | refine qBxS (fun _ => ?_)) | (refine iMm ?_; refine qMm (fun _ => ?_)) | (refine iBs ?_; refine qBs (fun _ => ?_)) | (refine i_gd ?_; first | refine qWant ?_ | refine qSkip ?_ | refine qSkip0 ?_ | refine qSkipU ?_)) | refine tl_nil ?_ | refine tc_seq ?_ | refine tc_region ?_ | refine te_seq ?_ | (refine i_cond ?_; first | refine qCt ?_ | refine qCf ?_) | refine tc_block ?_ | refine te_block_normal ?_ | refine te_block_ret ?_ | refine te_then_ret ?_ | refine te_block_hit ?_ | (refine i_miss ?_; refine qMiss ?_) | refine te_then_exit ?_ | refine tc_exit ?_ | refine tc_ret ?_ | refine tc_skip ?_)
  exact te_end rfl rfl rfl (res0 rfl) hle2 tk (by infer_instance) ⟨rfl, hle2, mb', ck', rfl⟩
/-- what a Sync comes to -/
def DS.sync (D : DS) : DS × Int :=
  if D.dead then (D, 9)
  else if D.armed = 0 then ({ D.tick with dead := true }, 9)
  else if D.failing = 0 then (D.tick, 8)
  else ({ D.tick with armed := cnt D.armed, secs := settled (fun _ => true) D.secs }, 0)
theorem sync_spec (ρ : Hp) (b : Nat) (hb : HB) (mb : Nat) (es : List MapEntry) (ck : Nat) (D : DS) (hD : D.Ok) (hm : MapOk D.secs es) :
    Spec Try.prog 12 [.pointer (some ⟨b, 0, none⟩)] ρ (diskL b hb mb es ck D)
      (fun v ρ' L' => v = .int .i64 D.sync.2 ∧ ρ.le ρ' ∧ ∃ mb' es' ck', MapOk D.sync.1.secs es' ∧ L' = diskL b hb mb' es' ck' D.sync.1) := by
  obtain ⟨s, ops, armed, failing, dead⟩ := D
  obtain ⟨hs, a1, a2, f1, f2⟩ := hD
  dsimp only at hs a1 a2 f1 f2 hm
  have hpos : (0 : Int) < s.length := by have := hs.pos; omega
  cases dead with
  | true =>
    have he : DS.sync ⟨s, ops, armed, failing, true⟩ = (⟨s, ops, armed, failing, true⟩, 9) := by simp [DS.sync]
    simp only [he]
    refine spec_enter Try.func12 rfl rfl rfl fun u R => ?_
    simp only [argsE, List.cons_append, List.nil_append, diskL]
    repeat' (first | (refine tl_is (.func 34) ?_; refine qC rfl rfl (does_dead _ _ _ _ _ _ _ _ _ _ _) ?_; rintro v ρ' L' hle ⟨rfl, rfl, rfl⟩ <;> (try simp only [List.cons_append, List.nil_append, List.append_eq])) | (refine i_op ?_; first | (refine iMv ?_; refine qMv ?_) | (refine iLd ?_; refine qLd ?_) | (refine iFa ?_; refine qFa ?_) | (refine iAd ?_; refine qAd ?_) | (refine iSb ?_; refine qSb ?_) | (refine iMl ?_; refine qMl ?_) | (refine iRm ?_; refine qRm ?_) | (refine iQu ?_; refine qQu ?_) | (refine iSr ?_; refine qSr ?_) | (refine iSh ?_; refine qSh ?_) | (refine iCm ?_; refine qCm ?_) | (refine iEx ?_; refine qEx ?_) | (refine iAs ?_; refine qAs ?_) | (refine iPk ?_; refine qPk ?_) | (refine iNc ?_; refine qNc ?_) | (refine iIa ?_; refine qIa ?_) | (refine iCv ?_; refine qCv ?_) | (refine iBi ?_; refine qBi ?_) | (refine iUn ?_; refine qUn ?_) | (refine iFl ?_; refine qFl ?_) | (refine iLu ?_; refine qLu ?_) | (refine iBu ?_; refine qBu ?_) | (refine iSl ?_; refine qSl ?_) | (refine iMf ?_; refine qMf ?_) | (refine iMi ?_; refine qMi ?_) | (refine iTa ?_; refine qTa ?_) | (refine iSt ?_; refine qSt ?_) | (refine iAl ?_; first | refine qAlA (fun _ => ?_) | refine qAlS (fun _ => ?_)) | (refine iBx ?_; first | refine qBxA (fun _ => ?_) | refine qBxS (fun _ => ?_)) | (refine iMm ?_; refine qMm (fun _ => ?_)) | (refine iBs ?_; refine qBs (fun _ => ?_)) | (refine i_gd ?_; first | refine qWant ?_ | refine qSkip ?_ | refine qSkip0 ?_ | refine qSkipU ?_)) | refine tl_nil ?_ | refine tc_seq ?_ | refine tc_region ?_ | refine te_seq ?_ | (refine i_cond ?_; first | refine qCt ?_ | refine qCf ?_) | refine tc_block ?_ | refine te_block_normal ?_ | refine te_block_ret ?_ | refine te_then_ret ?_ | refine te_block_hit ?_ | (refine i_miss ?_; refine qMiss ?_) | refine te_then_exit ?_ | refine tc_exit ?_ | refine tc_ret ?_ | refine tc_skip ?_)
    exact qE ⟨rfl, Hp.le_refl _, mb, es, ck, hm, rfl⟩
  | false =>
    by_cases ha : armed = 0
    · subst ha
      have he : DS.sync ⟨s, ops, 0, failing, false⟩ = (⟨s, IntKind.i64.wrap (ops + 1), 0, cnt failing, true⟩, 9) := by simp [DS.sync, DS.tick]
      simp only [he]
      refine spec_enter Try.func12 rfl rfl rfl fun u R => ?_
      simp only [argsE, List.cons_append, List.nil_append, diskL]
      repeat' (first | (refine tl_is (.func 34) ?_; refine qC rfl rfl (does_dies _ _ _ _ _ _ _ _ _ _ _ [] _ (Int.le_refl 0) hpos f1 f2 (sync2 _ _)) ?_; rintro v ρ' L' hle ⟨rfl, v0, h0, rfl, rfl⟩ <;> (try simp only [List.cons_append, List.nil_append, List.append_eq])) | (refine i_op ?_; first | (refine iMv ?_; refine qMv ?_) | (refine iLd ?_; refine qLd ?_) | (refine iFa ?_; refine qFa ?_) | (refine iAd ?_; refine qAd ?_) | (refine iSb ?_; refine qSb ?_) | (refine iMl ?_; refine qMl ?_) | (refine iRm ?_; refine qRm ?_) | (refine iQu ?_; refine qQu ?_) | (refine iSr ?_; refine qSr ?_) | (refine iSh ?_; refine qSh ?_) | (refine iCm ?_; refine qCm ?_) | (refine iEx ?_; refine qEx ?_) | (refine iAs ?_; refine qAs ?_) | (refine iPk ?_; refine qPk ?_) | (refine iNc ?_; refine qNc ?_) | (refine iIa ?_; refine qIa ?_) | (refine iCv ?_; refine qCv ?_) | (refine iBi ?_; refine qBi ?_) | (refine iUn ?_; refine qUn ?_) | (refine iFl ?_; refine qFl ?_) | (refine iLu ?_; refine qLu ?_) | (refine iBu ?_; refine qBu ?_) | (refine iSl ?_; refine qSl ?_) | (refine iMf ?_; refine qMf ?_) | (refine iMi ?_; refine qMi ?_) | (refine iTa ?_; refine qTa ?_) | (refine iSt ?_; refine qSt ?_) | (refine iAl ?_; first | refine qAlA (fun _ => ?_) | refine qAlS (fun _ => ?_)) | (refine iBx ?_; first | refine qBxA (fun _ => ?_) | refine qBxS (fun _ => ?_)) | (refine iMm ?_; refine qMm (fun _ => ?_)) | (refine iBs ?_; refine qBs (fun _ => ?_)) | (refine i_gd ?_; first | refine qWant ?_ | refine qSkip ?_ | refine qSkip0 ?_ | refine qSkipU ?_)) | refine tl_nil ?_ | refine tc_seq ?_ | refine tc_region ?_ | refine te_seq ?_ | (refine i_cond ?_; first | refine qCt ?_ | refine qCf ?_) | refine tc_block ?_ | refine te_block_normal ?_ | refine te_block_ret ?_ | refine te_then_ret ?_ | refine te_block_hit ?_ | (refine i_miss ?_; refine qMiss ?_) | refine te_then_exit ?_ | refine tc_exit ?_ | refine tc_ret ?_ | refine tc_skip ?_)
      exact qE ⟨rfl, Hp.le_refl _, mb, es, ck, hm, rfl⟩
    · by_cases hf : failing = 0
      · subst hf
        have he : DS.sync ⟨s, ops, armed, 0, false⟩ = (⟨s, IntKind.i64.wrap (ops + 1), armed, -1, false⟩, 8) := by simp [DS.sync, DS.tick, ha, cnt]
        simp only [he]
        refine spec_enter Try.func12 rfl rfl rfl fun u R => ?_
        simp only [argsE, List.cons_append, List.nil_append, diskL]
        repeat' (first | (refine tl_is (.func 34) ?_; refine qC rfl rfl (does_fail_w _ _ _ _ _ _ _ _ _ _ _ (Int.le_refl 0) hpos ha) ?_; rintro v ρ' L' hle ⟨rfl, rfl, rfl⟩ <;> (try simp only [List.cons_append, List.nil_append, List.append_eq])) | (refine i_op ?_; first | (refine iMv ?_; refine qMv ?_) | (refine iLd ?_; refine qLd ?_) | (refine iFa ?_; refine qFa ?_) | (refine iAd ?_; refine qAd ?_) | (refine iSb ?_; refine qSb ?_) | (refine iMl ?_; refine qMl ?_) | (refine iRm ?_; refine qRm ?_) | (refine iQu ?_; refine qQu ?_) | (refine iSr ?_; refine qSr ?_) | (refine iSh ?_; refine qSh ?_) | (refine iCm ?_; refine qCm ?_) | (refine iEx ?_; refine qEx ?_) | (refine iAs ?_; refine qAs ?_) | (refine iPk ?_; refine qPk ?_) | (refine iNc ?_; refine qNc ?_) | (refine iIa ?_; refine qIa ?_) | (refine iCv ?_; refine qCv ?_) | (refine iBi ?_; refine qBi ?_) | (refine iUn ?_; refine qUn ?_) | (refine iFl ?_; refine qFl ?_) | (refine iLu ?_; refine qLu ?_) | (refine iBu ?_; refine qBu ?_) | (refine iSl ?_; refine qSl ?_) | (refine iMf ?_; refine qMf ?_) | (refine iMi ?_; refine qMi ?_) | (refine iTa ?_; refine qTa ?_) | (refine iSt ?_; refine qSt ?_) | (refine iAl ?_; first | refine qAlA (fun _ => ?_) | refine qAlS (fun _ => ?_)) | (refine iBx ?_; first | refine qBxA (fun _ => ?_) | refine qBxS (fun _ => ?_)) | (refine iMm ?_; refine qMm (fun _ => ?_)) | (refine iBs ?_; refine qBs (fun _ => ?_)) | (refine i_gd ?_; first | refine qWant ?_ | refine qSkip ?_ | refine qSkip0 ?_ | refine qSkipU ?_)) | refine tl_nil ?_ | refine tc_seq ?_ | refine tc_region ?_ | refine te_seq ?_ | (refine i_cond ?_; first | refine qCt ?_ | refine qCf ?_) | refine tc_block ?_ | refine te_block_normal ?_ | refine te_block_ret ?_ | refine te_then_ret ?_ | refine te_block_hit ?_ | (refine i_miss ?_; refine qMiss ?_) | refine te_then_exit ?_ | refine tc_exit ?_ | refine tc_ret ?_ | refine tc_skip ?_)
        exact qE ⟨rfl, Hp.le_refl _, mb, es, ck, hm, rfl⟩
      · have he : DS.sync ⟨s, ops, armed, failing, false⟩ = (⟨settled (fun _ => true) s, IntKind.i64.wrap (ops + 1), cnt armed, cnt failing, false⟩, 0) := by simp [DS.sync, DS.tick, ha, hf]
        simp only [he]
        refine spec_enter Try.func12 rfl rfl rfl fun u R => ?_
        simp only [argsE, List.cons_append, List.nil_append, diskL, settled_length]
        repeat' (first | (refine tl_is (.func 34) ?_; refine qC rfl rfl (does_ok_w _ _ _ _ _ _ _ _ _ _ _ _ _ _ _ (Int.le_refl 0) hpos hf f1 f2 ha a1 a2 (sync1 _ _ _ _ _ es ck s _ _ _ _ hs hm)) ?_; rintro v ρ' L' hle ⟨rfl, v0, h0, hle2, mb', ck', rfl⟩ <;> (try simp only [List.cons_append, List.nil_append, List.append_eq])) | (refine i_op ?_; first | (refine iMv ?_; refine qMv ?_) | (refine iLd ?_; refine qLd ?_) | (refine iFa ?_; refine qFa ?_) | (refine iAd ?_; refine qAd ?_) | (refine iSb ?_; refine qSb ?_) | (refine iMl ?_; refine qMl ?_) | (refine iRm ?_; refine qRm ?_) | (refine iQu ?_; refine qQu ?_) | (refine iSr ?_; refine qSr ?_) | (refine iSh ?_; refine qSh ?_) | (refine iCm ?_; refine qCm ?_) | (refine iEx ?_; refine qEx ?_) | (refine iAs ?_; refine qAs ?_) | (refine iPk ?_; refine qPk ?_) | (refine iNc ?_; refine qNc ?_) | (refine iIa ?_; refine qIa ?_) | (refine iCv ?_; refine qCv ?_) | (refine iBi ?_; refine qBi ?_) | (refine iUn ?_; refine qUn ?_) | (refine iFl ?_; refine qFl ?_) | (refine iLu ?_; refine qLu ?_) | (refine iBu ?_; refine qBu ?_) | (refine iSl ?_; refine qSl ?_) | (refine iMf ?_; refine qMf ?_) | (refine iMi ?_; refine qMi ?_) | (refine iTa ?_; refine qTa ?_) | (refine iSt ?_; refine qSt ?_) | (refine iAl ?_; first | refine qAlA (fun _ => ?_) | refine qAlS (fun _ => ?_)) | (refine iBx ?_; first | refine qBxA (fun _ => ?_) | refine qBxS (fun _ => ?_)) | (refine iMm ?_; refine qMm (fun _ => ?_)) | (refine iBs ?_; refine qBs (fun _ => ?_)) | (refine i_gd ?_; first | refine qWant ?_ | refine qSkip ?_ | refine qSkip0 ?_ | refine qSkipU ?_)) | refine tl_nil ?_ | refine tc_seq ?_ | refine tc_region ?_ | refine te_seq ?_ | (refine i_cond ?_; first | refine qCt ?_ | refine qCf ?_) | refine tc_block ?_ | refine te_block_normal ?_ | refine te_block_ret ?_ | refine te_then_ret ?_ | refine te_block_hit ?_ | (refine i_miss ?_; refine qMiss ?_) | refine te_then_exit ?_ | refine tc_exit ?_ | refine tc_ret ?_ | refine tc_skip ?_)
        exact te_end rfl rfl rfl (res1 rfl (r1_tmp rfl)) hle2 tk (by infer_instance) ⟨rfl, hle2, mb', [], ck', MapOk.empty emptyC_settled, rfl⟩
def DS.crash (keep : Nat → Bool) (D : DS) : DS := ⟨settled keep D.secs, D.ops, -1, -1, false⟩
theorem crash_spec (ρ : Hp) (b : Nat) (hb : HB) (mb : Nat) (es : List MapEntry) (ck : Nat) (D : DS) (hD : D.Ok) (hm : MapOk D.secs es) (ka : Option Addr) (kn kp : Nat) (X : SH) (keep : Nat → Bool)
    (hK : ∀ bk nth, nth < 2048 → Spec Try.prog 43 [.int .i64 (nth : Nat), .pointer (some ⟨bk, 0, none⟩)] ρ ([(bk, .cells ⟨[.slice ka kn kp]⟩ 23 (0, 0))] :: X) (fun v ρ' L' => v = .bool (keep nth) ∧ ρ' = ρ ∧ L' = [(bk, .cells ⟨[.slice ka kn kp]⟩ 23 (0, 0))] :: X)) :
    Spec Try.prog 18 [.pointer (some ⟨b, 0, none⟩), .slice ka kn kp] ρ (diskL b hb mb es ck D ++ X)
      (fun v ρ' L' => v = .int .i64 0 ∧ ρ.le ρ' ∧ ∃ mb' ck', L' = diskL b hb mb' [] ck' (D.crash keep) ++ X) := by
  obtain ⟨s, ops, armed, failing, dead⟩ := D
  obtain ⟨hs, a1, a2, f1, f2⟩ := hD
  dsimp only at hs a1 a2 f1 f2 hm
  have hpos := hs.pos
  refine spec_enter Try.func18 rfl rfl rfl fun u R => ?_
  simp only [argsE, List.cons_append, List.nil_append, diskL, DS.crash, settled_length]
  repeat' (first | (refine tl_is (.func 36) ?_; refine tl_call rfl rfl (settle_spec _ _ _ _ _ _ _ _ _ _ _ 43 [.pointer (some ⟨_, 0, none⟩)] ([(_, .cells ⟨[.slice ka kn kp]⟩ 23 (0, 0))] :: X) keep (fun nth h => hK _ nth h) hs hm) tk rfl ?_; rintro v ρ' L' hle ⟨rfl, hle2, mb', ck', rfl⟩; simp only [List.cons_append, List.nil_append, dO]) | (refine i_op ?_; first | (refine iMv ?_; refine qMv ?_) | (refine iLd ?_; refine qLd ?_) | (refine iFa ?_; refine qFa ?_) | (refine iAd ?_; refine qAd ?_) | (refine iSb ?_; refine qSb ?_) | (refine iMl ?_; refine qMl ?_) | (refine iRm ?_; refine qRm ?_) | (refine iQu ?_; refine qQu ?_) | (refine iSr ?_; refine qSr ?_) | (refine iSh ?_; refine qSh ?_) | (refine iCm ?_; refine qCm ?_) | (refine iEx ?_; refine qEx ?_) | (refine iAs ?_; refine qAs ?_) | (refine iPk ?_; refine qPk ?_) | (refine iNc ?_; refine qNc ?_) | (refine iIa ?_; refine qIa ?_) | (refine iCv ?_; refine qCv ?_) | (refine iBi ?_; refine qBi ?_) | (refine iUn ?_; refine qUn ?_) | (refine iFl ?_; refine qFl ?_) | (refine iLu ?_; refine qLu ?_) | (refine iBu ?_; refine qBu ?_) | (refine iSl ?_; refine qSl ?_) | (refine iMf ?_; refine qMf ?_) | (refine iMi ?_; refine qMi ?_) | (refine iTa ?_; refine qTa ?_) | (refine iSt ?_; refine qSt ?_) | (refine iAl ?_; first | refine qAlA (fun _ => ?_) | refine qAlS (fun _ => ?_)) | (refine iBx ?_; first | refine qBxA (fun _ => ?_) | refine qBxS (fun _ => ?_)) | (refine iMm ?_; refine qMm (fun _ => ?_)) | (refine iBs ?_; refine qBs (fun _ => ?_)) | (refine i_gd ?_; first | refine qWant ?_ | refine qSkip ?_ | refine qSkip0 ?_ | refine qSkipU ?_)) | refine tl_nil ?_ | refine tc_seq ?_ | refine tc_region ?_ | refine te_seq ?_ | (refine i_cond ?_; first | refine qCt ?_ | refine qCf ?_) | refine tc_block ?_ | refine te_block_normal ?_ | refine te_block_ret ?_ | refine te_then_ret ?_ | refine te_block_hit ?_ | (refine i_miss ?_; refine qMiss ?_) | refine te_then_exit ?_ | refine tc_exit ?_ | refine tc_ret ?_ | refine tc_skip ?_)
  exact te_end rfl rfl rfl (res1 rfl (r1_tmp rfl)) hle2 tk (by infer_instance) ⟨rfl, hle2, mb', ck', rfl⟩
/-! ## what a Crash keeps, by a list of flags -/
def keepB (ks : List Bool) (nth : Nat) : Bool := ks[nth]?.getD false
theorem crash1_over (ρ : Hp) (bk nth : Nat) (ka : Option Addr) (kn kp : Nat) (X : SH) (h : kn ≤ nth) : Spec Try.prog 43 [.int .i64 (nth : Nat), .pointer (some ⟨bk, 0, none⟩)] ρ ([(bk, .cells ⟨[.slice ka kn kp]⟩ 23 (0, 0))] :: X) (fun v ρ' L' => v = .bool false ∧ ρ' = ρ ∧ L' = [(bk, .cells ⟨[.slice ka kn kp]⟩ 23 (0, 0))] :: X) := by
  refine spec_enter Try.func43 rfl rfl rfl fun u R => ?_
  simp only [argsE, List.cons_append, List.nil_append]
  repeat' (first | (refine i_op ?_; first | (refine iMv ?_; refine qMv ?_) | (refine iLd ?_; refine qLd ?_) | (refine iFa ?_; refine qFa ?_) | (refine iAd ?_; refine qAd ?_) | (refine iSb ?_; refine qSb ?_) | (refine iMl ?_; refine qMl ?_) | (refine iRm ?_; refine qRm ?_) | (refine iQu ?_; refine qQu ?_) | (refine iSr ?_; refine qSr ?_) | (refine iSh ?_; refine qSh ?_) | (refine iCm ?_; refine qCm ?_) | (refine iEx ?_; refine qEx ?_) | (refine iAs ?_; refine qAs ?_) | (refine iPk ?_; refine qPk ?_) | (refine iNc ?_; refine qNc ?_) | (refine iIa ?_; refine qIa ?_) | (refine iCv ?_; refine qCv ?_) | (refine iBi ?_; refine qBi ?_) | (refine iUn ?_; refine qUn ?_) | (refine iFl ?_; refine qFl ?_) | (refine iLu ?_; refine qLu ?_) | (refine iBu ?_; refine qBu ?_) | (refine iSl ?_; refine qSl ?_) | (refine iMf ?_; refine qMf ?_) | (refine iMi ?_; refine qMi ?_) | (refine iTa ?_; refine qTa ?_) | (refine iSt ?_; refine qSt ?_) | (refine iAl ?_; first | refine qAlA (fun _ => ?_) | refine qAlS (fun _ => ?_)) | (refine iBx ?_; first | refine qBxA (fun _ => ?_) | refine qBxS (fun _ => ?_)) | (refine iMm ?_; refine qMm (fun _ => ?_)) | (refine iBs ?_; refine qBs (fun _ => ?_)) | (refine i_gd ?_; first | refine qWant ?_ | refine qSkip ?_ | refine qSkip0 ?_ | refine qSkipU ?_)) | refine tl_nil ?_ | refine tc_seq ?_ | refine tc_region ?_ | refine te_seq ?_ | (refine i_cond ?_; first | refine qCt ?_ | refine qCf ?_) | refine tc_block ?_ | refine te_block_normal ?_ | refine te_block_ret ?_ | refine te_then_ret ?_ | refine te_block_hit ?_ | (refine i_miss ?_; refine qMiss ?_) | refine te_then_exit ?_ | refine tc_exit ?_ | refine tc_ret ?_ | refine tc_skip ?_)
  exact te_end rfl rfl rfl (res1 rfl (r1_tmp rfl)) (Hp.le_refl _) (take_cons' rem_here' take_app') (by infer_instance) ⟨rfl, rfl, rfl⟩
theorem crash1_at (ρ : Hp) (bk nth kb o kn kp : Nat) (C : List Value) (T : TypeId) (fr : Nat × Nat) (f : Bool) (h : nth < kn) (hc : C[o + nth * 1]? = some (.bool f)) : Spec Try.prog 43 [.int .i64 (nth : Nat), .pointer (some ⟨bk, 0, none⟩)] ρ [[(bk, .cells ⟨[.slice (some ⟨kb, o, none⟩) kn kp]⟩ 23 (0, 0))], [(kb, .cells ⟨C⟩ T fr)]] (fun v ρ' L' => v = .bool f ∧ ρ' = ρ ∧ L' = [[(bk, .cells ⟨[.slice (some ⟨kb, o, none⟩) kn kp]⟩ 23 (0, 0))], [(kb, .cells ⟨C⟩ T fr)]]) := by
  refine spec_enter Try.func43 rfl rfl rfl fun u R => ?_
  simp only [argsE, List.cons_append, List.nil_append]
  repeat' (first | (refine i_op ?_; first | (refine iMv ?_; refine qMv ?_) | (refine iLd ?_; refine qLd ?_) | (refine iFa ?_; refine qFa ?_) | (refine iAd ?_; refine qAd ?_) | (refine iSb ?_; refine qSb ?_) | (refine iMl ?_; refine qMl ?_) | (refine iRm ?_; refine qRm ?_) | (refine iQu ?_; refine qQu ?_) | (refine iSr ?_; refine qSr ?_) | (refine iSh ?_; refine qSh ?_) | (refine iCm ?_; refine qCm ?_) | (refine iEx ?_; refine qEx ?_) | (refine iAs ?_; refine qAs ?_) | (refine iPk ?_; refine qPk ?_) | (refine iNc ?_; refine qNc ?_) | (refine iIa ?_; refine qIa ?_) | (refine iCv ?_; refine qCv ?_) | (refine iBi ?_; refine qBi ?_) | (refine iUn ?_; refine qUn ?_) | (refine iFl ?_; refine qFl ?_) | (refine iLu ?_; refine qLu ?_) | (refine iBu ?_; refine qBu ?_) | (refine iSl ?_; refine qSl ?_) | (refine iMf ?_; refine qMf ?_) | (refine iMi ?_; refine qMi ?_) | (refine iTa ?_; refine qTa ?_) | (refine iSt ?_; refine qSt ?_) | (refine iAl ?_; first | refine qAlA (fun _ => ?_) | refine qAlS (fun _ => ?_)) | (refine iBx ?_; first | refine qBxA (fun _ => ?_) | refine qBxS (fun _ => ?_)) | (refine iMm ?_; refine qMm (fun _ => ?_)) | (refine iBs ?_; refine qBs (fun _ => ?_)) | (refine i_gd ?_; first | refine qWant ?_ | refine qSkip ?_ | refine qSkip0 ?_ | refine qSkipU ?_)) | refine tl_nil ?_ | refine tc_seq ?_ | refine tc_region ?_ | refine te_seq ?_ | (refine i_cond ?_; first | refine qCt ?_ | refine qCf ?_) | refine tc_block ?_ | refine te_block_normal ?_ | refine te_block_ret ?_ | refine te_then_ret ?_ | refine te_block_hit ?_ | (refine i_miss ?_; refine qMiss ?_) | refine te_then_exit ?_ | refine tc_exit ?_ | refine tc_ret ?_ | refine tc_skip ?_)
  exact te_end rfl rfl rfl (res1 rfl (r1_tmp rfl)) (Hp.le_refl _) tk (by infer_instance) ⟨rfl, rfl, rfl⟩
theorem crash1_imm (ρ : Hp) (bk nth kb o kn kp : Nat) (C : List Value) (T : TypeId) (fr : Nat × Nat) (f : Bool) (h : nth < kn) (hc : C[o + nth * 1]? = some (.bool f)) (hb : ρ kb = some (.cells ⟨C⟩ T fr)) : Spec Try.prog 43 [.int .i64 (nth : Nat), .pointer (some ⟨bk, 0, none⟩)] ρ [[(bk, .cells ⟨[.slice (some ⟨kb, o, none⟩) kn kp]⟩ 23 (0, 0))]] (fun v ρ' L' => v = .bool f ∧ ρ' = ρ ∧ L' = [[(bk, .cells ⟨[.slice (some ⟨kb, o, none⟩) kn kp]⟩ 23 (0, 0))]]) := by
  refine spec_enter Try.func43 rfl rfl rfl fun u R => ?_
  simp only [argsE, List.cons_append, List.nil_append]
  repeat' (first | (refine i_op ?_; first | (refine iMv ?_; refine qMv ?_) | (refine iLd ?_; refine qLd ?_) | (refine iFa ?_; refine qFa ?_) | (refine iAd ?_; refine qAd ?_) | (refine iSb ?_; refine qSb ?_) | (refine iMl ?_; refine qMl ?_) | (refine iRm ?_; refine qRm ?_) | (refine iQu ?_; refine qQu ?_) | (refine iSr ?_; refine qSr ?_) | (refine iSh ?_; refine qSh ?_) | (refine iCm ?_; refine qCm ?_) | (refine iEx ?_; refine qEx ?_) | (refine iAs ?_; refine qAs ?_) | (refine iPk ?_; refine qPk ?_) | (refine iNc ?_; refine qNc ?_) | (refine iIa ?_; refine qIa ?_) | (refine iCv ?_; refine qCv ?_) | (refine iBi ?_; refine qBi ?_) | (refine iUn ?_; refine qUn ?_) | (refine iFl ?_; refine qFl ?_) | (refine iLu ?_; refine qLu ?_) | (refine iBu ?_; refine qBu ?_) | (refine iSl ?_; refine qSl ?_) | (refine iMf ?_; refine qMf ?_) | (refine iMi ?_; refine qMi ?_) | (refine iTa ?_; refine qTa ?_) | (refine iSt ?_; refine qSt ?_) | (refine iAl ?_; first | refine qAlA (fun _ => ?_) | refine qAlS (fun _ => ?_)) | (refine iBx ?_; first | refine qBxA (fun _ => ?_) | refine qBxS (fun _ => ?_)) | (refine iMm ?_; refine qMm (fun _ => ?_)) | (refine iBs ?_; refine qBs (fun _ => ?_)) | (refine i_gd ?_; first | refine qWant ?_ | refine qSkip ?_ | refine qSkip0 ?_ | refine qSkipU ?_)) | refine tl_nil ?_ | refine tc_seq ?_ | refine tc_region ?_ | refine te_seq ?_ | (refine i_cond ?_; first | refine qCt ?_ | refine qCf ?_) | refine tc_block ?_ | refine te_block_normal ?_ | refine te_block_ret ?_ | refine te_then_ret ?_ | refine te_block_hit ?_ | (refine i_miss ?_; refine qMiss ?_) | refine te_then_exit ?_ | refine tc_exit ?_ | refine tc_ret ?_ | refine tc_skip ?_)
  exact te_end rfl rfl rfl (res1 rfl (r1_tmp rfl)) (Hp.le_refl _) tk (by infer_instance) ⟨rfl, rfl, rfl⟩
end Go.Proofs.E

namespace Go.Proofs.E
open Go
set_option linter.unusedVariables false
set_option linter.unusedSimpArgs false
set_option maxRecDepth 4000
attribute [local irreducible] Yl TL TC TE Spec YSpec R1 Hp.le EnvLe TS TR YS Stays

def DS.arm (D : DS) (n : Int) : DS × Int := if D.dead then (D, 9) else ({ D with armed := max n (-1) }, 0)
def DS.fail (D : DS) (n : Int) : DS × Int := if D.dead then (D, 9) else ({ D with failing := max n (-1) }, 0)
theorem arm_spec (ρ : Hp) (b : Nat) (hb : HB) (mb n : Nat) (ops armed failing k : Int) (dead : Bool) : Spec Try.prog 20 [.pointer (some ⟨b, 0, none⟩), .int .i64 k] ρ [[(b, dO hb mb n ops armed failing dead)]]
    (fun v ρ' L' => v = .int .i64 (if dead then 9 else 0) ∧ ρ' = ρ ∧ L' = [[(b, dO hb mb n ops (if dead then armed else max k (-1)) failing dead)]]) := by
  cases dead with
  | true =>
    simp only [if_true]
    refine spec_enter Try.func20 rfl rfl rfl fun u R => ?_
    simp only [argsE, List.cons_append, List.nil_append]
    repeat' (first | (refine tl_is (.func 44) ?_; refine qC rfl rfl (lives_dead _ _ _ _ _ _ _ _) ?_; rintro v ρ' L' hle ⟨rfl, rfl, rfl⟩ <;> (try simp only [List.cons_append, List.nil_append, List.append_eq])) | (refine i_op ?_; first | (refine iMv ?_; refine qMv ?_) | (refine iLd ?_; refine qLd ?_) | (refine iFa ?_; refine qFa ?_) | (refine iAd ?_; refine qAd ?_) | (refine iSb ?_; refine qSb ?_) | (refine iMl ?_; refine qMl ?_) | (refine iRm ?_; refine qRm ?_) | (refine iQu ?_; refine qQu ?_) | (refine iSr ?_; refine qSr ?_) | (refine iSh ?_; refine qSh ?_) | (refine iCm ?_; refine qCm ?_) | (refine iEx ?_; refine qEx ?_) | (refine iAs ?_; refine qAs ?_) | (refine iPk ?_; refine qPk ?_) | (refine iNc ?_; refine qNc ?_) | (refine iIa ?_; refine qIa ?_) | (refine iCv ?_; refine qCv ?_) | (refine iBi ?_; refine qBi ?_) | (refine iUn ?_; refine qUn ?_) | (refine iFl ?_; refine qFl ?_) | (refine iLu ?_; refine qLu ?_) | (refine iBu ?_; refine qBu ?_) | (refine iSl ?_; refine qSl ?_) | (refine iMf ?_; refine qMf ?_) | (refine iMi ?_; refine qMi ?_) | (refine iTa ?_; refine qTa ?_) | (refine iSt ?_; refine qSt ?_) | (refine iAl ?_; first | refine qAlA (fun _ => ?_) | refine qAlS (fun _ => ?_)) | (refine iBx ?_; first | refine qBxA (fun _ => ?_) | refine qBxS (fun _ => ?_)) | (refine iMm ?_; refine qMm (fun _ => ?_)) | (refine iBs ?_; refine qBs (fun _ => ?_)) | (refine i_gd ?_; first | refine qWant ?_ | refine qSkip ?_ | refine qSkip0 ?_ | refine qSkipU ?_)) | refine tl_nil ?_ | refine tc_seq ?_ | refine tc_region ?_ | refine te_seq ?_ | (refine i_cond ?_; first | refine qCt ?_ | refine qCf ?_) | refine tc_block ?_ | refine te_block_normal ?_ | refine te_block_ret ?_ | refine te_then_ret ?_ | refine te_block_hit ?_ | (refine i_miss ?_; refine qMiss ?_) | refine te_then_exit ?_ | refine tc_exit ?_ | refine tc_ret ?_ | refine tc_skip ?_)
    exact qE ⟨rfl, rfl, rfl⟩
  | false =>
    simp only [Bool.false_eq_true, if_false]
    refine spec_enter Try.func20 rfl rfl rfl fun u R => ?_
    simp only [argsE, List.cons_append, List.nil_append]
    repeat' (first | (refine tl_is (.func 44) ?_; refine qC rfl rfl (lives_ok _ _ _ _ _ _ _ _) ?_; rintro v ρ' L' hle ⟨rfl, rfl, rfl⟩ <;> (try simp only [List.cons_append, List.nil_append, List.append_eq, dO])) | (refine i_op ?_; first | (refine iMv ?_; refine qMv ?_) | (refine iLd ?_; refine qLd ?_) | (refine iFa ?_; refine qFa ?_) | (refine iAd ?_; refine qAd ?_) | (refine iSb ?_; refine qSb ?_) | (refine iMl ?_; refine qMl ?_) | (refine iRm ?_; refine qRm ?_) | (refine iQu ?_; refine qQu ?_) | (refine iSr ?_; refine qSr ?_) | (refine iSh ?_; refine qSh ?_) | (refine iCm ?_; refine qCm ?_) | (refine iEx ?_; refine qEx ?_) | (refine iAs ?_; refine qAs ?_) | (refine iPk ?_; refine qPk ?_) | (refine iNc ?_; refine qNc ?_) | (refine iIa ?_; refine qIa ?_) | (refine iCv ?_; refine qCv ?_) | (refine iBi ?_; refine qBi ?_) | (refine iUn ?_; refine qUn ?_) | (refine iFl ?_; refine qFl ?_) | (refine iLu ?_; refine qLu ?_) | (refine iBu ?_; refine qBu ?_) | (refine iSl ?_; refine qSl ?_) | (refine iMf ?_; refine qMf ?_) | (refine iMi ?_; refine qMi ?_) | (refine iTa ?_; refine qTa ?_) | (refine iSt ?_; refine qSt ?_) | (refine iAl ?_; first | refine qAlA (fun _ => ?_) | refine qAlS (fun _ => ?_)) | (refine iBx ?_; first | refine qBxA (fun _ => ?_) | refine qBxS (fun _ => ?_)) | (refine iMm ?_; refine qMm (fun _ => ?_)) | (refine iBs ?_; refine qBs (fun _ => ?_)) | (refine i_gd ?_; first | refine qWant ?_ | refine qSkip ?_ | refine qSkip0 ?_ | refine qSkipU ?_)) | refine tl_nil ?_ | refine tc_seq ?_ | refine tc_region ?_ | refine te_seq ?_ | (refine i_cond ?_; first | refine qCt ?_ | refine qCf ?_) | refine tc_block ?_ | refine te_block_normal ?_ | refine te_block_ret ?_ | refine te_then_ret ?_ | refine te_block_hit ?_ | (refine i_miss ?_; refine qMiss ?_) | refine te_then_exit ?_ | refine tc_exit ?_ | refine tc_ret ?_ | refine tc_skip ?_)
    exact qE ⟨rfl, rfl, rfl⟩
theorem fail_spec (ρ : Hp) (b : Nat) (hb : HB) (mb n : Nat) (ops armed failing k : Int) (dead : Bool) : Spec Try.prog 45 [.pointer (some ⟨b, 0, none⟩), .int .i64 k] ρ [[(b, dO hb mb n ops armed failing dead)]]
    (fun v ρ' L' => v = .int .i64 (if dead then 9 else 0) ∧ ρ' = ρ ∧ L' = [[(b, dO hb mb n ops armed (if dead then failing else max k (-1)) dead)]]) := by
  cases dead with
  | true =>
    simp only [if_true]
    refine spec_enter Try.func45 rfl rfl rfl fun u R => ?_
    simp only [argsE, List.cons_append, List.nil_append]
    repeat' (first | (refine tl_is (.func 44) ?_; refine qC rfl rfl (lives_dead _ _ _ _ _ _ _ _) ?_; rintro v ρ' L' hle ⟨rfl, rfl, rfl⟩ <;> (try simp only [List.cons_append, List.nil_append, List.append_eq])) | (refine i_op ?_; first | (refine iMv ?_; refine qMv ?_) | (refine iLd ?_; refine qLd ?_) | (refine iFa ?_; refine qFa ?_) | (refine iAd ?_; refine qAd ?_) | (refine iSb ?_; refine qSb ?_) | (refine iMl ?_; refine qMl ?_) | (refine iRm ?_; refine qRm ?_) | (refine iQu ?_; refine qQu ?_) | (refine iSr ?_; refine qSr ?_) | (refine iSh ?_; refine qSh ?_) | (refine iCm ?_; refine qCm ?_) | (refine iEx ?_; refine qEx ?_) | (refine iAs ?_; refine qAs ?_) | (refine iPk ?_; refine qPk ?_) | (refine iNc ?_; refine qNc ?_) | (refine iIa ?_; refine qIa ?_) | (refine iCv ?_; refine qCv ?_) | (refine iBi ?_; refine qBi ?_) | (refine iUn ?_; refine qUn ?_) | (refine iFl ?_; refine qFl ?_) | (refine iLu ?_; refine qLu ?_) | (refine iBu ?_; refine qBu ?_) | (refine iSl ?_; refine qSl ?_) | (refine iMf ?_; refine qMf ?_) | (refine iMi ?_; refine qMi ?_) | (refine iTa ?_; refine qTa ?_) | (refine iSt ?_; refine qSt ?_) | (refine iAl ?_; first | refine qAlA (fun _ => ?_) | refine qAlS (fun _ => ?_)) | (refine iBx ?_; first | refine qBxA (fun _ => ?_) | refine qBxS (fun _ => ?_)) | (refine iMm ?_; refine qMm (fun _ => ?_)) | (refine iBs ?_; refine qBs (fun _ => ?_)) | (refine i_gd ?_; first | refine qWant ?_ | refine qSkip ?_ | refine qSkip0 ?_ | refine qSkipU ?_)) | refine tl_nil ?_ | refine tc_seq ?_ | refine tc_region ?_ | refine te_seq ?_ | (refine i_cond ?_; first | refine qCt ?_ | refine qCf ?_) | refine tc_block ?_ | refine te_block_normal ?_ | refine te_block_ret ?_ | refine te_then_ret ?_ | refine te_block_hit ?_ | (refine i_miss ?_; refine qMiss ?_) | refine te_then_exit ?_ | refine tc_exit ?_ | refine tc_ret ?_ | refine tc_skip ?_)
    exact qE ⟨rfl, rfl, rfl⟩
  | false =>
    simp only [Bool.false_eq_true, if_false]
    refine spec_enter Try.func45 rfl rfl rfl fun u R => ?_
    simp only [argsE, List.cons_append, List.nil_append]
    repeat' (first | (refine tl_is (.func 44) ?_; refine qC rfl rfl (lives_ok _ _ _ _ _ _ _ _) ?_; rintro v ρ' L' hle ⟨rfl, rfl, rfl⟩ <;> (try simp only [List.cons_append, List.nil_append, List.append_eq, dO])) | (refine i_op ?_; first | (refine iMv ?_; refine qMv ?_) | (refine iLd ?_; refine qLd ?_) | (refine iFa ?_; refine qFa ?_) | (refine iAd ?_; refine qAd ?_) | (refine iSb ?_; refine qSb ?_) | (refine iMl ?_; refine qMl ?_) | (refine iRm ?_; refine qRm ?_) | (refine iQu ?_; refine qQu ?_) | (refine iSr ?_; refine qSr ?_) | (refine iSh ?_; refine qSh ?_) | (refine iCm ?_; refine qCm ?_) | (refine iEx ?_; refine qEx ?_) | (refine iAs ?_; refine qAs ?_) | (refine iPk ?_; refine qPk ?_) | (refine iNc ?_; refine qNc ?_) | (refine iIa ?_; refine qIa ?_) | (refine iCv ?_; refine qCv ?_) | (refine iBi ?_; refine qBi ?_) | (refine iUn ?_; refine qUn ?_) | (refine iFl ?_; refine qFl ?_) | (refine iLu ?_; refine qLu ?_) | (refine iBu ?_; refine qBu ?_) | (refine iSl ?_; refine qSl ?_) | (refine iMf ?_; refine qMf ?_) | (refine iMi ?_; refine qMi ?_) | (refine iTa ?_; refine qTa ?_) | (refine iSt ?_; refine qSt ?_) | (refine iAl ?_; first | refine qAlA (fun _ => ?_) | refine qAlS (fun _ => ?_)) | (refine iBx ?_; first | refine qBxA (fun _ => ?_) | refine qBxS (fun _ => ?_)) | (refine iMm ?_; refine qMm (fun _ => ?_)) | (refine iBs ?_; refine qBs (fun _ => ?_)) | (refine i_gd ?_; first | refine qWant ?_ | refine qSkip ?_ | refine qSkip0 ?_ | refine qSkipU ?_)) | refine tl_nil ?_ | refine tc_seq ?_ | refine tc_region ?_ | refine te_seq ?_ | (refine i_cond ?_; first | refine qCt ?_ | refine qCf ?_) | refine tc_block ?_ | refine te_block_normal ?_ | refine te_block_ret ?_ | refine te_then_ret ?_ | refine te_block_hit ?_ | (refine i_miss ?_; refine qMiss ?_) | refine te_then_exit ?_ | refine tc_exit ?_ | refine tc_ret ?_ | refine tc_skip ?_)
    exact qE ⟨rfl, rfl, rfl⟩
theorem dead_spec (ρ : Hp) (b : Nat) (hb : HB) (mb n : Nat) (ops armed failing : Int) (dead : Bool) : Spec Try.prog 21 [.pointer (some ⟨b, 0, none⟩)] ρ [[(b, dO hb mb n ops armed failing dead)]]
    (fun v ρ' L' => v = .bool dead ∧ ρ' = ρ ∧ L' = [[(b, dO hb mb n ops armed failing dead)]]) := by
  refine spec_enter Try.func21 rfl rfl rfl fun u R => ?_
  simp only [argsE, List.cons_append, List.nil_append, dO]
  repeat' (first | (refine i_op ?_; first | (refine iMv ?_; refine qMv ?_) | (refine iLd ?_; refine qLd ?_) | (refine iFa ?_; refine qFa ?_) | (refine iAd ?_; refine qAd ?_) | (refine iSb ?_; refine qSb ?_) | (refine iMl ?_; refine qMl ?_) | (refine iRm ?_; refine qRm ?_) | (refine iQu ?_; refine qQu ?_) | (refine iSr ?_; refine qSr ?_) | (refine iSh ?_; refine qSh ?_) | (refine iCm ?_; refine qCm ?_) | (refine iEx ?_; refine qEx ?_) | (refine iAs ?_; refine qAs ?_) | (refine iPk ?_; refine qPk ?_) | (refine iNc ?_; refine qNc ?_) | (refine iIa ?_; refine qIa ?_) | (refine iCv ?_; refine qCv ?_) | (refine iBi ?_; refine qBi ?_) | (refine iUn ?_; refine qUn ?_) | (refine iFl ?_; refine qFl ?_) | (refine iLu ?_; refine qLu ?_) | (refine iBu ?_; refine qBu ?_) | (refine iSl ?_; refine qSl ?_) | (refine iMf ?_; refine qMf ?_) | (refine iMi ?_; refine qMi ?_) | (refine iTa ?_; refine qTa ?_) | (refine iSt ?_; refine qSt ?_) | (refine iAl ?_; first | refine qAlA (fun _ => ?_) | refine qAlS (fun _ => ?_)) | (refine iBx ?_; first | refine qBxA (fun _ => ?_) | refine qBxS (fun _ => ?_)) | (refine iMm ?_; refine qMm (fun _ => ?_)) | (refine iBs ?_; refine qBs (fun _ => ?_)) | (refine i_gd ?_; first | refine qWant ?_ | refine qSkip ?_ | refine qSkip0 ?_ | refine qSkipU ?_)) | refine tl_nil ?_ | refine tc_seq ?_ | refine tc_region ?_ | refine te_seq ?_ | (refine i_cond ?_; first | refine qCt ?_ | refine qCf ?_) | refine tc_block ?_ | refine te_block_normal ?_ | refine te_block_ret ?_ | refine te_then_ret ?_ | refine te_block_hit ?_ | (refine i_miss ?_; refine qMiss ?_) | refine te_then_exit ?_ | refine tc_exit ?_ | refine tc_ret ?_ | refine tc_skip ?_)
  exact qE ⟨rfl, rfl, rfl⟩
theorem len_spec (ρ : Hp) (b : Nat) (hb : HB) (mb n : Nat) (ops armed failing : Int) (dead : Bool) : Spec Try.prog 11 [.pointer (some ⟨b, 0, none⟩)] ρ [[(b, dO hb mb n ops armed failing dead)]]
    (fun v ρ' L' => v = .int .i64 (n : Nat) ∧ ρ' = ρ ∧ L' = [[(b, dO hb mb n ops armed failing dead)]]) := by
  refine spec_enter Try.func11 rfl rfl rfl fun u R => ?_
  simp only [argsE, List.cons_append, List.nil_append, dO]
  repeat' (first | (refine i_op ?_; first | (refine iMv ?_; refine qMv ?_) | (refine iLd ?_; refine qLd ?_) | (refine iFa ?_; refine qFa ?_) | (refine iAd ?_; refine qAd ?_) | (refine iSb ?_; refine qSb ?_) | (refine iMl ?_; refine qMl ?_) | (refine iRm ?_; refine qRm ?_) | (refine iQu ?_; refine qQu ?_) | (refine iSr ?_; refine qSr ?_) | (refine iSh ?_; refine qSh ?_) | (refine iCm ?_; refine qCm ?_) | (refine iEx ?_; refine qEx ?_) | (refine iAs ?_; refine qAs ?_) | (refine iPk ?_; refine qPk ?_) | (refine iNc ?_; refine qNc ?_) | (refine iIa ?_; refine qIa ?_) | (refine iCv ?_; refine qCv ?_) | (refine iBi ?_; refine qBi ?_) | (refine iUn ?_; refine qUn ?_) | (refine iFl ?_; refine qFl ?_) | (refine iLu ?_; refine qLu ?_) | (refine iBu ?_; refine qBu ?_) | (refine iSl ?_; refine qSl ?_) | (refine iMf ?_; refine qMf ?_) | (refine iMi ?_; refine qMi ?_) | (refine iTa ?_; refine qTa ?_) | (refine iSt ?_; refine qSt ?_) | (refine iAl ?_; first | refine qAlA (fun _ => ?_) | refine qAlS (fun _ => ?_)) | (refine iBx ?_; first | refine qBxA (fun _ => ?_) | refine qBxS (fun _ => ?_)) | (refine iMm ?_; refine qMm (fun _ => ?_)) | (refine iBs ?_; refine qBs (fun _ => ?_)) | (refine i_gd ?_; first | refine qWant ?_ | refine qSkip ?_ | refine qSkip0 ?_ | refine qSkipU ?_)) | refine tl_nil ?_ | refine tc_seq ?_ | refine tc_region ?_ | refine te_seq ?_ | (refine i_cond ?_; first | refine qCt ?_ | refine qCf ?_) | refine tc_block ?_ | refine te_block_normal ?_ | refine te_block_ret ?_ | refine te_then_ret ?_ | refine te_block_hit ?_ | (refine i_miss ?_; refine qMiss ?_) | refine te_then_exit ?_ | refine tc_exit ?_ | refine tc_ret ?_ | refine tc_skip ?_)
  exact qE ⟨rfl, rfl, rfl⟩
theorem ops_spec (ρ : Hp) (b : Nat) (hb : HB) (mb n : Nat) (ops armed failing : Int) (dead : Bool) : Spec Try.prog 32 [.pointer (some ⟨b, 0, none⟩)] ρ [[(b, dO hb mb n ops armed failing dead)]]
    (fun v ρ' L' => v = .int .i64 ops ∧ ρ' = ρ ∧ L' = [[(b, dO hb mb n ops armed failing dead)]]) := by
  refine spec_enter Try.func32 rfl rfl rfl fun u R => ?_
  simp only [argsE, List.cons_append, List.nil_append, dO]
  repeat' (first | (refine i_op ?_; first | (refine iMv ?_; refine qMv ?_) | (refine iLd ?_; refine qLd ?_) | (refine iFa ?_; refine qFa ?_) | (refine iAd ?_; refine qAd ?_) | (refine iSb ?_; refine qSb ?_) | (refine iMl ?_; refine qMl ?_) | (refine iRm ?_; refine qRm ?_) | (refine iQu ?_; refine qQu ?_) | (refine iSr ?_; refine qSr ?_) | (refine iSh ?_; refine qSh ?_) | (refine iCm ?_; refine qCm ?_) | (refine iEx ?_; refine qEx ?_) | (refine iAs ?_; refine qAs ?_) | (refine iPk ?_; refine qPk ?_) | (refine iNc ?_; refine qNc ?_) | (refine iIa ?_; refine qIa ?_) | (refine iCv ?_; refine qCv ?_) | (refine iBi ?_; refine qBi ?_) | (refine iUn ?_; refine qUn ?_) | (refine iFl ?_; refine qFl ?_) | (refine iLu ?_; refine qLu ?_) | (refine iBu ?_; refine qBu ?_) | (refine iSl ?_; refine qSl ?_) | (refine iMf ?_; refine qMf ?_) | (refine iMi ?_; refine qMi ?_) | (refine iTa ?_; refine qTa ?_) | (refine iSt ?_; refine qSt ?_) | (refine iAl ?_; first | refine qAlA (fun _ => ?_) | refine qAlS (fun _ => ?_)) | (refine iBx ?_; first | refine qBxA (fun _ => ?_) | refine qBxS (fun _ => ?_)) | (refine iMm ?_; refine qMm (fun _ => ?_)) | (refine iBs ?_; refine qBs (fun _ => ?_)) | (refine i_gd ?_; first | refine qWant ?_ | refine qSkip ?_ | refine qSkip0 ?_ | refine qSkipU ?_)) | refine tl_nil ?_ | refine tc_seq ?_ | refine tc_region ?_ | refine te_seq ?_ | (refine i_cond ?_; first | refine qCt ?_ | refine qCf ?_) | refine tc_block ?_ | refine te_block_normal ?_ | refine te_block_ret ?_ | refine te_then_ret ?_ | refine te_block_hit ?_ | (refine i_miss ?_; refine qMiss ?_) | refine te_then_exit ?_ | refine tc_exit ?_ | refine tc_ret ?_ | refine tc_skip ?_)
  exact qE ⟨rfl, rfl, rfl⟩
def fresh (n : Nat) : Secs := List.replicate n (zblk, none)
def DS.new (n : Nat) : DS := ⟨fresh n, 0, -1, -1, false⟩
theorem fresh_ok {n : Nat} (h0 : 0 < n) (h1 : n ≤ 2048) : SecsOk (fresh n) := by
  refine ⟨by simpa [fresh] using h1, by simpa [fresh] using h0, fun p hp => ?_, fun p hp c hc => ?_⟩ <;> (obtain ⟨_, rfl⟩ := List.mem_replicate.1 hp)
  · rfl
  · cases hc
theorem fresh_empty {n : Nat} : emptyC (fresh n) := fun p hp => by obtain ⟨_, rfl⟩ := List.mem_replicate.1 hp; rfl
theorem madeCells_rep (x : Value) (m : Nat) : ∀ n, 0 < m → madeCells ⟨List.replicate m x⟩ n = ⟨List.replicate n x⟩ := by
  intro n hm
  apply Array.ext
  · simp [madeCells]
  · intro i h1 h2
    have h3 : i % m < m := Nat.mod_lt _ hm
    simp [madeCells, h3]
theorem heldC_fresh (n : Nat) : heldC (fresh n) = List.replicate (n * 64) (.int .u8 0) := by
  unfold heldC fresh
  rw [List.map_replicate]
  have : zblk.map u8c = List.replicate 64 (Value.int .u8 0) := by rfl
  rw [this, List.flatten_replicate_replicate]
theorem new_spec (ρ : Hp) (n : Nat) (h0 : 0 < n) (h1 : n ≤ 2048) : Spec Try.prog 26 [.int .i64 (n : Nat)] ρ [] (fun v ρ' L' => ρ' = ρ ∧ ∃ b hb mb ck, v = .tuple ⟨[.pointer (some ⟨b, 0, none⟩), .int .i64 0]⟩ ∧ L' = diskL b hb mb [] ck (DS.new n)) := by
  refine spec_enter Try.func26 rfl rfl rfl fun u R => ?_
  have hl : (DS.new n).secs.length = n := by simp [DS.new, fresh]
  simp only [argsE, List.cons_append, List.nil_append, diskL, hl]
  simp only [DS.new, heldC_fresh]
  repeat' (first | (refine tl_makeSlice rfl rfl (by omega) (by omega) (by omega) (by omega) rfl (fun hbn => ?_); simp only [Value.cells, madeCells_rep _ 64 _ (by decide), Int.toNat_natCast]) | (refine i_op ?_; first | (refine iMv ?_; refine qMv ?_) | (refine iLd ?_; refine qLd ?_) | (refine iFa ?_; refine qFa ?_) | (refine iAd ?_; refine qAd ?_) | (refine iSb ?_; refine qSb ?_) | (refine iMl ?_; refine qMl ?_) | (refine iRm ?_; refine qRm ?_) | (refine iQu ?_; refine qQu ?_) | (refine iSr ?_; refine qSr ?_) | (refine iSh ?_; refine qSh ?_) | (refine iCm ?_; refine qCm ?_) | (refine iEx ?_; refine qEx ?_) | (refine iAs ?_; refine qAs ?_) | (refine iPk ?_; refine qPk ?_) | (refine iNc ?_; refine qNc ?_) | (refine iIa ?_; refine qIa ?_) | (refine iCv ?_; refine qCv ?_) | (refine iBi ?_; refine qBi ?_) | (refine iUn ?_; refine qUn ?_) | (refine iFl ?_; refine qFl ?_) | (refine iLu ?_; refine qLu ?_) | (refine iBu ?_; refine qBu ?_) | (refine iSl ?_; refine qSl ?_) | (refine iMf ?_; refine qMf ?_) | (refine iMi ?_; refine qMi ?_) | (refine iTa ?_; refine qTa ?_) | (refine iSt ?_; refine qSt ?_) | (refine iAl ?_; first | refine qAlA (fun _ => ?_) | refine qAlS (fun _ => ?_)) | (refine iBx ?_; first | refine qBxA (fun _ => ?_) | refine qBxS (fun _ => ?_)) | (refine iMm ?_; refine qMm (fun _ => ?_)) | (refine iBs ?_; refine qBs (fun _ => ?_)) | (refine i_gd ?_; first | refine qWant ?_ | refine qSkip ?_ | refine qSkip0 ?_ | refine qSkipU ?_)) | refine tl_nil ?_ | refine tc_seq ?_ | refine tc_region ?_ | refine te_seq ?_ | (refine i_cond ?_; first | refine qCt ?_ | refine qCf ?_) | refine tc_block ?_ | refine te_block_normal ?_ | refine te_block_ret ?_ | refine te_then_ret ?_ | refine te_block_hit ?_ | (refine i_miss ?_; refine qMiss ?_) | refine te_then_exit ?_ | refine tc_exit ?_ | refine tc_ret ?_ | refine tc_skip ?_)
  rename_i bm bd
  refine qE (L' := [[(bd, .cells _ 74 (0, 0))], [(hbn, _)], [(bm, .map _ _)]]) ⟨rfl, bd, ⟨hbn, n, []⟩, bm, 0, rfl, ?_⟩
  simp only [List.append_nil]
  rfl
/-- the number of sectors of a disk that a law makes -/
def sizeN (k : Int) : Nat := (k.tmod 12 + 12).toNat % 12 + 1
theorem sizeN_pos {k} : 0 < sizeN k := by unfold sizeN; omega
theorem sizeN_le {k} : sizeN k ≤ 12 := by unfold sizeN; omega
theorem size_spec (ρ : Hp) (k : Int) : Spec Try.prog 27 [.int .i64 k] ρ [] (fun v ρ' L' => v = .int .i64 (sizeN k : Nat) ∧ ρ' = ρ ∧ L' = []) := by
  have h1 : k.tmod 12 < 12 := Int.tmod_lt_of_pos k (by decide)
  have h2 : -12 < k.tmod 12 := Int.lt_tmod_of_pos k (by decide)
  have h3 : (k.tmod 12 + 12).tmod 12 = ((k.tmod 12 + 12).toNat % 12 : Nat) := by
    rw [Int.tmod_eq_emod_of_nonneg (by omega)]; omega
  have e : ((sizeN k : Nat) : Int) = (k.tmod 12 + 12).tmod 12 + 1 := by
    rw [h3]
    simp [sizeN]
  rw [e]
  refine spec_enter Try.func27 rfl rfl rfl fun u R => ?_
  simp only [argsE, List.cons_append, List.nil_append, diskL]
  repeat' (first | (refine i_op ?_; first | (refine iMv ?_; refine qMv ?_) | (refine iLd ?_; refine qLd ?_) | (refine iFa ?_; refine qFa ?_) | (refine iAd ?_; refine qAd ?_) | (refine iSb ?_; refine qSb ?_) | (refine iMl ?_; refine qMl ?_) | (refine iRm ?_; refine qRm ?_) | (refine iQu ?_; refine qQu ?_) | (refine iSr ?_; refine qSr ?_) | (refine iSh ?_; refine qSh ?_) | (refine iCm ?_; refine qCm ?_) | (refine iEx ?_; refine qEx ?_) | (refine iAs ?_; refine qAs ?_) | (refine iPk ?_; refine qPk ?_) | (refine iNc ?_; refine qNc ?_) | (refine iIa ?_; refine qIa ?_) | (refine iCv ?_; refine qCv ?_) | (refine iBi ?_; refine qBi ?_) | (refine iUn ?_; refine qUn ?_) | (refine iFl ?_; refine qFl ?_) | (refine iLu ?_; refine qLu ?_) | (refine iBu ?_; refine qBu ?_) | (refine iSl ?_; refine qSl ?_) | (refine iMf ?_; refine qMf ?_) | (refine iMi ?_; refine qMi ?_) | (refine iTa ?_; refine qTa ?_) | (refine iSt ?_; refine qSt ?_) | (refine iAl ?_; first | refine qAlA (fun _ => ?_) | refine qAlS (fun _ => ?_)) | (refine iBx ?_; first | refine qBxA (fun _ => ?_) | refine qBxS (fun _ => ?_)) | (refine iMm ?_; refine qMm (fun _ => ?_)) | (refine iBs ?_; refine qBs (fun _ => ?_)) | (refine i_gd ?_; first | refine qWant ?_ | refine qSkip ?_ | refine qSkip0 ?_ | refine qSkipU ?_)) | refine tl_nil ?_ | refine tc_seq ?_ | refine tc_region ?_ | refine te_seq ?_ | (refine i_cond ?_; first | refine qCt ?_ | refine qCf ?_) | refine tc_block ?_ | refine te_block_normal ?_ | refine te_block_ret ?_ | refine te_then_ret ?_ | refine te_block_hit ?_ | (refine i_miss ?_; refine qMiss ?_) | refine te_then_exit ?_ | refine tc_exit ?_ | refine tc_ret ?_ | refine tc_skip ?_)
  exact qE ⟨rfl, rfl, rfl⟩
end Go.Proofs.E

namespace Go.Proofs.E
open Go
set_option linter.unusedVariables false
set_option linter.unusedSimpArgs false
set_option maxRecDepth 4000
attribute [local irreducible] Yl TL TC TE Spec YSpec R1 Hp.le EnvLe TS TR YS Stays

/-- an operation of the played list -/
structure OpV where
  kind : Int
  at' : Int
  n : Int
  fill : UInt8
  ka : Option Addr
  kn : Nat
  kp : Nat
def OpV.cells (o : OpV) : List Value := [.int .i64 o.kind, .int .i64 o.at', .int .i64 o.n, u8c o.fill, .slice o.ka o.kn o.kp]
def OpV.v (o : OpV) : Value := .agg ⟨o.cells⟩
def fillB (f : UInt8) : Blk := List.replicate 64 f
theorem stc_fill (a z : Value) (n k : Nat) (h : k < n) : stc (List.replicate k a ++ List.replicate (n - k) z) (0 + k * 1) [a] = List.replicate (k + 1) a ++ List.replicate (n - (k + 1)) z := by
  obtain ⟨m, rfl⟩ : ∃ m, n = k + 1 + m := ⟨n - (k + 1), by omega⟩
  have e1 : k + 1 + m - k = m + 1 := by omega
  have e2 : k + 1 + m - (k + 1) = m := by omega
  rw [e1, e2]
  unfold stc
  rw [Nat.zero_add, Nat.mul_one, List.take_left' (by simp), List.drop_append, List.drop_eq_nil_of_le (by simp)]
  have e3 : List.drop (k + [a].length - (List.replicate k a).length) (List.replicate (m + 1) z) = List.replicate m z := by simp [List.drop_replicate]
  rw [e3, List.replicate_succ']
  simp
theorem block_spec (ρ : Hp) (o : OpV) : Spec Try.prog 15 [o.v] ρ [] (fun v ρ' L' => v = bv (fillB o.fill) ∧ ρ' = ρ ∧ L' = []) := by
  have hf : bv (fillB o.fill) = .agg ⟨List.replicate 64 (u8c o.fill)⟩ := by simp [bv, fillB, List.map_replicate]
  rw [hf]
  refine spec_enter Try.func15 rfl rfl rfl fun u R => ?_
  simp only [argsE, List.cons_append, List.nil_append, OpV.v, OpV.cells]
  repeat' (first | (refine i_op ?_; first | (refine iMv ?_; refine qMv ?_) | (refine iLd ?_; refine qLd ?_) | (refine iFa ?_; refine qFa ?_) | (refine iAd ?_; refine qAd ?_) | (refine iSb ?_; refine qSb ?_) | (refine iMl ?_; refine qMl ?_) | (refine iRm ?_; refine qRm ?_) | (refine iQu ?_; refine qQu ?_) | (refine iSr ?_; refine qSr ?_) | (refine iSh ?_; refine qSh ?_) | (refine iCm ?_; refine qCm ?_) | (refine iEx ?_; refine qEx ?_) | (refine iAs ?_; refine qAs ?_) | (refine iPk ?_; refine qPk ?_) | (refine iNc ?_; refine qNc ?_) | (refine iIa ?_; refine qIa ?_) | (refine iCv ?_; refine qCv ?_) | (refine iBi ?_; refine qBi ?_) | (refine iUn ?_; refine qUn ?_) | (refine iFl ?_; refine qFl ?_) | (refine iLu ?_; refine qLu ?_) | (refine iBu ?_; refine qBu ?_) | (refine iSl ?_; refine qSl ?_) | (refine iMf ?_; refine qMf ?_) | (refine iMi ?_; refine qMi ?_) | (refine iTa ?_; refine qTa ?_) | (refine iSt ?_; refine qSt ?_) | (refine iAl ?_; first | refine qAlA (fun _ => ?_) | refine qAlS (fun _ => ?_)) | (refine iBx ?_; first | refine qBxA (fun _ => ?_) | refine qBxS (fun _ => ?_)) | (refine iMm ?_; refine qMm (fun _ => ?_)) | (refine iBs ?_; refine qBs (fun _ => ?_)) | (refine i_gd ?_; first | refine qWant ?_ | refine qSkip ?_ | refine qSkip0 ?_ | refine qSkipU ?_)) | refine tl_nil ?_ | refine tc_seq ?_ | refine tc_region ?_ | refine te_seq ?_ | (refine i_cond ?_; first | refine qCt ?_ | refine qCf ?_) | refine tc_block ?_ | refine te_block_normal ?_ | refine te_block_ret ?_ | refine te_then_ret ?_ | refine te_block_hit ?_ | (refine i_miss ?_; refine qMiss ?_) | refine te_then_exit ?_ | refine tc_exit ?_ | refine tc_ret ?_ | refine tc_skip ?_)
  rename_i bo br bb
  refine tc_loop_e (fun (k : Nat) => ⟨[(5, .int .i64 k), (3, .pointer (some ⟨bb, 0, none⟩)), (2, .pointer (some ⟨br, 0, none⟩)), (1, .pointer (some ⟨bo, 0, none⟩))], ρ,
      [[(bb, .cells ⟨List.replicate k (u8c o.fill) ++ List.replicate (64 - k) (.int .u8 0)⟩ 34 (0, 0))], [(br, .cells ⟨List.replicate 64 (.int .u8 0)⟩ 34 (0, 0))], [(bo, .cells ⟨o.cells⟩ 25 (0, 0))]] ++ R⟩)
    (fun k => k ≤ 64) (fun k => 64 - k) 0 rfl (by omega) ev_le rfl tk inferInstance ?_
  intro k hk
  simp only [List.cons_append, List.nil_append, OpV.cells]
  have hlen : (List.replicate k (u8c o.fill) ++ List.replicate (64 - k) (Value.int .u8 0)).length = 64 := by simp; omega
  by_cases hlt : k < 64
  · repeat' (first | (refine i_op ?_; first | (refine iMv ?_; refine qMv ?_) | (refine iLd ?_; refine qLd ?_) | (refine iFa ?_; refine qFa ?_) | (refine iAd ?_; refine qAd ?_) | (refine iSb ?_; refine qSb ?_) | (refine iMl ?_; refine qMl ?_) | (refine iRm ?_; refine qRm ?_) | (refine iQu ?_; refine qQu ?_) | (refine iSr ?_; refine qSr ?_) | (refine iSh ?_; refine qSh ?_) | (refine iCm ?_; refine qCm ?_) | (refine iEx ?_; refine qEx ?_) | (refine iAs ?_; refine qAs ?_) | (refine iPk ?_; refine qPk ?_) | (refine iNc ?_; refine qNc ?_) | (refine iIa ?_; refine qIa ?_) | (refine iCv ?_; refine qCv ?_) | (refine iBi ?_; refine qBi ?_) | (refine iUn ?_; refine qUn ?_) | (refine iFl ?_; refine qFl ?_) | (refine iLu ?_; refine qLu ?_) | (refine iBu ?_; refine qBu ?_) | (refine iSl ?_; refine qSl ?_) | (refine iMf ?_; refine qMf ?_) | (refine iMi ?_; refine qMi ?_) | (refine iTa ?_; refine qTa ?_) | (refine iSt ?_; refine qSt ?_) | (refine iAl ?_; first | refine qAlA (fun _ => ?_) | refine qAlS (fun _ => ?_)) | (refine iBx ?_; first | refine qBxA (fun _ => ?_) | refine qBxS (fun _ => ?_)) | (refine iMm ?_; refine qMm (fun _ => ?_)) | (refine iBs ?_; refine qBs (fun _ => ?_)) | (refine i_gd ?_; first | refine qWant ?_ | refine qSkip ?_ | refine qSkip0 ?_ | refine qSkipU ?_)) | refine tl_nil ?_ | refine tc_seq ?_ | refine tc_region ?_ | refine te_seq ?_ | (refine i_cond ?_; first | refine qCt ?_ | refine qCf ?_) | refine tc_block ?_ | refine te_block_normal ?_ | refine te_block_ret ?_ | refine te_then_ret ?_ | refine te_block_hit ?_ | (refine i_miss ?_; refine qMiss ?_) | refine te_then_exit ?_ | refine tc_exit ?_ | refine tc_ret ?_ | refine tc_skip ?_)
    rw [stc_fill _ _ _ _ hlt]
    refine te_round_e (Lm := [_, _, _]) (R := R) (k + 1) rfl (by omega) ev_le rfl tk inferInstance (by omega)
  · have hk2 : k = 64 := by omega
    subst hk2
    have hfin : List.replicate 64 (u8c o.fill) ++ List.replicate (64 - 64) (Value.int .u8 0) = List.replicate 64 (u8c o.fill) := by simp
    rw [hfin] at hlen ⊢
    have hone : (List.replicate 64 (u8c o.fill)).all (·.oneCell') = true := by rfl
    repeat' (first | (refine i_op ?_; first | (refine iMv ?_; refine qMv ?_) | (refine iLd ?_; refine qLd ?_) | (refine iFa ?_; refine qFa ?_) | (refine iAd ?_; refine qAd ?_) | (refine iSb ?_; refine qSb ?_) | (refine iMl ?_; refine qMl ?_) | (refine iRm ?_; refine qRm ?_) | (refine iQu ?_; refine qQu ?_) | (refine iSr ?_; refine qSr ?_) | (refine iSh ?_; refine qSh ?_) | (refine iCm ?_; refine qCm ?_) | (refine iEx ?_; refine qEx ?_) | (refine iAs ?_; refine qAs ?_) | (refine iPk ?_; refine qPk ?_) | (refine iNc ?_; refine qNc ?_) | (refine iIa ?_; refine qIa ?_) | (refine iCv ?_; refine qCv ?_) | (refine iBi ?_; refine qBi ?_) | (refine iUn ?_; refine qUn ?_) | (refine iFl ?_; refine qFl ?_) | (refine iLu ?_; refine qLu ?_) | (refine iBu ?_; refine qBu ?_) | (refine iSl ?_; refine qSl ?_) | (refine iMf ?_; refine qMf ?_) | (refine iMi ?_; refine qMi ?_) | (refine iTa ?_; refine qTa ?_) | (refine iSt ?_; refine qSt ?_) | (refine iAl ?_; first | refine qAlA (fun _ => ?_) | refine qAlS (fun _ => ?_)) | (refine iBx ?_; first | refine qBxA (fun _ => ?_) | refine qBxS (fun _ => ?_)) | (refine iMm ?_; refine qMm (fun _ => ?_)) | (refine iBs ?_; refine qBs (fun _ => ?_)) | (refine i_gd ?_; first | refine qWant ?_ | refine qSkip ?_ | refine qSkip0 ?_ | refine qSkipU ?_)) | refine tl_nil ?_ | refine tc_seq ?_ | refine tc_region ?_ | refine te_seq ?_ | (refine i_cond ?_; first | refine qCt ?_ | refine qCf ?_) | refine tc_block ?_ | refine te_block_normal ?_ | refine te_block_ret ?_ | refine te_then_ret ?_ | refine te_block_hit ?_ | (refine i_miss ?_; refine qMiss ?_) | refine te_then_exit ?_ | refine tc_exit ?_ | refine tc_ret ?_ | refine tc_skip ?_)
    exact qE ⟨rfl, rfl, rfl⟩
theorem slEq_len (ρ : Hp) (a1 a2 : Option Addr) (n1 c1 n2 c2 : Nat) (h : n1 ≠ n2) : Spec Try.prog 16 [.slice a1 n1 c1, .slice a2 n2 c2] ρ [] (fun v ρ' L' => v = .bool false ∧ ρ' = ρ ∧ L' = []) := by
  refine spec_enter Try.func16 rfl rfl rfl fun u R => ?_
  simp only [argsE, List.cons_append, List.nil_append]
  repeat' (first | (refine i_op ?_; first | (refine iMv ?_; refine qMv ?_) | (refine iLd ?_; refine qLd ?_) | (refine iFa ?_; refine qFa ?_) | (refine iAd ?_; refine qAd ?_) | (refine iSb ?_; refine qSb ?_) | (refine iMl ?_; refine qMl ?_) | (refine iRm ?_; refine qRm ?_) | (refine iQu ?_; refine qQu ?_) | (refine iSr ?_; refine qSr ?_) | (refine iSh ?_; refine qSh ?_) | (refine iCm ?_; refine qCm ?_) | (refine iEx ?_; refine qEx ?_) | (refine iAs ?_; refine qAs ?_) | (refine iPk ?_; refine qPk ?_) | (refine iNc ?_; refine qNc ?_) | (refine iIa ?_; refine qIa ?_) | (refine iCv ?_; refine qCv ?_) | (refine iBi ?_; refine qBi ?_) | (refine iUn ?_; refine qUn ?_) | (refine iFl ?_; refine qFl ?_) | (refine iLu ?_; refine qLu ?_) | (refine iBu ?_; refine qBu ?_) | (refine iSl ?_; refine qSl ?_) | (refine iMf ?_; refine qMf ?_) | (refine iMi ?_; refine qMi ?_) | (refine iTa ?_; refine qTa ?_) | (refine iSt ?_; refine qSt ?_) | (refine iAl ?_; first | refine qAlA (fun _ => ?_) | refine qAlS (fun _ => ?_)) | (refine iBx ?_; first | refine qBxA (fun _ => ?_) | refine qBxS (fun _ => ?_)) | (refine iMm ?_; refine qMm (fun _ => ?_)) | (refine iBs ?_; refine qBs (fun _ => ?_)) | (refine i_gd ?_; first | refine qWant ?_ | refine qSkip ?_ | refine qSkip0 ?_ | refine qSkipU ?_)) | refine tl_nil ?_ | refine tc_seq ?_ | refine tc_region ?_ | refine te_seq ?_ | (refine i_cond ?_; first | refine qCt ?_ | refine qCf ?_) | refine tc_block ?_ | refine te_block_normal ?_ | refine te_block_ret ?_ | refine te_then_ret ?_ | refine te_block_hit ?_ | (refine i_miss ?_; refine qMiss ?_) | refine te_then_exit ?_ | refine tc_exit ?_ | refine tc_ret ?_ | refine tc_skip ?_)
  exact qE ⟨rfl, rfl, rfl⟩
theorem slEq_spec (ρ : Hp) (b1 b2 c1 c2 : Nat) (x y : List Nat) (s1 s2 : List Value) (T1 T2 : TypeId) (f1 f2 : Nat × Nat) (hl : x.length = y.length) (hxs : x.length ≤ 1000000) : Spec Try.prog 16 [.slice (some ⟨b1, 0, none⟩) x.length c1, .slice (some ⟨b2, 0, none⟩) y.length c2] ρ [[(b1, .cells ⟨x.map iv ++ s1⟩ T1 f1)], [(b2, .cells ⟨y.map iv ++ s2⟩ T2 f2)]]
    (fun v ρ' L' => v = .bool (decide (x = y)) ∧ ρ' = ρ ∧ L' = [[(b1, .cells ⟨x.map iv ++ s1⟩ T1 f1)], [(b2, .cells ⟨y.map iv ++ s2⟩ T2 f2)]]) := by
  refine spec_enter Try.func16 rfl rfl rfl fun u R => ?_
  simp only [argsE, List.cons_append, List.nil_append]
  repeat' (first | (refine i_op ?_; first | (refine iMv ?_; refine qMv ?_) | (refine iLd ?_; refine qLd ?_) | (refine iFa ?_; refine qFa ?_) | (refine iAd ?_; refine qAd ?_) | (refine iSb ?_; refine qSb ?_) | (refine iMl ?_; refine qMl ?_) | (refine iRm ?_; refine qRm ?_) | (refine iQu ?_; refine qQu ?_) | (refine iSr ?_; refine qSr ?_) | (refine iSh ?_; refine qSh ?_) | (refine iCm ?_; refine qCm ?_) | (refine iEx ?_; refine qEx ?_) | (refine iAs ?_; refine qAs ?_) | (refine iPk ?_; refine qPk ?_) | (refine iNc ?_; refine qNc ?_) | (refine iIa ?_; refine qIa ?_) | (refine iCv ?_; refine qCv ?_) | (refine iBi ?_; refine qBi ?_) | (refine iUn ?_; refine qUn ?_) | (refine iFl ?_; refine qFl ?_) | (refine iLu ?_; refine qLu ?_) | (refine iBu ?_; refine qBu ?_) | (refine iSl ?_; refine qSl ?_) | (refine iMf ?_; refine qMf ?_) | (refine iMi ?_; refine qMi ?_) | (refine iTa ?_; refine qTa ?_) | (refine iSt ?_; refine qSt ?_) | (refine iAl ?_; first | refine qAlA (fun _ => ?_) | refine qAlS (fun _ => ?_)) | (refine iBx ?_; first | refine qBxA (fun _ => ?_) | refine qBxS (fun _ => ?_)) | (refine iMm ?_; refine qMm (fun _ => ?_)) | (refine iBs ?_; refine qBs (fun _ => ?_)) | (refine i_gd ?_; first | refine qWant ?_ | refine qSkip ?_ | refine qSkip0 ?_ | refine qSkipU ?_)) | refine tl_nil ?_ | refine tc_seq ?_ | refine tc_region ?_ | refine te_seq ?_ | (refine i_cond ?_; first | refine qCt ?_ | refine qCf ?_) | refine tc_block ?_ | refine te_block_normal ?_ | refine te_block_ret ?_ | refine te_then_ret ?_ | refine te_block_hit ?_ | (refine i_miss ?_; refine qMiss ?_) | refine te_then_exit ?_ | refine tc_exit ?_ | refine tc_ret ?_ | refine tc_skip ?_)
  refine tc_loop_e (fun (k : Nat) => ⟨[(13, .int .i64 k), (12, .int .i64 x.length), (0, .slice (some ⟨b1, 0, none⟩) x.length c1), (1, .slice (some ⟨b2, 0, none⟩) y.length c2)], ρ,
      [[(b1, .cells ⟨x.map iv ++ s1⟩ T1 f1)], [(b2, .cells ⟨y.map iv ++ s2⟩ T2 f2)]] ++ R⟩)
    (fun k => k ≤ x.length ∧ x.take k = y.take k) (fun k => x.length - k) 0 rfl ⟨by omega, rfl⟩ ev_le rfl tk inferInstance ?_
  rintro k ⟨hk, hpre⟩
  simp only [List.cons_append, List.nil_append]
  by_cases hlt : k < x.length
  · have hx : (x.map iv ++ s1)[0 + k * 1]? = some (.int .i64 (x[k] : Nat)) := by rw [Nat.zero_add, Nat.mul_one, List.getElem?_append_left (by simp; omega)]; simp [hlt, iv]
    have hy : (y.map iv ++ s2)[0 + k * 1]? = some (.int .i64 (y[k]'(by omega) : Nat)) := by rw [Nat.zero_add, Nat.mul_one, List.getElem?_append_left (by simp; omega)]; simp [show k < y.length by omega, iv]
    by_cases he : x[k] = y[k]'(by omega)
    · repeat' (first | (refine i_op ?_; first | (refine iMv ?_; refine qMv ?_) | (refine iLd ?_; refine qLd ?_) | (refine iFa ?_; refine qFa ?_) | (refine iAd ?_; refine qAd ?_) | (refine iSb ?_; refine qSb ?_) | (refine iMl ?_; refine qMl ?_) | (refine iRm ?_; refine qRm ?_) | (refine iQu ?_; refine qQu ?_) | (refine iSr ?_; refine qSr ?_) | (refine iSh ?_; refine qSh ?_) | (refine iCm ?_; refine qCm ?_) | (refine iEx ?_; refine qEx ?_) | (refine iAs ?_; refine qAs ?_) | (refine iPk ?_; refine qPk ?_) | (refine iNc ?_; refine qNc ?_) | (refine iIa ?_; refine qIa ?_) | (refine iCv ?_; refine qCv ?_) | (refine iBi ?_; refine qBi ?_) | (refine iUn ?_; refine qUn ?_) | (refine iFl ?_; refine qFl ?_) | (refine iLu ?_; refine qLu ?_) | (refine iBu ?_; refine qBu ?_) | (refine iSl ?_; refine qSl ?_) | (refine iMf ?_; refine qMf ?_) | (refine iMi ?_; refine qMi ?_) | (refine iTa ?_; refine qTa ?_) | (refine iSt ?_; refine qSt ?_) | (refine iAl ?_; first | refine qAlA (fun _ => ?_) | refine qAlS (fun _ => ?_)) | (refine iBx ?_; first | refine qBxA (fun _ => ?_) | refine qBxS (fun _ => ?_)) | (refine iMm ?_; refine qMm (fun _ => ?_)) | (refine iBs ?_; refine qBs (fun _ => ?_)) | (refine i_gd ?_; first | refine qWant ?_ | refine qSkip ?_ | refine qSkip0 ?_ | refine qSkipU ?_)) | refine tl_nil ?_ | refine tc_seq ?_ | refine tc_region ?_ | refine te_seq ?_ | (refine i_cond ?_; first | refine qCt ?_ | refine qCf ?_) | refine tc_block ?_ | refine te_block_normal ?_ | refine te_block_ret ?_ | refine te_then_ret ?_ | refine te_block_hit ?_ | (refine i_miss ?_; refine qMiss ?_) | refine te_then_exit ?_ | refine tc_exit ?_ | refine tc_ret ?_ | refine tc_skip ?_)
      refine tc_any (Stays _ _ _) stays_refl ?_
      all_goals refine rMv 0 ?_
      all_goals refine rFull ?_
      all_goals refine rMv 1 ?_
      all_goals refine rIa 2 ?_
      all_goals refine rLd 3 ?_
      all_goals refine rMv 4 ?_
      all_goals refine rMv 5 ?_
      all_goals refine rIa 6 ?_
      all_goals refine rLd 7 ?_
      all_goals (first | refine rAd 8 ?_ | refine rSb 8 ?_ | refine rMl 8 ?_ | refine rRm 8 ?_ | refine rQu 8 ?_ | refine rSr 8 ?_ | refine rSh 8 ?_ | refine rCm 8 ?_)
      all_goals refine rDone ?_
      repeat' (first | (refine i_op ?_; first | (refine iMv ?_; refine qMv ?_) | (refine iLd ?_; refine qLd ?_) | (refine iFa ?_; refine qFa ?_) | (refine iAd ?_; refine qAd ?_) | (refine iSb ?_; refine qSb ?_) | (refine iMl ?_; refine qMl ?_) | (refine iRm ?_; refine qRm ?_) | (refine iQu ?_; refine qQu ?_) | (refine iSr ?_; refine qSr ?_) | (refine iSh ?_; refine qSh ?_) | (refine iCm ?_; refine qCm ?_) | (refine iEx ?_; refine qEx ?_) | (refine iAs ?_; refine qAs ?_) | (refine iPk ?_; refine qPk ?_) | (refine iNc ?_; refine qNc ?_) | (refine iIa ?_; refine qIa ?_) | (refine iCv ?_; refine qCv ?_) | (refine iBi ?_; refine qBi ?_) | (refine iUn ?_; refine qUn ?_) | (refine iFl ?_; refine qFl ?_) | (refine iLu ?_; refine qLu ?_) | (refine iBu ?_; refine qBu ?_) | (refine iSl ?_; refine qSl ?_) | (refine iMf ?_; refine qMf ?_) | (refine iMi ?_; refine qMi ?_) | (refine iTa ?_; refine qTa ?_) | (refine iSt ?_; refine qSt ?_) | (refine iAl ?_; first | refine qAlA (fun _ => ?_) | refine qAlS (fun _ => ?_)) | (refine iBx ?_; first | refine qBxA (fun _ => ?_) | refine qBxS (fun _ => ?_)) | (refine iMm ?_; refine qMm (fun _ => ?_)) | (refine iBs ?_; refine qBs (fun _ => ?_)) | (refine i_gd ?_; first | refine qWant ?_ | refine qSkip ?_ | refine qSkip0 ?_ | refine qSkipU ?_)) | refine tl_nil ?_ | refine tc_seq ?_ | refine tc_region ?_ | refine te_seq ?_ | (refine i_cond ?_; first | refine qCt ?_ | refine qCf ?_) | refine tc_block ?_ | refine te_block_normal ?_ | refine te_block_ret ?_ | refine te_then_ret ?_ | refine te_block_hit ?_ | (refine i_miss ?_; refine qMiss ?_) | refine te_then_exit ?_ | refine tc_exit ?_ | refine tc_ret ?_ | refine tc_skip ?_)
      refine te_round_e (Lm := [_, _]) (R := R) (k + 1) rfl ⟨by omega, by rw [List.take_succ_eq_append_getElem hlt, List.take_succ_eq_append_getElem (by omega), hpre, he]⟩ ev_le rfl tk inferInstance (by omega)
    · have hd : decide (x = y) = false := decide_eq_false (fun e => he (by subst e; rfl))
      rw [hd]
      repeat' (first | (refine i_op ?_; first | (refine iMv ?_; refine qMv ?_) | (refine iLd ?_; refine qLd ?_) | (refine iFa ?_; refine qFa ?_) | (refine iAd ?_; refine qAd ?_) | (refine iSb ?_; refine qSb ?_) | (refine iMl ?_; refine qMl ?_) | (refine iRm ?_; refine qRm ?_) | (refine iQu ?_; refine qQu ?_) | (refine iSr ?_; refine qSr ?_) | (refine iSh ?_; refine qSh ?_) | (refine iCm ?_; refine qCm ?_) | (refine iEx ?_; refine qEx ?_) | (refine iAs ?_; refine qAs ?_) | (refine iPk ?_; refine qPk ?_) | (refine iNc ?_; refine qNc ?_) | (refine iIa ?_; refine qIa ?_) | (refine iCv ?_; refine qCv ?_) | (refine iBi ?_; refine qBi ?_) | (refine iUn ?_; refine qUn ?_) | (refine iFl ?_; refine qFl ?_) | (refine iLu ?_; refine qLu ?_) | (refine iBu ?_; refine qBu ?_) | (refine iSl ?_; refine qSl ?_) | (refine iMf ?_; refine qMf ?_) | (refine iMi ?_; refine qMi ?_) | (refine iTa ?_; refine qTa ?_) | (refine iSt ?_; refine qSt ?_) | (refine iAl ?_; first | refine qAlA (fun _ => ?_) | refine qAlS (fun _ => ?_)) | (refine iBx ?_; first | refine qBxA (fun _ => ?_) | refine qBxS (fun _ => ?_)) | (refine iMm ?_; refine qMm (fun _ => ?_)) | (refine iBs ?_; refine qBs (fun _ => ?_)) | (refine i_gd ?_; first | refine qWant ?_ | refine qSkip ?_ | refine qSkip0 ?_ | refine qSkipU ?_)) | refine tl_nil ?_ | refine tc_seq ?_ | refine tc_region ?_ | refine te_seq ?_ | (refine i_cond ?_; first | refine qCt ?_ | refine qCf ?_) | refine tc_block ?_ | refine te_block_normal ?_ | refine te_block_ret ?_ | refine te_then_ret ?_ | refine te_block_hit ?_ | (refine i_miss ?_; refine qMiss ?_) | refine te_then_exit ?_ | refine tc_exit ?_ | refine tc_ret ?_ | refine tc_skip ?_)
      refine tc_any (Stays _ _ _) stays_refl ?_
      all_goals refine rMv 0 ?_
      all_goals refine rFull ?_
      all_goals refine rMv 1 ?_
      all_goals refine rIa 2 ?_
      all_goals refine rLd 3 ?_
      all_goals refine rMv 4 ?_
      all_goals refine rMv 5 ?_
      all_goals refine rIa 6 ?_
      all_goals refine rLd 7 ?_
      all_goals (first | refine rAd 8 ?_ | refine rSb 8 ?_ | refine rMl 8 ?_ | refine rRm 8 ?_ | refine rQu 8 ?_ | refine rSr 8 ?_ | refine rSh 8 ?_ | refine rCm 8 ?_)
      all_goals refine rDone ?_
      repeat' (first | (refine i_op ?_; first | (refine iMv ?_; refine qMv ?_) | (refine iLd ?_; refine qLd ?_) | (refine iFa ?_; refine qFa ?_) | (refine iAd ?_; refine qAd ?_) | (refine iSb ?_; refine qSb ?_) | (refine iMl ?_; refine qMl ?_) | (refine iRm ?_; refine qRm ?_) | (refine iQu ?_; refine qQu ?_) | (refine iSr ?_; refine qSr ?_) | (refine iSh ?_; refine qSh ?_) | (refine iCm ?_; refine qCm ?_) | (refine iEx ?_; refine qEx ?_) | (refine iAs ?_; refine qAs ?_) | (refine iPk ?_; refine qPk ?_) | (refine iNc ?_; refine qNc ?_) | (refine iIa ?_; refine qIa ?_) | (refine iCv ?_; refine qCv ?_) | (refine iBi ?_; refine qBi ?_) | (refine iUn ?_; refine qUn ?_) | (refine iFl ?_; refine qFl ?_) | (refine iLu ?_; refine qLu ?_) | (refine iBu ?_; refine qBu ?_) | (refine iSl ?_; refine qSl ?_) | (refine iMf ?_; refine qMf ?_) | (refine iMi ?_; refine qMi ?_) | (refine iTa ?_; refine qTa ?_) | (refine iSt ?_; refine qSt ?_) | (refine iAl ?_; first | refine qAlA (fun _ => ?_) | refine qAlS (fun _ => ?_)) | (refine iBx ?_; first | refine qBxA (fun _ => ?_) | refine qBxS (fun _ => ?_)) | (refine iMm ?_; refine qMm (fun _ => ?_)) | (refine iBs ?_; refine qBs (fun _ => ?_)) | (refine i_gd ?_; first | refine qWant ?_ | refine qSkip ?_ | refine qSkip0 ?_ | refine qSkipU ?_)) | refine tl_nil ?_ | refine tc_seq ?_ | refine tc_region ?_ | refine te_seq ?_ | (refine i_cond ?_; first | refine qCt ?_ | refine qCf ?_) | refine tc_block ?_ | refine te_block_normal ?_ | refine te_block_ret ?_ | refine te_then_ret ?_ | refine te_block_hit ?_ | (refine i_miss ?_; refine qMiss ?_) | refine te_then_exit ?_ | refine tc_exit ?_ | refine tc_ret ?_ | refine tc_skip ?_)
      exact qE ⟨rfl, rfl, rfl⟩
  · have hk2 : k = x.length := by omega
    subst hk2
    have hd : decide (x = y) = true := decide_eq_true (by rw [List.take_length] at hpre; rw [hpre, hl, List.take_length])
    rw [hd]
    repeat' (first | (refine i_op ?_; first | (refine iMv ?_; refine qMv ?_) | (refine iLd ?_; refine qLd ?_) | (refine iFa ?_; refine qFa ?_) | (refine iAd ?_; refine qAd ?_) | (refine iSb ?_; refine qSb ?_) | (refine iMl ?_; refine qMl ?_) | (refine iRm ?_; refine qRm ?_) | (refine iQu ?_; refine qQu ?_) | (refine iSr ?_; refine qSr ?_) | (refine iSh ?_; refine qSh ?_) | (refine iCm ?_; refine qCm ?_) | (refine iEx ?_; refine qEx ?_) | (refine iAs ?_; refine qAs ?_) | (refine iPk ?_; refine qPk ?_) | (refine iNc ?_; refine qNc ?_) | (refine iIa ?_; refine qIa ?_) | (refine iCv ?_; refine qCv ?_) | (refine iBi ?_; refine qBi ?_) | (refine iUn ?_; refine qUn ?_) | (refine iFl ?_; refine qFl ?_) | (refine iLu ?_; refine qLu ?_) | (refine iBu ?_; refine qBu ?_) | (refine iSl ?_; refine qSl ?_) | (refine iMf ?_; refine qMf ?_) | (refine iMi ?_; refine qMi ?_) | (refine iTa ?_; refine qTa ?_) | (refine iSt ?_; refine qSt ?_) | (refine iAl ?_; first | refine qAlA (fun _ => ?_) | refine qAlS (fun _ => ?_)) | (refine iBx ?_; first | refine qBxA (fun _ => ?_) | refine qBxS (fun _ => ?_)) | (refine iMm ?_; refine qMm (fun _ => ?_)) | (refine iBs ?_; refine qBs (fun _ => ?_)) | (refine i_gd ?_; first | refine qWant ?_ | refine qSkip ?_ | refine qSkip0 ?_ | refine qSkipU ?_)) | refine tl_nil ?_ | refine tc_seq ?_ | refine tc_region ?_ | refine te_seq ?_ | (refine i_cond ?_; first | refine qCt ?_ | refine qCf ?_) | refine tc_block ?_ | refine te_block_normal ?_ | refine te_block_ret ?_ | refine te_then_ret ?_ | refine te_block_hit ?_ | (refine i_miss ?_; refine qMiss ?_) | refine te_then_exit ?_ | refine tc_exit ?_ | refine tc_ret ?_ | refine tc_skip ?_)
    exact qE ⟨rfl, rfl, rfl⟩
end Go.Proofs.E

namespace Go.Proofs.E
open Go
set_option linter.unusedVariables false
set_option linter.unusedSimpArgs false
theorem Hp.le_get {ρ ρ' : Hp} (h : ρ.le ρ') {b : Nat} {o : Obj} (hb : ρ b = some o) : ρ' b = some o := h _ _ hb
set_option maxRecDepth 4000
attribute [local irreducible] Yl TL TC TE Spec YSpec R1 Hp.le EnvLe TS TR YS Stays

def bb (f : Bool) : Value := .bool f
theorem bb_one (l : List Bool) : (l.map bb).all (·.oneCell') = true := by
  rw [List.all_eq_true]; intro v hv; obtain ⟨b, _, rfl⟩ := List.mem_map.1 hv; rfl
/-- flags that lie in what the call was handed -/
structure KeepIn (ρ : Hp) (ka : Option Addr) (kn kp : Nat) (ks : List Bool) : Prop where
  le : kn ≤ kp
  len : ks.length = kn
  big : kn ≤ 9223372036854775807
  out : kn = 0 ∨ ∃ kb off C T fr, ka = some ⟨kb, off, none⟩ ∧ ρ kb = some (.cells ⟨C⟩ T fr) ∧ (C.drop off).take kn = ks.map bb
theorem KeepIn.mono {ρ ρ' : Hp} {ka kn kp ks} (h : KeepIn ρ ka kn kp ks) (hle : ρ.le ρ') : KeepIn ρ' ka kn kp ks :=
  ⟨h.le, h.len, h.big, by
    rcases h.out with h0 | ⟨kb, off, C, T, fr, h1, h2, h3⟩
    · exact .inl h0
    · exact .inr ⟨kb, off, C, T, fr, h1, Hp.le_get hle h2, h3⟩⟩
theorem OwnS.zero (b sz : Nat) : OwnS (.slice (some ⟨b, 0, none⟩) 0 0) 0 [] [] sz := ⟨.inr ⟨b, 0, rfl, by simp, by simp, Nat.le_refl _⟩⟩
theorem keep_spec (ρ : Hp) (o : OpV) (ks : List Bool) (hk : KeepIn ρ o.ka o.kn o.kp ks) : Spec Try.prog 19 [o.v] ρ [] (fun v ρ' L' => ρ' = ρ ∧ ∃ sp, OwnS v (ks.take 60).length ((ks.take 60).map bb) sp 1 ∧ L' = [ownC v ((ks.take 60).map bb) sp 4]) := by
  obtain ⟨kind, at', n, fill, ka, kn, kp⟩ := o
  obtain ⟨hle, hlen, hbig, hout⟩ := hk
  dsimp only at hle hlen hout hbig
  refine spec_enter Try.func19 rfl rfl rfl fun u R => ?_
  simp only [argsE, List.cons_append, List.nil_append, OpV.v, OpV.cells]
  by_cases h0 : kn = 0
  · subst h0
    have hks : ks = [] := List.length_eq_zero_iff.1 hlen
    subst hks
    have hm : (min ((0 : Nat) : Int) 60).toNat = 0 := by decide
    repeat' (first | (refine tl_y (y_append0 rfl (by first | rfl | simp) (Nat.le_refl _)) rfl rfl ?_) | (refine i_op ?_; first | (refine iMv ?_; refine qMv ?_) | (refine iLd ?_; refine qLd ?_) | (refine iFa ?_; refine qFa ?_) | (refine iAd ?_; refine qAd ?_) | (refine iSb ?_; refine qSb ?_) | (refine iMl ?_; refine qMl ?_) | (refine iRm ?_; refine qRm ?_) | (refine iQu ?_; refine qQu ?_) | (refine iSr ?_; refine qSr ?_) | (refine iSh ?_; refine qSh ?_) | (refine iCm ?_; refine qCm ?_) | (refine iEx ?_; refine qEx ?_) | (refine iAs ?_; refine qAs ?_) | (refine iPk ?_; refine qPk ?_) | (refine iNc ?_; refine qNc ?_) | (refine iIa ?_; refine qIa ?_) | (refine iCv ?_; refine qCv ?_) | (refine iBi ?_; refine qBi ?_) | (refine iUn ?_; refine qUn ?_) | (refine iFl ?_; refine qFl ?_) | (refine iLu ?_; refine qLu ?_) | (refine iBu ?_; refine qBu ?_) | (refine iSl ?_; refine qSl ?_) | (refine iMf ?_; refine qMf ?_) | (refine iMi ?_; refine qMi ?_) | (refine iTa ?_; refine qTa ?_) | (refine iSt ?_; refine qSt ?_) | (refine iAl ?_; first | refine qAlA (fun _ => ?_) | refine qAlS (fun _ => ?_)) | (refine iBx ?_; first | refine qBxA (fun _ => ?_) | refine qBxS (fun _ => ?_)) | (refine iMm ?_; refine qMm (fun _ => ?_)) | (refine iBs ?_; refine qBs (fun _ => ?_)) | (refine i_gd ?_; first | refine qWant ?_ | refine qSkip ?_ | refine qSkip0 ?_ | refine qSkipU ?_)) | refine tl_nil ?_ | refine tc_seq ?_ | refine tc_region ?_ | refine te_seq ?_ | (refine i_cond ?_; first | refine qCt ?_ | refine qCf ?_) | refine tc_block ?_ | refine te_block_normal ?_ | refine te_block_ret ?_ | refine te_then_ret ?_ | refine te_block_hit ?_ | (refine i_miss ?_; refine qMiss ?_) | refine te_then_exit ?_ | refine tc_exit ?_ | refine tc_ret ?_ | refine tc_skip ?_)
    exact te_end rfl rfl rfl (res1 rfl (r1_tmp rfl)) (Hp.le_refl _) (take_cons' rem_here' take_nil') (by infer_instance) ⟨rfl, [], OwnS.zero _ 1, rfl⟩
  · obtain ⟨kb, off, C, T, fr, rfl, hC, hcs⟩ := hout.resolve_left h0
    have hm : (min (kn : Int) 60).toNat = (ks.take 60).length := by simp [hlen]; omega
    have hpos : 0 < (ks.take 60).length := by simp [hlen]; omega
    have hsrc : (C.drop off).take (ks.take 60).length = (ks.take 60).map bb := by
      rw [List.map_take, ← hcs, List.take_take, List.length_take, hlen]
    have hbd : (ks.take 60).length ≤ 60 := by simp; omega
    repeat' (first | (refine i_op ?_; first | (refine iMv ?_; refine qMv ?_) | (refine iLd ?_; refine qLd ?_) | (refine iFa ?_; refine qFa ?_) | (refine iAd ?_; refine qAd ?_) | (refine iSb ?_; refine qSb ?_) | (refine iMl ?_; refine qMl ?_) | (refine iRm ?_; refine qRm ?_) | (refine iQu ?_; refine qQu ?_) | (refine iSr ?_; refine qSr ?_) | (refine iSh ?_; refine qSh ?_) | (refine iCm ?_; refine qCm ?_) | (refine iEx ?_; refine qEx ?_) | (refine iAs ?_; refine qAs ?_) | (refine iPk ?_; refine qPk ?_) | (refine iNc ?_; refine qNc ?_) | (refine iIa ?_; refine qIa ?_) | (refine iCv ?_; refine qCv ?_) | (refine iBi ?_; refine qBi ?_) | (refine iUn ?_; refine qUn ?_) | (refine iFl ?_; refine qFl ?_) | (refine iLu ?_; refine qLu ?_) | (refine iBu ?_; refine qBu ?_) | (refine iSl ?_; refine qSl ?_) | (refine iMf ?_; refine qMf ?_) | (refine iMi ?_; refine qMi ?_) | (refine iTa ?_; refine qTa ?_) | (refine iSt ?_; refine qSt ?_) | (refine iAl ?_; first | refine qAlA (fun _ => ?_) | refine qAlS (fun _ => ?_)) | (refine iBx ?_; first | refine qBxA (fun _ => ?_) | refine qBxS (fun _ => ?_)) | (refine iMm ?_; refine qMm (fun _ => ?_)) | (refine iBs ?_; refine qBs (fun _ => ?_)) | (refine i_gd ?_; first | refine qWant ?_ | refine qSkip ?_ | refine qSkip0 ?_ | refine qSkipU ?_)) | refine tl_nil ?_ | refine tc_seq ?_ | refine tc_region ?_ | refine te_seq ?_ | (refine i_cond ?_; first | refine qCt ?_ | refine qCf ?_) | refine tc_block ?_ | refine te_block_normal ?_ | refine te_block_ret ?_ | refine te_then_ret ?_ | refine te_block_hit ?_ | (refine i_miss ?_; refine qMiss ?_) | refine te_then_exit ?_ | refine tc_exit ?_ | refine tc_ret ?_ | refine tc_skip ?_)
    simp only [hm]
    refine tl_append (ys := (ks.take 60).map bb) rfl rfl (OwnS.zero _ 1) (hR := rem_here') (Src.imm (n := (ks.take 60).length) hC hsrc) (by simp) (bb_one _) hpos rfl (by omega) (by omega) rfl (fun v' sp' hown' => ?_)
    simp only [Nat.zero_add, List.nil_append] at hown' ⊢
    repeat' (first | (refine i_op ?_; first | (refine iMv ?_; refine qMv ?_) | (refine iLd ?_; refine qLd ?_) | (refine iFa ?_; refine qFa ?_) | (refine iAd ?_; refine qAd ?_) | (refine iSb ?_; refine qSb ?_) | (refine iMl ?_; refine qMl ?_) | (refine iRm ?_; refine qRm ?_) | (refine iQu ?_; refine qQu ?_) | (refine iSr ?_; refine qSr ?_) | (refine iSh ?_; refine qSh ?_) | (refine iCm ?_; refine qCm ?_) | (refine iEx ?_; refine qEx ?_) | (refine iAs ?_; refine qAs ?_) | (refine iPk ?_; refine qPk ?_) | (refine iNc ?_; refine qNc ?_) | (refine iIa ?_; refine qIa ?_) | (refine iCv ?_; refine qCv ?_) | (refine iBi ?_; refine qBi ?_) | (refine iUn ?_; refine qUn ?_) | (refine iFl ?_; refine qFl ?_) | (refine iLu ?_; refine qLu ?_) | (refine iBu ?_; refine qBu ?_) | (refine iSl ?_; refine qSl ?_) | (refine iMf ?_; refine qMf ?_) | (refine iMi ?_; refine qMi ?_) | (refine iTa ?_; refine qTa ?_) | (refine iSt ?_; refine qSt ?_) | (refine iAl ?_; first | refine qAlA (fun _ => ?_) | refine qAlS (fun _ => ?_)) | (refine iBx ?_; first | refine qBxA (fun _ => ?_) | refine qBxS (fun _ => ?_)) | (refine iMm ?_; refine qMm (fun _ => ?_)) | (refine iBs ?_; refine qBs (fun _ => ?_)) | (refine i_gd ?_; first | refine qWant ?_ | refine qSkip ?_ | refine qSkip0 ?_ | refine qSkipU ?_)) | refine tl_nil ?_ | refine tc_seq ?_ | refine tc_region ?_ | refine te_seq ?_ | (refine i_cond ?_; first | refine qCt ?_ | refine qCf ?_) | refine tc_block ?_ | refine te_block_normal ?_ | refine te_block_ret ?_ | refine te_then_ret ?_ | refine te_block_hit ?_ | (refine i_miss ?_; refine qMiss ?_) | refine te_then_exit ?_ | refine tc_exit ?_ | refine tc_ret ?_ | refine tc_skip ?_)
    exact te_end rfl rfl rfl (res1 rfl (r1_tmp rfl)) (Hp.le_refl _) (take_cons' rem_here' take_nil') (by infer_instance) ⟨rfl, sp', hown', rfl⟩
end Go.Proofs.E

namespace Go.Proofs.E
open Go
set_option linter.unusedVariables false
set_option linter.unusedSimpArgs false
set_option maxRecDepth 4000
attribute [local irreducible] Yl TL TC TE Spec YSpec R1 Hp.le EnvLe TS TR YS Stays

theorem crash1_own (ρ : Hp) (a : Option Addr) (n cap : Nat) (ks : List Bool) (sp : List Value) (hn : n = ks.length) (h : OwnS (.slice a n cap) n (ks.map bb) sp 1) (bk nth : Nat) : Spec Try.prog 43 [.int .i64 (nth : Nat), .pointer (some ⟨bk, 0, none⟩)] ρ ([(bk, .cells ⟨[.slice a n cap]⟩ 23 (0, 0))] :: [ownC (.slice a n cap) (ks.map bb) sp 4]) (fun v ρ' L' => v = .bool (keepB ks nth) ∧ ρ' = ρ ∧ L' = [(bk, .cells ⟨[.slice a n cap]⟩ 23 (0, 0))] :: [ownC (.slice a n cap) (ks.map bb) sp 4]) := by
  by_cases hlt : nth < n
  · rcases h.out with ⟨h1, h2, h3, h4⟩ | ⟨b, c, h1, h2, h3, h4⟩
    · omega
    · cases h1
      refine crash1_at ρ bk nth b 0 n cap (ks.map bb ++ sp) 4 (0, 0) (keepB ks nth) hlt ?_
      have h5 : nth < ks.length := by omega
      rw [Nat.zero_add, Nat.mul_one, List.getElem?_append_left (by simpa using h5)]
      simp [keepB, bb, h5]
  · have : keepB ks nth = false := by
      have : ks[nth]? = none := List.getElem?_eq_none (by omega)
      simp [keepB, this]
    rw [this]
    exact crash1_over ρ bk nth a n cap _ (by omega)
/-- what an operation comes to -/
def opK (o : OpV) : Int := (IntKind.u64.wrap o.kind).tmod 9
def DS.run (o : OpV) (ks : List Bool) (D : DS) : DS × Blk × Int :=
  if opK o = 4 then D.read o.at'
  else if opK o = 5 then (D.sync.1, zblk, D.sync.2)
  else if opK o = 6 then ((D.arm o.n).1, zblk, (D.arm o.n).2)
  else if opK o = 7 then ((D.fail o.n).1, zblk, (D.fail o.n).2)
  else if opK o = 8 then (D.crash (keepB (ks.take 60)), zblk, 0)
  else ((D.write o.at' (fillB o.fill)).1, zblk, (D.write o.at' (fillB o.fill)).2)
theorem MapOk.arm {D : DS} {es n} (h : MapOk D.secs es) : MapOk (D.arm n).1.secs es := by unfold DS.arm; split <;> exact h
theorem MapOk.fail {D : DS} {es n} (h : MapOk D.secs es) : MapOk (D.fail n).1.secs es := by unfold DS.fail; split <;> exact h
theorem arm_disk (ρ : Hp) (b : Nat) (hb : HB) (mb : Nat) (es : List MapEntry) (ck : Nat) (D : DS) (k : Int) : Spec Try.prog 20 [.pointer (some ⟨b, 0, none⟩), .int .i64 k] ρ (diskL b hb mb es ck D) (fun v ρ' L' => v = .int .i64 (D.arm k).2 ∧ ρ' = ρ ∧ L' = diskL b hb mb es ck (D.arm k).1) := by
  refine ((arm_spec ρ b hb mb D.secs.length D.ops D.armed D.failing k D.dead).frame [[(hb.b, .cells ⟨heldC D.secs ++ hb.sp⟩ 34 (0, 0))], [(mb, .map ⟨es⟩ ck)]]).mono ?_
  rintro v ρ' L' _ ⟨L1, rfl, rfl, rfl, rfl⟩
  obtain ⟨s, o, a, f, d⟩ := D
  cases d <;> exact ⟨rfl, rfl, rfl⟩
theorem fail_disk (ρ : Hp) (b : Nat) (hb : HB) (mb : Nat) (es : List MapEntry) (ck : Nat) (D : DS) (k : Int) : Spec Try.prog 45 [.pointer (some ⟨b, 0, none⟩), .int .i64 k] ρ (diskL b hb mb es ck D) (fun v ρ' L' => v = .int .i64 (D.fail k).2 ∧ ρ' = ρ ∧ L' = diskL b hb mb es ck (D.fail k).1) := by
  refine ((fail_spec ρ b hb mb D.secs.length D.ops D.armed D.failing k D.dead).frame [[(hb.b, .cells ⟨heldC D.secs ++ hb.sp⟩ 34 (0, 0))], [(mb, .map ⟨es⟩ ck)]]).mono ?_
  rintro v ρ' L' _ ⟨L1, rfl, rfl, rfl, rfl⟩
  obtain ⟨s, o, a, f, d⟩ := D
  cases d <;> exact ⟨rfl, rfl, rfl⟩
theorem len_disk (ρ : Hp) (b : Nat) (hb : HB) (mb : Nat) (es : List MapEntry) (ck : Nat) (D : DS) : Spec Try.prog 11 [.pointer (some ⟨b, 0, none⟩)] ρ (diskL b hb mb es ck D) (fun v ρ' L' => v = .int .i64 (D.secs.length : Nat) ∧ ρ' = ρ ∧ L' = diskL b hb mb es ck D) := by
  refine ((len_spec ρ b hb mb D.secs.length D.ops D.armed D.failing D.dead).frame [[(hb.b, .cells ⟨heldC D.secs ++ hb.sp⟩ 34 (0, 0))], [(mb, .map ⟨es⟩ ck)]]).mono ?_
  rintro v ρ' L' _ ⟨L1, rfl, rfl, rfl, rfl⟩
  exact ⟨rfl, rfl, rfl⟩
theorem dead_disk (ρ : Hp) (b : Nat) (hb : HB) (mb : Nat) (es : List MapEntry) (ck : Nat) (D : DS) : Spec Try.prog 21 [.pointer (some ⟨b, 0, none⟩)] ρ (diskL b hb mb es ck D) (fun v ρ' L' => v = .bool D.dead ∧ ρ' = ρ ∧ L' = diskL b hb mb es ck D) := by
  refine ((dead_spec ρ b hb mb D.secs.length D.ops D.armed D.failing D.dead).frame [[(hb.b, .cells ⟨heldC D.secs ++ hb.sp⟩ 34 (0, 0))], [(mb, .map ⟨es⟩ ck)]]).mono ?_
  rintro v ρ' L' _ ⟨L1, rfl, rfl, rfl, rfl⟩
  exact ⟨rfl, rfl, rfl⟩
theorem read_len {D : DS} (hD : D.Ok) (i : Int) : (D.read i).2.1.length = 64 := by
  unfold DS.read
  split
  · rfl
  · split
    · rfl
    · split
      · rfl
      · rename_i h1 h2 h3
        have hlt : i.toNat < D.secs.length := by omega
        simp only [List.getElem?_eq_getElem hlt, Option.getD_some]
        unfold says1
        cases hc : D.secs[i.toNat].2 with
        | none => exact hD.secs.held _ (List.getElem_mem hlt)
        | some c => exact hD.secs.cached _ (List.getElem_mem hlt) c hc
theorem read_secs {D : DS} (i : Int) : (D.read i).1.secs = D.secs := by
  unfold DS.read
  split
  · rfl
  · split
    · rfl
    · split <;> rfl
theorem MapOk.read {D : DS} {es i} (h : MapOk D.secs es) : MapOk (D.read i).1.secs es := by rw [read_secs]; exact h
set_option maxHeartbeats 1600000 in
theorem run_spec (ρ : Hp) (b : Nat) (hb : HB) (mb : Nat) (es : List MapEntry) (ck : Nat) (D : DS) (o : OpV) (ks : List Bool) (hD : D.Ok) (hm : MapOk D.secs es) (hk : KeepIn ρ o.ka o.kn o.kp ks) :
    Spec Try.prog 22 [o.v, .pointer (some ⟨b, 0, none⟩)] ρ (diskL b hb mb es ck D)
      (fun v ρ' L' => v = .tuple ⟨[bv (D.run o ks).2.1, .int .i64 (D.run o ks).2.2]⟩ ∧ ρ.le ρ' ∧ ∃ mb' es' ck', MapOk (D.run o ks).1.secs es' ∧ L' = diskL b hb mb' es' ck' (D.run o ks).1) := by
  obtain ⟨kind, at', n, fill, ka, kn, kp⟩ := o
  have hz0 : (List.replicate 64 (Value.int .u8 0)).length = 64 := by rfl
  have hz64 : (List.replicate 64 (Value.int .u8 0)).all (·.oneCell') = true := by rfl
  generalize hkd : opK ⟨kind, at', n, fill, ka, kn, kp⟩ = kd
  have hkd' := hkd
  simp only [opK] at hkd'
  by_cases h4 : kd = 4
  · subst h4
    have he : D.run ⟨kind, at', n, fill, ka, kn, kp⟩ ks = D.read at' := by simp [DS.run, hkd]
    simp only [he]
    refine spec_enter Try.func22 rfl rfl rfl fun u R => ?_
    simp only [argsE, List.cons_append, List.nil_append, OpV.v, OpV.cells]
    have hrd := read_spec ρ b hb mb es ck D at' hD hm
    have hbl : ((D.read at').2.1.map u8c).length = 64 := by simpa using read_len hD at'
    have hone := u8c_one (D.read at').2.1
    repeat' (first | (refine tl_is (.func 13) ?_; refine qC rfl rfl (hrd) ?_; rintro v ρ' L' hle ⟨rfl, rfl, rfl⟩ <;> (try simp only [List.cons_append, List.nil_append, List.append_eq, bv])) | (refine i_op ?_; first | (refine iMv ?_; refine qMv ?_) | (refine iLd ?_; refine qLd ?_) | (refine iFa ?_; refine qFa ?_) | (refine iAd ?_; refine qAd ?_) | (refine iSb ?_; refine qSb ?_) | (refine iMl ?_; refine qMl ?_) | (refine iRm ?_; refine qRm ?_) | (refine iQu ?_; refine qQu ?_) | (refine iSr ?_; refine qSr ?_) | (refine iSh ?_; refine qSh ?_) | (refine iCm ?_; refine qCm ?_) | (refine iEx ?_; refine qEx ?_) | (refine iAs ?_; refine qAs ?_) | (refine iPk ?_; refine qPk ?_) | (refine iNc ?_; refine qNc ?_) | (refine iIa ?_; refine qIa ?_) | (refine iCv ?_; refine qCv ?_) | (refine iBi ?_; refine qBi ?_) | (refine iUn ?_; refine qUn ?_) | (refine iFl ?_; refine qFl ?_) | (refine iLu ?_; refine qLu ?_) | (refine iBu ?_; refine qBu ?_) | (refine iSl ?_; refine qSl ?_) | (refine iMf ?_; refine qMf ?_) | (refine iMi ?_; refine qMi ?_) | (refine iTa ?_; refine qTa ?_) | (refine iSt ?_; refine qSt ?_) | (refine iAl ?_; first | refine qAlA (fun _ => ?_) | refine qAlS (fun _ => ?_)) | (refine iBx ?_; first | refine qBxA (fun _ => ?_) | refine qBxS (fun _ => ?_)) | (refine iMm ?_; refine qMm (fun _ => ?_)) | (refine iBs ?_; refine qBs (fun _ => ?_)) | (refine i_gd ?_; first | refine qWant ?_ | refine qSkip ?_ | refine qSkip0 ?_ | refine qSkipU ?_)) | refine tl_nil ?_ | refine tc_seq ?_ | refine tc_region ?_ | refine te_seq ?_ | (refine i_cond ?_; first | refine qCt ?_ | refine qCf ?_) | refine tc_block ?_ | refine te_block_normal ?_ | refine te_block_ret ?_ | refine te_then_ret ?_ | refine te_block_hit ?_ | (refine i_miss ?_; refine qMiss ?_) | refine te_then_exit ?_ | refine tc_exit ?_ | refine tc_ret ?_ | refine tc_skip ?_)
    exact te_end rfl rfl rfl (by refine res2 rfl ?_ ?_ <;> (first | exact r1_tmp rfl | exact r1_cell rfl hbl)) (Hp.le_refl _) take_app' (by infer_instance) ⟨rfl, Hp.le_refl _, mb, es, ck, hm.read, rfl⟩
  · by_cases h5 : kd = 5
    · subst h5
      have he : D.run ⟨kind, at', n, fill, ka, kn, kp⟩ ks = (D.sync.1, zblk, D.sync.2) := by simp [DS.run, hkd]
      simp only [he, bv, ← zblk_cells]
      refine spec_enter Try.func22 rfl rfl rfl fun u R => ?_
      simp only [argsE, List.cons_append, List.nil_append, OpV.v, OpV.cells]
      repeat' (first | (refine tl_is (.func 12) ?_; refine qC rfl rfl (sync_spec _ _ _ _ _ _ D hD hm) ?_; rintro v ρ' L' hle ⟨rfl, hle2, mb', es', ck', hm', rfl⟩ <;> (try simp only [List.cons_append, List.nil_append, List.append_eq])) | (refine tl_y (y_build (vs := []) rfl rfl) rfl rfl ?_) | (refine i_op ?_; first | (refine iMv ?_; refine qMv ?_) | (refine iLd ?_; refine qLd ?_) | (refine iFa ?_; refine qFa ?_) | (refine iAd ?_; refine qAd ?_) | (refine iSb ?_; refine qSb ?_) | (refine iMl ?_; refine qMl ?_) | (refine iRm ?_; refine qRm ?_) | (refine iQu ?_; refine qQu ?_) | (refine iSr ?_; refine qSr ?_) | (refine iSh ?_; refine qSh ?_) | (refine iCm ?_; refine qCm ?_) | (refine iEx ?_; refine qEx ?_) | (refine iAs ?_; refine qAs ?_) | (refine iPk ?_; refine qPk ?_) | (refine iNc ?_; refine qNc ?_) | (refine iIa ?_; refine qIa ?_) | (refine iCv ?_; refine qCv ?_) | (refine iBi ?_; refine qBi ?_) | (refine iUn ?_; refine qUn ?_) | (refine iFl ?_; refine qFl ?_) | (refine iLu ?_; refine qLu ?_) | (refine iBu ?_; refine qBu ?_) | (refine iSl ?_; refine qSl ?_) | (refine iMf ?_; refine qMf ?_) | (refine iMi ?_; refine qMi ?_) | (refine iTa ?_; refine qTa ?_) | (refine iSt ?_; refine qSt ?_) | (refine iAl ?_; first | refine qAlA (fun _ => ?_) | refine qAlS (fun _ => ?_)) | (refine iBx ?_; first | refine qBxA (fun _ => ?_) | refine qBxS (fun _ => ?_)) | (refine iMm ?_; refine qMm (fun _ => ?_)) | (refine iBs ?_; refine qBs (fun _ => ?_)) | (refine i_gd ?_; first | refine qWant ?_ | refine qSkip ?_ | refine qSkip0 ?_ | refine qSkipU ?_)) | refine tl_nil ?_ | refine tc_seq ?_ | refine tc_region ?_ | refine te_seq ?_ | (refine i_cond ?_; first | refine qCt ?_ | refine qCf ?_) | refine tc_block ?_ | refine te_block_normal ?_ | refine te_block_ret ?_ | refine te_then_ret ?_ | refine te_block_hit ?_ | (refine i_miss ?_; refine qMiss ?_) | refine te_then_exit ?_ | refine tc_exit ?_ | refine tc_ret ?_ | refine tc_skip ?_)
      exact te_end rfl rfl rfl (by refine res2 rfl ?_ ?_ <;> (first | exact r1_tmp rfl | exact r1_cell rfl hz0)) hle2 take_app' (by infer_instance) ⟨rfl, hle2, mb', es', ck', hm', rfl⟩
    · by_cases h6 : kd = 6
      · subst h6
        have he : D.run ⟨kind, at', n, fill, ka, kn, kp⟩ ks = ((D.arm n).1, zblk, (D.arm n).2) := by simp [DS.run, hkd]
        simp only [he, bv, ← zblk_cells]
        refine spec_enter Try.func22 rfl rfl rfl fun u R => ?_
        simp only [argsE, List.cons_append, List.nil_append, OpV.v, OpV.cells]
        repeat' (first | (refine tl_is (.func 20) ?_; refine qC rfl rfl (arm_disk _ _ _ _ _ _ D _) ?_; rintro v ρ' L' hle ⟨rfl, rfl, rfl⟩ <;> (try simp only [List.cons_append, List.nil_append, List.append_eq, bv])) | (refine tl_y (y_build (vs := []) rfl rfl) rfl rfl ?_) | (refine i_op ?_; first | (refine iMv ?_; refine qMv ?_) | (refine iLd ?_; refine qLd ?_) | (refine iFa ?_; refine qFa ?_) | (refine iAd ?_; refine qAd ?_) | (refine iSb ?_; refine qSb ?_) | (refine iMl ?_; refine qMl ?_) | (refine iRm ?_; refine qRm ?_) | (refine iQu ?_; refine qQu ?_) | (refine iSr ?_; refine qSr ?_) | (refine iSh ?_; refine qSh ?_) | (refine iCm ?_; refine qCm ?_) | (refine iEx ?_; refine qEx ?_) | (refine iAs ?_; refine qAs ?_) | (refine iPk ?_; refine qPk ?_) | (refine iNc ?_; refine qNc ?_) | (refine iIa ?_; refine qIa ?_) | (refine iCv ?_; refine qCv ?_) | (refine iBi ?_; refine qBi ?_) | (refine iUn ?_; refine qUn ?_) | (refine iFl ?_; refine qFl ?_) | (refine iLu ?_; refine qLu ?_) | (refine iBu ?_; refine qBu ?_) | (refine iSl ?_; refine qSl ?_) | (refine iMf ?_; refine qMf ?_) | (refine iMi ?_; refine qMi ?_) | (refine iTa ?_; refine qTa ?_) | (refine iSt ?_; refine qSt ?_) | (refine iAl ?_; first | refine qAlA (fun _ => ?_) | refine qAlS (fun _ => ?_)) | (refine iBx ?_; first | refine qBxA (fun _ => ?_) | refine qBxS (fun _ => ?_)) | (refine iMm ?_; refine qMm (fun _ => ?_)) | (refine iBs ?_; refine qBs (fun _ => ?_)) | (refine i_gd ?_; first | refine qWant ?_ | refine qSkip ?_ | refine qSkip0 ?_ | refine qSkipU ?_)) | refine tl_nil ?_ | refine tc_seq ?_ | refine tc_region ?_ | refine te_seq ?_ | (refine i_cond ?_; first | refine qCt ?_ | refine qCf ?_) | refine tc_block ?_ | refine te_block_normal ?_ | refine te_block_ret ?_ | refine te_then_ret ?_ | refine te_block_hit ?_ | (refine i_miss ?_; refine qMiss ?_) | refine te_then_exit ?_ | refine tc_exit ?_ | refine tc_ret ?_ | refine tc_skip ?_)
        exact te_end rfl rfl rfl (by refine res2 rfl ?_ ?_ <;> (first | exact r1_tmp rfl | exact r1_cell rfl hz0)) (Hp.le_refl _) take_app' (by infer_instance) ⟨rfl, Hp.le_refl _, mb, es, ck, hm.arm, rfl⟩
      · by_cases h7 : kd = 7
        · subst h7
          have he : D.run ⟨kind, at', n, fill, ka, kn, kp⟩ ks = ((D.fail n).1, zblk, (D.fail n).2) := by simp [DS.run, hkd]
          simp only [he, bv, ← zblk_cells]
          refine spec_enter Try.func22 rfl rfl rfl fun u R => ?_
          simp only [argsE, List.cons_append, List.nil_append, OpV.v, OpV.cells]
          repeat' (first | (refine tl_is (.func 45) ?_; refine qC rfl rfl (fail_disk _ _ _ _ _ _ D _) ?_; rintro v ρ' L' hle ⟨rfl, rfl, rfl⟩ <;> (try simp only [List.cons_append, List.nil_append, List.append_eq, bv])) | (refine tl_y (y_build (vs := []) rfl rfl) rfl rfl ?_) | (refine i_op ?_; first | (refine iMv ?_; refine qMv ?_) | (refine iLd ?_; refine qLd ?_) | (refine iFa ?_; refine qFa ?_) | (refine iAd ?_; refine qAd ?_) | (refine iSb ?_; refine qSb ?_) | (refine iMl ?_; refine qMl ?_) | (refine iRm ?_; refine qRm ?_) | (refine iQu ?_; refine qQu ?_) | (refine iSr ?_; refine qSr ?_) | (refine iSh ?_; refine qSh ?_) | (refine iCm ?_; refine qCm ?_) | (refine iEx ?_; refine qEx ?_) | (refine iAs ?_; refine qAs ?_) | (refine iPk ?_; refine qPk ?_) | (refine iNc ?_; refine qNc ?_) | (refine iIa ?_; refine qIa ?_) | (refine iCv ?_; refine qCv ?_) | (refine iBi ?_; refine qBi ?_) | (refine iUn ?_; refine qUn ?_) | (refine iFl ?_; refine qFl ?_) | (refine iLu ?_; refine qLu ?_) | (refine iBu ?_; refine qBu ?_) | (refine iSl ?_; refine qSl ?_) | (refine iMf ?_; refine qMf ?_) | (refine iMi ?_; refine qMi ?_) | (refine iTa ?_; refine qTa ?_) | (refine iSt ?_; refine qSt ?_) | (refine iAl ?_; first | refine qAlA (fun _ => ?_) | refine qAlS (fun _ => ?_)) | (refine iBx ?_; first | refine qBxA (fun _ => ?_) | refine qBxS (fun _ => ?_)) | (refine iMm ?_; refine qMm (fun _ => ?_)) | (refine iBs ?_; refine qBs (fun _ => ?_)) | (refine i_gd ?_; first | refine qWant ?_ | refine qSkip ?_ | refine qSkip0 ?_ | refine qSkipU ?_)) | refine tl_nil ?_ | refine tc_seq ?_ | refine tc_region ?_ | refine te_seq ?_ | (refine i_cond ?_; first | refine qCt ?_ | refine qCf ?_) | refine tc_block ?_ | refine te_block_normal ?_ | refine te_block_ret ?_ | refine te_then_ret ?_ | refine te_block_hit ?_ | (refine i_miss ?_; refine qMiss ?_) | refine te_then_exit ?_ | refine tc_exit ?_ | refine tc_ret ?_ | refine tc_skip ?_)
          exact te_end rfl rfl rfl (by refine res2 rfl ?_ ?_ <;> (first | exact r1_tmp rfl | exact r1_cell rfl hz0)) (Hp.le_refl _) take_app' (by infer_instance) ⟨rfl, Hp.le_refl _, mb, es, ck, hm.fail, rfl⟩
        · by_cases h8 : kd = 8
          · subst h8
            have he : D.run ⟨kind, at', n, fill, ka, kn, kp⟩ ks = (D.crash (keepB (ks.take 60)), zblk, 0) := by simp [DS.run, hkd]
            simp only [he, bv, ← zblk_cells]
            refine spec_enter Try.func22 rfl rfl rfl fun u R => ?_
            simp only [argsE, List.cons_append, List.nil_append, OpV.v, OpV.cells, diskL]
            have hkp := keep_spec ρ ⟨kind, at', n, fill, ka, kn, kp⟩ ks hk
            simp only [OpV.v, OpV.cells] at hkp
            repeat' (first | (refine tl_y (y_build (vs := []) rfl rfl) rfl rfl ?_) | (refine tl_is (.func 19) ?_; refine tl_call rfl rfl hkp take_nil' rfl ?_; rintro v ρ' L' hle ⟨rfl, sp, hown, rfl⟩; simp only [List.cons_append, List.nil_append]; obtain ⟨a', cap', rfl, hvl⟩ := hown.len) | (refine tl_is (.func 18) ?_; refine tl_call rfl rfl (crash_spec _ b hb mb es ck D hD hm _ _ _ [ownC _ _ sp 4] (keepB (ks.take 60)) (fun bk nth _ => crash1_own _ _ _ _ _ _ rfl hown bk nth)) tk rfl ?_; rintro v ρ2 L' hle' ⟨rfl, hle2, mb', ck', rfl⟩; simp only [List.cons_append, List.nil_append, diskL]) | (refine i_op ?_; first | (refine iMv ?_; refine qMv ?_) | (refine iLd ?_; refine qLd ?_) | (refine iFa ?_; refine qFa ?_) | (refine iAd ?_; refine qAd ?_) | (refine iSb ?_; refine qSb ?_) | (refine iMl ?_; refine qMl ?_) | (refine iRm ?_; refine qRm ?_) | (refine iQu ?_; refine qQu ?_) | (refine iSr ?_; refine qSr ?_) | (refine iSh ?_; refine qSh ?_) | (refine iCm ?_; refine qCm ?_) | (refine iEx ?_; refine qEx ?_) | (refine iAs ?_; refine qAs ?_) | (refine iPk ?_; refine qPk ?_) | (refine iNc ?_; refine qNc ?_) | (refine iIa ?_; refine qIa ?_) | (refine iCv ?_; refine qCv ?_) | (refine iBi ?_; refine qBi ?_) | (refine iUn ?_; refine qUn ?_) | (refine iFl ?_; refine qFl ?_) | (refine iLu ?_; refine qLu ?_) | (refine iBu ?_; refine qBu ?_) | (refine iSl ?_; refine qSl ?_) | (refine iMf ?_; refine qMf ?_) | (refine iMi ?_; refine qMi ?_) | (refine iTa ?_; refine qTa ?_) | (refine iSt ?_; refine qSt ?_) | (refine iAl ?_; first | refine qAlA (fun _ => ?_) | refine qAlS (fun _ => ?_)) | (refine iBx ?_; first | refine qBxA (fun _ => ?_) | refine qBxS (fun _ => ?_)) | (refine iMm ?_; refine qMm (fun _ => ?_)) | (refine iBs ?_; refine qBs (fun _ => ?_)) | (refine i_gd ?_; first | refine qWant ?_ | refine qSkip ?_ | refine qSkip0 ?_ | refine qSkipU ?_)) | refine tl_nil ?_ | refine tc_seq ?_ | refine tc_region ?_ | refine te_seq ?_ | (refine i_cond ?_; first | refine qCt ?_ | refine qCf ?_) | refine tc_block ?_ | refine te_block_normal ?_ | refine te_block_ret ?_ | refine te_then_ret ?_ | refine te_block_hit ?_ | (refine i_miss ?_; refine qMiss ?_) | refine te_then_exit ?_ | refine tc_exit ?_ | refine tc_ret ?_ | refine tc_skip ?_)
            exact te_end rfl rfl rfl (by refine res2 rfl ?_ ?_ <;> (first | exact r1_tmp rfl | exact r1_cell rfl hz0)) hle2 tk (by infer_instance) ⟨rfl, hle2, mb', [], ck', MapOk.empty emptyC_settled, rfl⟩
          · have he : D.run ⟨kind, at', n, fill, ka, kn, kp⟩ ks = ((D.write at' (fillB fill)).1, zblk, (D.write at' (fillB fill)).2) := by simp [DS.run, hkd, h4, h5, h6, h7, h8]
            simp only [he, bv, ← zblk_cells]
            refine spec_enter Try.func22 rfl rfl rfl fun u R => ?_
            simp only [argsE, List.cons_append, List.nil_append, OpV.v, OpV.cells]
            have hbs := block_spec ρ ⟨kind, at', n, fill, ka, kn, kp⟩
            have hws := write_spec ρ b hb mb es ck D at' (fillB fill) (by rfl) hD hm
            simp only [OpV.v, OpV.cells] at hbs
            repeat' (first | (refine i_op ?_; first | (refine iMv ?_; refine qMv ?_) | (refine iLd ?_; refine qLd ?_) | (refine iFa ?_; refine qFa ?_) | (refine iAd ?_; refine qAd ?_) | (refine iSb ?_; refine qSb ?_) | (refine iMl ?_; refine qMl ?_) | (refine iRm ?_; refine qRm ?_) | (refine iQu ?_; refine qQu ?_) | (refine iSr ?_; refine qSr ?_) | (refine iSh ?_; refine qSh ?_) | (refine iCm ?_; refine qCm ?_) | (refine iEx ?_; refine qEx ?_) | (refine iAs ?_; refine qAs ?_) | (refine iPk ?_; refine qPk ?_) | (refine iNc ?_; refine qNc ?_) | (refine iIa ?_; refine qIa ?_) | (refine iCv ?_; refine qCv ?_) | (refine iBi ?_; refine qBi ?_) | (refine iUn ?_; refine qUn ?_) | (refine iFl ?_; refine qFl ?_) | (refine iLu ?_; refine qLu ?_) | (refine iBu ?_; refine qBu ?_) | (refine iSl ?_; refine qSl ?_) | (refine iMf ?_; refine qMf ?_) | (refine iMi ?_; refine qMi ?_) | (refine iTa ?_; refine qTa ?_) | (refine iSt ?_; refine qSt ?_) | (refine iAl ?_; first | refine qAlA (fun _ => ?_) | refine qAlS (fun _ => ?_)) | (refine iBx ?_; first | refine qBxA (fun _ => ?_) | refine qBxS (fun _ => ?_)) | (refine iMm ?_; refine qMm (fun _ => ?_)) | (refine iBs ?_; refine qBs (fun _ => ?_)) | (refine i_gd ?_; first | refine qWant ?_ | refine qSkip ?_ | refine qSkip0 ?_ | refine qSkipU ?_)) | refine tl_nil ?_ | refine tc_seq ?_ | refine tc_region ?_ | refine te_seq ?_ | (refine i_cond ?_; first | refine qCt ?_ | refine qCf ?_) | refine tc_block ?_ | refine te_block_normal ?_ | refine te_block_ret ?_ | refine te_then_ret ?_ | refine te_block_hit ?_ | (refine i_miss ?_; refine qMiss ?_) | refine te_then_exit ?_ | refine tc_exit ?_ | refine tc_ret ?_ | refine tc_skip ?_)
            rename_i bo br
            refine tc_any (Stays _ _ ([[(bo, .cells ⟨[.int .i64 kind, .int .i64 at', .int .i64 n, u8c fill, .slice ka kn kp]⟩ 25 (0, 0))]])) (stays_of (Hp.le_refl _)) ?_
            all_goals refine rBu 0 ?_
            all_goals refine rMv 1 ?_
            all_goals refine rFa 2 ?_
            all_goals refine rLd 3 ?_
            all_goals refine rLd 4 ?_
            all_goals (refine rStep (i := 5) ?_; ((try refine qWant ?_); (first | (refine tl_is (.func 15) ?_; refine tl_call rfl rfl hbs take_nil' rfl ?_; rintro v ρ' L' hle ⟨rfl, rfl, rfl⟩; simp only [List.cons_append, List.nil_append]) | (refine tl_is (.func 14) ?_; refine qC rfl rfl (hws) ?_; rintro v ρ' L' hle ⟨rfl, rfl, es', ck', hm', rfl⟩ <;> (try simp only [List.cons_append, List.nil_append, List.append_eq])) | (refine tl_y (y_build (vs := []) rfl rfl) rfl rfl ?_) | (refine iSt ?_; refine qSt ?_) | (refine iAl ?_; first | refine qAlA (fun _ => ?_) | refine qAlS (fun _ => ?_)) | (refine iBx ?_; first | refine qBxA (fun _ => ?_) | refine qBxS (fun _ => ?_)) | (refine iMm ?_; refine qMm (fun _ => ?_)) | (refine iBs ?_; refine qBs (fun _ => ?_))); (try simp only [List.cons_append, List.nil_append, List.append_eq]); refine tl_nil ?_; refine rNext ?_))
            all_goals (refine rStep (i := 6) ?_; ((try refine qWant ?_); (first | (refine tl_is (.func 15) ?_; refine tl_call rfl rfl hbs take_nil' rfl ?_; rintro v ρ' L' hle ⟨rfl, rfl, rfl⟩; simp only [List.cons_append, List.nil_append]) | (refine tl_is (.func 14) ?_; refine qC rfl rfl (hws) ?_; rintro v ρ' L' hle ⟨rfl, rfl, es', ck', hm', rfl⟩ <;> (try simp only [List.cons_append, List.nil_append, List.append_eq])) | (refine tl_y (y_build (vs := []) rfl rfl) rfl rfl ?_) | (refine iSt ?_; refine qSt ?_) | (refine iAl ?_; first | refine qAlA (fun _ => ?_) | refine qAlS (fun _ => ?_)) | (refine iBx ?_; first | refine qBxA (fun _ => ?_) | refine qBxS (fun _ => ?_)) | (refine iMm ?_; refine qMm (fun _ => ?_)) | (refine iBs ?_; refine qBs (fun _ => ?_))); (try simp only [List.cons_append, List.nil_append, List.append_eq]); refine tl_nil ?_; refine rNext ?_))
            all_goals (refine rStep (i := 7) ?_; ((try refine qWant ?_); (first | (refine tl_is (.func 15) ?_; refine tl_call rfl rfl hbs take_nil' rfl ?_; rintro v ρ' L' hle ⟨rfl, rfl, rfl⟩; simp only [List.cons_append, List.nil_append]) | (refine tl_is (.func 14) ?_; refine qC rfl rfl (hws) ?_; rintro v ρ' L' hle ⟨rfl, rfl, es', ck', hm', rfl⟩ <;> (try simp only [List.cons_append, List.nil_append, List.append_eq])) | (refine tl_y (y_build (vs := []) rfl rfl) rfl rfl ?_) | (refine iSt ?_; refine qSt ?_) | (refine iAl ?_; first | refine qAlA (fun _ => ?_) | refine qAlS (fun _ => ?_)) | (refine iBx ?_; first | refine qBxA (fun _ => ?_) | refine qBxS (fun _ => ?_)) | (refine iMm ?_; refine qMm (fun _ => ?_)) | (refine iBs ?_; refine qBs (fun _ => ?_))); (try simp only [List.cons_append, List.nil_append, List.append_eq]); refine tl_nil ?_; refine rNext ?_))
            all_goals refine rFull ?_
            all_goals refine rAs 8 ?_
            all_goals refine rDone ?_
            repeat' (first | (refine i_op ?_; first | (refine iMv ?_; refine qMv ?_) | (refine iLd ?_; refine qLd ?_) | (refine iFa ?_; refine qFa ?_) | (refine iAd ?_; refine qAd ?_) | (refine iSb ?_; refine qSb ?_) | (refine iMl ?_; refine qMl ?_) | (refine iRm ?_; refine qRm ?_) | (refine iQu ?_; refine qQu ?_) | (refine iSr ?_; refine qSr ?_) | (refine iSh ?_; refine qSh ?_) | (refine iCm ?_; refine qCm ?_) | (refine iEx ?_; refine qEx ?_) | (refine iAs ?_; refine qAs ?_) | (refine iPk ?_; refine qPk ?_) | (refine iNc ?_; refine qNc ?_) | (refine iIa ?_; refine qIa ?_) | (refine iCv ?_; refine qCv ?_) | (refine iBi ?_; refine qBi ?_) | (refine iUn ?_; refine qUn ?_) | (refine iFl ?_; refine qFl ?_) | (refine iLu ?_; refine qLu ?_) | (refine iBu ?_; refine qBu ?_) | (refine iSl ?_; refine qSl ?_) | (refine iMf ?_; refine qMf ?_) | (refine iMi ?_; refine qMi ?_) | (refine iTa ?_; refine qTa ?_) | (refine iSt ?_; refine qSt ?_) | (refine iAl ?_; first | refine qAlA (fun _ => ?_) | refine qAlS (fun _ => ?_)) | (refine iBx ?_; first | refine qBxA (fun _ => ?_) | refine qBxS (fun _ => ?_)) | (refine iMm ?_; refine qMm (fun _ => ?_)) | (refine iBs ?_; refine qBs (fun _ => ?_)) | (refine i_gd ?_; first | refine qWant ?_ | refine qSkip ?_ | refine qSkip0 ?_ | refine qSkipU ?_)) | refine tl_nil ?_ | refine tc_seq ?_ | refine tc_region ?_ | refine te_seq ?_ | (refine i_cond ?_; first | refine qCt ?_ | refine qCf ?_) | refine tc_block ?_ | refine te_block_normal ?_ | refine te_block_ret ?_ | refine te_then_ret ?_ | refine te_block_hit ?_ | (refine i_miss ?_; refine qMiss ?_) | refine te_then_exit ?_ | refine tc_exit ?_ | refine tc_ret ?_ | refine tc_skip ?_)
            exact te_end rfl rfl rfl (by refine res2 rfl ?_ ?_ <;> (first | exact r1_tmp rfl | exact r1_cell rfl hz0)) (Hp.le_refl _) take_app' (by infer_instance) ⟨rfl, Hp.le_refl _, mb, es', ck', hm', rfl⟩
end Go.Proofs.E

namespace Go.Proofs.E
open Go
set_option linter.unusedVariables false
set_option linter.unusedSimpArgs false
set_option maxRecDepth 4000
attribute [local irreducible] Yl TL TC TE Spec YSpec R1 Hp.le EnvLe TS TR YS Stays

def one (x : UInt8) : Blk := x :: List.replicate 63 0
def wk1 : DS := ⟨[(zblk, none), (zblk, some (one 5)), (zblk, none)], 1, -1, -1, false⟩
def wk2 : DS := ⟨[(zblk, some (one 6)), (zblk, some (one 5)), (zblk, none)], 2, -1, -1, false⟩
def wk3 : DS := ⟨[(zblk, some (one 6)), (zblk, some (one 7)), (zblk, none)], 3, -1, -1, false⟩
def wk4 : DS := ⟨[(zblk, none), (one 7, none), (zblk, none)], 3, -1, -1, false⟩
theorem wk1_eq : (DS.new 3).write 1 (one 5) = (wk1, 0) := by rfl
theorem wk2_eq : wk1.write 0 (one 6) = (wk2, 0) := by rfl
theorem wk3_eq : wk2.write 1 (one 7) = (wk3, 0) := by rfl
theorem wk4_eq : wk3.crash (keepB [false, true]) = wk4 := by rfl
theorem wk3_pend : pend wk3.secs = [0, 1] := by rfl
theorem wk4_pend : pend wk4.secs = [] := by rfl
theorem wk4_read : (wk4.read 1).2 = (one 7, 0) := by rfl
theorem new_okD {n : Nat} (h0 : 0 < n) (h1 : n ≤ 2048) : (DS.new n).Ok := ⟨fresh_ok h0 h1, by simp [DS.new], by simp [DS.new], by simp [DS.new], by simp [DS.new]⟩
theorem wk1_ok : wk1.Ok := ⟨⟨by decide, by decide, by decide, by decide⟩, by decide, by decide, by decide, by decide⟩
theorem wk2_ok : wk2.Ok := ⟨⟨by decide, by decide, by decide, by decide⟩, by decide, by decide, by decide, by decide⟩
theorem wk3_ok : wk3.Ok := ⟨⟨by decide, by decide, by decide, by decide⟩, by decide, by decide, by decide, by decide⟩
theorem wk4_ok : wk4.Ok := ⟨⟨by decide, by decide, by decide, by decide⟩, by decide, by decide, by decide, by decide⟩
theorem write_at {ρ : Hp} {b : Nat} {hb : HB} {mb : Nat} {es : List MapEntry} {ck : Nat} {D D' : DS} {i code : Int} {blk : Blk} (h : D.write i blk = (D', code)) (hb64 : blk.length = 64) (hD : D.Ok) (hm : MapOk D.secs es) :
    Spec Try.prog 14 [.pointer (some ⟨b, 0, none⟩), .int .i64 i, bv blk] ρ (diskL b hb mb es ck D) (fun v ρ' L' => v = .int .i64 code ∧ ρ' = ρ ∧ ∃ es' ck', MapOk D'.secs es' ∧ L' = diskL b hb mb es' ck' D') := by
  have := write_spec ρ b hb mb es ck D i blk hb64 hD hm
  rw [h] at this
  exact this
theorem read_at {ρ : Hp} {b : Nat} {hb : HB} {mb : Nat} {es : List MapEntry} {ck : Nat} {D D' : DS} {i code : Int} {blk : Blk} (h : D.read i = (D', blk, code)) (hD : D.Ok) (hm : MapOk D.secs es) :
    Spec Try.prog 13 [.pointer (some ⟨b, 0, none⟩), .int .i64 i] ρ (diskL b hb mb es ck D) (fun v ρ' L' => v = .tuple ⟨[bv blk, .int .i64 code]⟩ ∧ ρ' = ρ ∧ L' = diskL b hb mb es ck D') := by
  have := read_spec ρ b hb mb es ck D i hD hm
  rw [h] at this
  exact this
theorem OwnS.pos {v n xs sp sz} (h : OwnS v n xs sp sz) (h0 : 0 < n) : ∃ b cap, v = .slice (some ⟨b, 0, none⟩) n cap := by
  rcases h.out with ⟨_, h2, _⟩ | ⟨b, cap, h1, _⟩
  · omega
  · exact ⟨b, cap, h1⟩
theorem OwnS.full {n : Nat} (b : Nat) (xs : List Value) (h : xs.length = n) : OwnS (.slice (some ⟨b, 0, none⟩) n n) n xs [] 1 := ⟨.inr ⟨b, n, rfl, by omega, by simp; omega, Nat.le_refl _⟩⟩
def wk5 : DS := { wk4 with ops := 4 }
theorem wk5_eq : wk4.read 1 = (wk5, one 7, 0) := by rfl
theorem wk5_ok : wk5.Ok := ⟨⟨by decide, by decide, by decide, by decide⟩, by decide, by decide, by decide, by decide⟩
theorem wk4_e : MapOk wk4.secs [] := MapOk.empty (by unfold emptyC; decide)
theorem wk5_e : MapOk wk5.secs [] := wk4_e
set_option maxHeartbeats 1600000 in
theorem wakes_spec (ρ : Hp) : Spec Try.prog 9 [] ρ [] (fun v ρ' L' => v = .bool true ∧ ρ.le ρ' ∧ L' = []) := by
  refine spec_enter Try.func9 rfl rfl rfl fun u R => ?_
  simp only [argsE, List.cons_append, List.nil_append]
  have hz0 : (List.replicate 64 (Value.int .u8 0)).length = 64 := by rfl
  have hone := u8c_one (one 7)
  have hol : ((one 7).map u8c).length = 64 := by rfl
  repeat' (first | (refine tl_is (.func 26) ?_; refine qC rfl rfl (new_spec _ 3 (by decide) (by decide)) ?_; rintro v ρ' L' hle ⟨rfl, b, hb, mb, ck, rfl, rfl⟩ <;> (try simp only [List.cons_append, List.nil_append, List.append_eq])) | (refine tl_y (y_build (cells := ⟨(one 5).map u8c⟩) rfl rfl) rfl rfl ?_) | (refine tl_y (y_build (cells := ⟨(one 6).map u8c⟩) rfl rfl) rfl rfl ?_) | (refine tl_y (y_build (cells := ⟨(one 7).map u8c⟩) rfl rfl) rfl rfl ?_) | (refine tl_is (.func 14) ?_; refine qC rfl rfl (write_at wk1_eq (by rfl) (new_okD (by decide) (by decide)) (MapOk.empty fresh_empty)) ?_; rintro v ρ' L' hle ⟨rfl, rfl, es1, ck1, hm1, rfl⟩ <;> (try simp only [List.cons_append, List.nil_append, List.append_eq])) | (refine tl_is (.func 14) ?_; refine qC rfl rfl (write_at wk2_eq (by rfl) wk1_ok hm1) ?_; rintro v ρ' L' hle ⟨rfl, rfl, es2, ck2, hm2, rfl⟩ <;> (try simp only [List.cons_append, List.nil_append, List.append_eq])) | (refine tl_is (.func 14) ?_; refine qC rfl rfl (write_at wk3_eq (by rfl) wk2_ok hm2) ?_; rintro v ρ' L' hle ⟨rfl, rfl, es3, ck3, hm3, rfl⟩ <;> (try simp only [List.cons_append, List.nil_append, List.append_eq])) | (refine tl_is (.func 17) ?_; refine tl_call rfl rfl (pendingM_spec _ b hb mb _ _ wk3 wk3_ok hm3) tk rfl ?_; rintro v ρ2 L' hle' ⟨hle2, sp, hown, rfl⟩; rw [wk3_pend] at hown ⊢; obtain ⟨pb, pc, rfl⟩ := hown.pos (by decide); simp only [ownC, List.cons_append, List.nil_append, List.append_assoc]) | (refine i_op ?_; first | (refine iMv ?_; refine qMv ?_) | (refine iLd ?_; refine qLd ?_) | (refine iFa ?_; refine qFa ?_) | (refine iAd ?_; refine qAd ?_) | (refine iSb ?_; refine qSb ?_) | (refine iMl ?_; refine qMl ?_) | (refine iRm ?_; refine qRm ?_) | (refine iQu ?_; refine qQu ?_) | (refine iSr ?_; refine qSr ?_) | (refine iSh ?_; refine qSh ?_) | (refine iCm ?_; refine qCm ?_) | (refine iEx ?_; refine qEx ?_) | (refine iAs ?_; refine qAs ?_) | (refine iPk ?_; refine qPk ?_) | (refine iNc ?_; refine qNc ?_) | (refine iIa ?_; refine qIa ?_) | (refine iCv ?_; refine qCv ?_) | (refine iBi ?_; refine qBi ?_) | (refine iUn ?_; refine qUn ?_) | (refine iFl ?_; refine qFl ?_) | (refine iLu ?_; refine qLu ?_) | (refine iBu ?_; refine qBu ?_) | (refine iSl ?_; refine qSl ?_) | (refine iMf ?_; refine qMf ?_) | (refine iMi ?_; refine qMi ?_) | (refine iTa ?_; refine qTa ?_) | (refine iSt ?_; refine qSt ?_) | (refine iAl ?_; first | refine qAlA (fun _ => ?_) | refine qAlS (fun _ => ?_)) | (refine iBx ?_; first | refine qBxA (fun _ => ?_) | refine qBxS (fun _ => ?_)) | (refine iMm ?_; refine qMm (fun _ => ?_)) | (refine iBs ?_; refine qBs (fun _ => ?_)) | (refine i_gd ?_; first | refine qWant ?_ | refine qSkip ?_ | refine qSkip0 ?_ | refine qSkipU ?_)) | refine tl_nil ?_ | refine tc_seq ?_ | refine tc_region ?_ | refine te_seq ?_ | (refine i_cond ?_; first | refine qCt ?_ | refine qCf ?_) | refine tc_block ?_ | refine te_block_normal ?_ | refine te_block_ret ?_ | refine te_then_ret ?_ | refine te_block_hit ?_ | (refine i_miss ?_; refine qMiss ?_) | refine te_then_exit ?_ | refine tc_exit ?_ | refine tc_ret ?_ | refine tc_skip ?_)
  simp only [diskL, List.cons_append, List.nil_append]
  have hk2 : [Value.bool false, Value.bool true] = [false, true].map bb := rfl
  repeat' (first | (refine tl_buildSlice_s rfl rfl rfl rfl (by simp) rfl rfl (fun _ => ?_)) | (refine tl_is (.func 16) ?_; refine qC rfl rfl (slEq_spec _ _ _ _ _ [0, 1] [0, 1] sp [] 3 3 (0, 0) (0, 0) rfl (by decide)) ?_; rintro v ρ' L' hle ⟨rfl, rfl, rfl⟩ <;> (try simp only [List.cons_append, List.nil_append, List.append_eq])) | (refine i_op ?_; first | (refine iMv ?_; refine qMv ?_) | (refine iLd ?_; refine qLd ?_) | (refine iFa ?_; refine qFa ?_) | (refine iAd ?_; refine qAd ?_) | (refine iSb ?_; refine qSb ?_) | (refine iMl ?_; refine qMl ?_) | (refine iRm ?_; refine qRm ?_) | (refine iQu ?_; refine qQu ?_) | (refine iSr ?_; refine qSr ?_) | (refine iSh ?_; refine qSh ?_) | (refine iCm ?_; refine qCm ?_) | (refine iEx ?_; refine qEx ?_) | (refine iAs ?_; refine qAs ?_) | (refine iPk ?_; refine qPk ?_) | (refine iNc ?_; refine qNc ?_) | (refine iIa ?_; refine qIa ?_) | (refine iCv ?_; refine qCv ?_) | (refine iBi ?_; refine qBi ?_) | (refine iUn ?_; refine qUn ?_) | (refine iFl ?_; refine qFl ?_) | (refine iLu ?_; refine qLu ?_) | (refine iBu ?_; refine qBu ?_) | (refine iSl ?_; refine qSl ?_) | (refine iMf ?_; refine qMf ?_) | (refine iMi ?_; refine qMi ?_) | (refine iTa ?_; refine qTa ?_) | (refine iSt ?_; refine qSt ?_) | (refine iAl ?_; first | refine qAlA (fun _ => ?_) | refine qAlS (fun _ => ?_)) | (refine iBx ?_; first | refine qBxA (fun _ => ?_) | refine qBxS (fun _ => ?_)) | (refine iMm ?_; refine qMm (fun _ => ?_)) | (refine iBs ?_; refine qBs (fun _ => ?_)) | (refine i_gd ?_; first | refine qWant ?_ | refine qSkip ?_ | refine qSkip0 ?_ | refine qSkipU ?_)) | refine tl_nil ?_ | refine tc_seq ?_ | refine tc_region ?_ | refine te_seq ?_ | (refine i_cond ?_; first | refine qCt ?_ | refine qCf ?_) | refine tc_block ?_ | refine te_block_normal ?_ | refine te_block_ret ?_ | refine te_then_ret ?_ | refine te_block_hit ?_ | (refine i_miss ?_; refine qMiss ?_) | refine te_then_exit ?_ | refine tc_exit ?_ | refine tc_ret ?_ | refine tc_skip ?_)
  rename_i kb
  have hcr : ∀ ρ, Spec Try.prog 18 [.pointer (some ⟨b, 0, none⟩), .slice (some ⟨kb, 0, none⟩) 2 2] ρ ([[(b, dO hb mb wk3.secs.length wk3.ops wk3.armed wk3.failing wk3.dead)], [(hb.b, .cells ⟨heldC wk3.secs ++ hb.sp⟩ 34 (0, 0))], [(mb, .map ⟨es3⟩ ck3)], [(kb, .cells ⟨[.bool false, .bool true]⟩ 4 (0, 0))]])
      (fun v ρ' L' => v = .int .i64 0 ∧ ρ.le ρ' ∧ ∃ mb' ck', L' = diskL b hb mb' [] ck' wk4 ++ [[(kb, .cells ⟨[.bool false, .bool true]⟩ 4 (0, 0))]]) := fun ρ =>
    crash_spec ρ b hb mb es3 ck3 wk3 wk3_ok hm3 _ _ _ [[(kb, .cells ⟨[.bool false, .bool true]⟩ 4 (0, 0))]] (keepB [false, true]) (fun bk nth _ => crash1_own ρ (some ⟨kb, 0, none⟩) 2 2 [false, true] [] rfl (OwnS.full kb _ rfl) bk nth)
  repeat' (first | (refine tl_is (.func 18) ?_; refine qC rfl rfl (hcr _) ?_; rintro v ρ' L' hle ⟨rfl, hle3, mb2, ck2, rfl⟩ <;> (try simp only [List.cons_append, List.nil_append, List.append_eq, diskL])) | (refine i_op ?_; first | (refine iMv ?_; refine qMv ?_) | (refine iLd ?_; refine qLd ?_) | (refine iFa ?_; refine qFa ?_) | (refine iAd ?_; refine qAd ?_) | (refine iSb ?_; refine qSb ?_) | (refine iMl ?_; refine qMl ?_) | (refine iRm ?_; refine qRm ?_) | (refine iQu ?_; refine qQu ?_) | (refine iSr ?_; refine qSr ?_) | (refine iSh ?_; refine qSh ?_) | (refine iCm ?_; refine qCm ?_) | (refine iEx ?_; refine qEx ?_) | (refine iAs ?_; refine qAs ?_) | (refine iPk ?_; refine qPk ?_) | (refine iNc ?_; refine qNc ?_) | (refine iIa ?_; refine qIa ?_) | (refine iCv ?_; refine qCv ?_) | (refine iBi ?_; refine qBi ?_) | (refine iUn ?_; refine qUn ?_) | (refine iFl ?_; refine qFl ?_) | (refine iLu ?_; refine qLu ?_) | (refine iBu ?_; refine qBu ?_) | (refine iSl ?_; refine qSl ?_) | (refine iMf ?_; refine qMf ?_) | (refine iMi ?_; refine qMi ?_) | (refine iTa ?_; refine qTa ?_) | (refine iSt ?_; refine qSt ?_) | (refine iAl ?_; first | refine qAlA (fun _ => ?_) | refine qAlS (fun _ => ?_)) | (refine iBx ?_; first | refine qBxA (fun _ => ?_) | refine qBxS (fun _ => ?_)) | (refine iMm ?_; refine qMm (fun _ => ?_)) | (refine iBs ?_; refine qBs (fun _ => ?_)) | (refine i_gd ?_; first | refine qWant ?_ | refine qSkip ?_ | refine qSkip0 ?_ | refine qSkipU ?_)) | refine tl_nil ?_ | refine tc_seq ?_ | refine tc_region ?_ | refine te_seq ?_ | (refine i_cond ?_; first | refine qCt ?_ | refine qCf ?_) | refine tc_block ?_ | refine te_block_normal ?_ | refine te_block_ret ?_ | refine te_then_ret ?_ | refine te_block_hit ?_ | (refine i_miss ?_; refine qMiss ?_) | refine te_then_exit ?_ | refine tc_exit ?_ | refine tc_ret ?_ | refine tc_skip ?_)
  repeat' (first | (refine tl_is (.func 13) ?_; refine qC rfl rfl (read_at wk5_eq wk4_ok wk4_e) ?_; rintro v ρ' L' hle ⟨rfl, rfl, rfl⟩ <;> (try simp only [List.cons_append, List.nil_append, List.append_eq, bv, diskL])) | (refine tl_is (.func 17) ?_; refine tl_call rfl rfl (pendingM_spec _ b hb mb2 [] ck2 wk5 wk5_ok wk5_e) tk rfl ?_; rintro v ρ4 L' hle4 ⟨hle5, sp2, hown2, rfl⟩; rw [show pend wk5.secs = [] from rfl] at hown2 ⊢; obtain ⟨a5, c5, rfl, hvl5⟩ := hown2.len; simp only [diskL, List.cons_append, List.nil_append]) | (refine i_op ?_; first | (refine iMv ?_; refine qMv ?_) | (refine iLd ?_; refine qLd ?_) | (refine iFa ?_; refine qFa ?_) | (refine iAd ?_; refine qAd ?_) | (refine iSb ?_; refine qSb ?_) | (refine iMl ?_; refine qMl ?_) | (refine iRm ?_; refine qRm ?_) | (refine iQu ?_; refine qQu ?_) | (refine iSr ?_; refine qSr ?_) | (refine iSh ?_; refine qSh ?_) | (refine iCm ?_; refine qCm ?_) | (refine iEx ?_; refine qEx ?_) | (refine iAs ?_; refine qAs ?_) | (refine iPk ?_; refine qPk ?_) | (refine iNc ?_; refine qNc ?_) | (refine iIa ?_; refine qIa ?_) | (refine iCv ?_; refine qCv ?_) | (refine iBi ?_; refine qBi ?_) | (refine iUn ?_; refine qUn ?_) | (refine iFl ?_; refine qFl ?_) | (refine iLu ?_; refine qLu ?_) | (refine iBu ?_; refine qBu ?_) | (refine iSl ?_; refine qSl ?_) | (refine iMf ?_; refine qMf ?_) | (refine iMi ?_; refine qMi ?_) | (refine iTa ?_; refine qTa ?_) | (refine iSt ?_; refine qSt ?_) | (refine iAl ?_; first | refine qAlA (fun _ => ?_) | refine qAlS (fun _ => ?_)) | (refine iBx ?_; first | refine qBxA (fun _ => ?_) | refine qBxS (fun _ => ?_)) | (refine iMm ?_; refine qMm (fun _ => ?_)) | (refine iBs ?_; refine qBs (fun _ => ?_)) | (refine i_gd ?_; first | refine qWant ?_ | refine qSkip ?_ | refine qSkip0 ?_ | refine qSkipU ?_)) | refine tl_nil ?_ | refine tc_seq ?_ | refine tc_region ?_ | refine te_seq ?_ | (refine i_cond ?_; first | refine qCt ?_ | refine qCf ?_) | refine tc_block ?_ | refine te_block_normal ?_ | refine te_block_ret ?_ | refine te_then_ret ?_ | refine te_block_hit ?_ | (refine i_miss ?_; refine qMiss ?_) | refine te_then_exit ?_ | refine tc_exit ?_ | refine tc_ret ?_ | refine tc_skip ?_)
  have hfin := Hp.le_trans hle2 (Hp.le_trans hle3 hle5)
  exact te_end rfl rfl rfl (res1 rfl (r1_tmp rfl)) hfin take_nil' (by infer_instance) ⟨rfl, hfin, rfl⟩
end Go.Proofs.E

namespace Go.Proofs.E
open Go
set_option linter.unusedVariables false
set_option linter.unusedSimpArgs false
set_option maxRecDepth 4000
attribute [local irreducible] Yl TL TC TE Spec YSpec R1 Hp.le EnvLe TS TR YS Stays

theorem cnt_lo {n : Int} : -1 ≤ cnt n := by unfold cnt; omega
theorem cnt_hi {n : Int} (h : n ≤ 9223372036854775807) : cnt n ≤ 9223372036854775807 := by unfold cnt; omega
theorem DS.Ok.tick {D : DS} (h : D.Ok) : D.tick.Ok := ⟨h.secs, h.a1, h.a2, cnt_lo, cnt_hi h.f2⟩
theorem DS.Ok.read {D : DS} {i : Int} (h : D.Ok) : (D.read i).1.Ok := by
  unfold DS.read
  split
  · exact h
  · split
    · exact h
    · split <;> exact h.tick
theorem DS.Ok.write {D : DS} {i : Int} {b : Blk} (h : D.Ok) (hb : b.length = 64) : (D.write i b).1.Ok := by
  unfold DS.write
  split
  · exact h
  · split
    · exact h
    · rename_i h1 h2
      have hi : i.toNat < D.secs.length := by omega
      split
      · exact ⟨h.secs.putC hb hi, h.tick.a1, h.tick.a2, h.tick.f1, h.tick.f2⟩
      · split
        · exact h.tick
        · exact ⟨h.secs.putC hb hi, cnt_lo, cnt_hi h.a2, h.tick.f1, h.tick.f2⟩
theorem DS.Ok.sync {D : DS} (h : D.Ok) : D.sync.1.Ok := by
  unfold DS.sync
  split
  · exact h
  · split
    · exact ⟨h.secs, h.tick.a1, h.tick.a2, h.tick.f1, h.tick.f2⟩
    · split
      · exact h.tick
      · exact ⟨h.secs.settled, cnt_lo, cnt_hi h.a2, h.tick.f1, h.tick.f2⟩
theorem DS.Ok.crash {D : DS} {keep} (h : D.Ok) : (D.crash keep).Ok := ⟨h.secs.settled, by simp [DS.crash], by simp [DS.crash], by simp [DS.crash], by simp [DS.crash]⟩
end Go.Proofs.E

namespace Go.Proofs.E
open Go
set_option linter.unusedVariables false
set_option linter.unusedSimpArgs false
set_option maxRecDepth 4000
attribute [local irreducible] Yl TL TC TE Spec YSpec R1 Hp.le EnvLe TS TR YS Stays

/-- a list of operations that the call was handed -/
structure OpsIn (ρ : Hp) (oa : Option Addr) (n : Nat) (ops : List (OpV × List Bool)) : Prop where
  len : ops.length = n
  big : n ≤ 9223372036854775806
  out : ∀ i (h : i < ops.length), ∃ b off C T fr, oa = some ⟨b, off, none⟩ ∧ ρ b = some (.cells ⟨C⟩ T fr) ∧ off + i * 5 + 5 ≤ C.length ∧ (C.drop (off + i * 5)).take 5 = ops[i].1.cells ∧ KeepIn ρ ops[i].1.ka ops[i].1.kn ops[i].1.kp ops[i].2
theorem OpsIn.mono {ρ ρ' : Hp} {oa n ops} (h : OpsIn ρ oa n ops) (hle : ρ.le ρ') : OpsIn ρ' oa n ops :=
  ⟨h.len, h.big, fun i hi => by
    obtain ⟨b, off, C, T, fr, h1, h2, h3, h4, h5⟩ := h.out i hi
    exact ⟨b, off, C, T, fr, h1, Hp.le_get hle h2, h3, h4, h5.mono hle⟩⟩
def playF (i : Nat) (p : OpV × List Bool) (D : DS) : DS := if i < 50 ∧ opK p.1 < 6 then (D.run p.1 p.2).1 else D
def playTo (ops : List (OpV × List Bool)) (D : DS) : Nat → DS
  | 0 => D
  | k + 1 => match ops[k]? with
    | none => playTo ops D k
    | some p => playF k p (playTo ops D k)
theorem playTo_succ {ops : List (OpV × List Bool)} {D : DS} {k : Nat} (h : k < ops.length) : playTo ops D (k + 1) = playF k ops[k] (playTo ops D k) := by
  simp [playTo, h]
theorem opK_lo (o : OpV) : 0 ≤ opK o := by
  unfold opK
  have h : 0 ≤ IntKind.u64.wrap o.kind := by simp only [IntKind.wrap, IntKind.bits, IntKind.signed, Bool.false_and, Bool.false_eq_true, if_false]; omega
  exact Int.tmod_nonneg _ h
theorem DS.Ok.run {D : DS} {o : OpV} {ks : List Bool} (h : D.Ok) (hk : opK o < 6) : (D.run o ks).1.Ok := by
  unfold DS.run
  split
  · exact h.read
  · split
    · exact h.sync
    · rw [if_neg (by omega), if_neg (by omega), if_neg (by omega)]
      exact h.write rfl
theorem playF_ok {i p} {D : DS} (h : D.Ok) : (playF i p D).Ok := by
  unfold playF
  split
  · rename_i hh; exact h.run hh.2
  · exact h
set_option maxHeartbeats 1600000 in
theorem played_spec (ρ : Hp) (k0 : Int) (oa : Option Addr) (n cap : Nat) (ops : List (OpV × List Bool)) (hO : OpsIn ρ oa n ops) : Spec Try.prog 10 [.int .i64 k0, .slice oa n cap] ρ [] (fun v ρ' L' => ρ.le ρ' ∧ ∃ b hb mb es ck, v = .tuple ⟨[.pointer (some ⟨b, 0, none⟩), .bool true]⟩ ∧ MapOk (playTo ops (DS.new (sizeN k0)) n).secs es ∧ L' = diskL b hb mb es ck (playTo ops (DS.new (sizeN k0)) n)) := by
  have hbig := hO.big
  have hon := hO.len
  refine spec_enter Try.func10 rfl rfl rfl fun u R => ?_
  simp only [argsE, List.cons_append, List.nil_append]
  repeat' (first | (refine tl_is (.func 27) ?_; refine qC rfl rfl (size_spec _ _) ?_; rintro v ρ' L' hle ⟨rfl, rfl, rfl⟩ <;> (try simp only [List.cons_append, List.nil_append, List.append_eq])) | (refine tl_is (.func 26) ?_; refine qC rfl rfl (new_spec _ (sizeN k0) sizeN_pos (Nat.le_trans sizeN_le (by decide))) ?_; rintro v ρ' L' hle ⟨rfl, b, hb, mb, ck, rfl, rfl⟩ <;> (try simp only [List.cons_append, List.nil_append, List.append_eq])) | (refine i_op ?_; first | (refine iMv ?_; refine qMv ?_) | (refine iLd ?_; refine qLd ?_) | (refine iFa ?_; refine qFa ?_) | (refine iAd ?_; refine qAd ?_) | (refine iSb ?_; refine qSb ?_) | (refine iMl ?_; refine qMl ?_) | (refine iRm ?_; refine qRm ?_) | (refine iQu ?_; refine qQu ?_) | (refine iSr ?_; refine qSr ?_) | (refine iSh ?_; refine qSh ?_) | (refine iCm ?_; refine qCm ?_) | (refine iEx ?_; refine qEx ?_) | (refine iAs ?_; refine qAs ?_) | (refine iPk ?_; refine qPk ?_) | (refine iNc ?_; refine qNc ?_) | (refine iIa ?_; refine qIa ?_) | (refine iCv ?_; refine qCv ?_) | (refine iBi ?_; refine qBi ?_) | (refine iUn ?_; refine qUn ?_) | (refine iFl ?_; refine qFl ?_) | (refine iLu ?_; refine qLu ?_) | (refine iBu ?_; refine qBu ?_) | (refine iSl ?_; refine qSl ?_) | (refine iMf ?_; refine qMf ?_) | (refine iMi ?_; refine qMi ?_) | (refine iTa ?_; refine qTa ?_) | (refine iSt ?_; refine qSt ?_) | (refine iAl ?_; first | refine qAlA (fun _ => ?_) | refine qAlS (fun _ => ?_)) | (refine iBx ?_; first | refine qBxA (fun _ => ?_) | refine qBxS (fun _ => ?_)) | (refine iMm ?_; refine qMm (fun _ => ?_)) | (refine iBs ?_; refine qBs (fun _ => ?_)) | (refine i_gd ?_; first | refine qWant ?_ | refine qSkip ?_ | refine qSkip0 ?_ | refine qSkipU ?_)) | refine tl_nil ?_ | refine tc_seq ?_ | refine tc_region ?_ | refine te_seq ?_ | (refine i_cond ?_; first | refine qCt ?_ | refine qCf ?_) | refine tc_block ?_ | refine te_block_normal ?_ | refine te_block_ret ?_ | refine te_then_ret ?_ | refine te_block_hit ?_ | (refine i_miss ?_; refine qMiss ?_) | refine te_then_exit ?_ | refine tc_exit ?_ | refine tc_ret ?_ | refine tc_skip ?_)
  refine tc_loop_e (fun (y : Nat × Hp × Nat × List MapEntry × Nat) => ⟨[(20, .int .i64 y.1), (19, .int .i64 n), (18, .slice oa n cap), (6, .pointer (some ⟨b, 0, none⟩))], y.2.1,
      diskL b hb y.2.2.1 y.2.2.2.1 y.2.2.2.2 (playTo ops (DS.new (sizeN k0)) y.1) ++ R⟩)
    (fun y => y.1 ≤ n ∧ ρ'.le y.2.1 ∧ (playTo ops (DS.new (sizeN k0)) y.1).Ok ∧ MapOk (playTo ops (DS.new (sizeN k0)) y.1).secs y.2.2.2.1) (fun y => n - y.1) (0, ρ', mb, [], ck) rfl
    ⟨by simp, Hp.le_refl _, new_okD sizeN_pos (Nat.le_trans sizeN_le (by decide)), MapOk.empty fresh_empty⟩ ev_le rfl take_app' inferInstance ?_
  rintro ⟨k, ρ1, m1, es1, ck1⟩ ⟨h1, h2, h3, h4⟩
  dsimp only at h1 h2 h3 h4 ⊢
  by_cases hlt : k < n
  · have hk : k < ops.length := by omega
    obtain ⟨ob, off, C, T, fr, rfl, hC, hle5, hcs, hkp⟩ := (hO.mono h2).out k hk
    have hsucc := playTo_succ (D := DS.new (sizeN k0)) hk
    generalize ops[k] = p at hcs hkp hsucc
    obtain ⟨⟨kind, at', m, fill, ka, kn, kp⟩, ks⟩ := p
    dsimp only [OpV.cells] at hcs hkp hsucc
    by_cases hk50 : k < 50
    · by_cases hk6 : (IntKind.u64.wrap kind).tmod 9 < 6
      · have hst : playTo ops (DS.new (sizeN k0)) (k + 1) = ((playTo ops (DS.new (sizeN k0)) k).run ⟨kind, at', m, fill, ka, kn, kp⟩ ks).1 := by rw [hsucc]; unfold playF; exact if_pos ⟨hk50, hk6⟩
        have hok : (playTo ops (DS.new (sizeN k0)) (k + 1)).Ok := by rw [hst]; exact h3.run hk6
        have hrun := run_spec ρ1 b hb m1 es1 ck1 _ ⟨kind, at', m, fill, ka, kn, kp⟩ ks h3 h4 hkp
        rw [← hst] at hrun
        repeat' (first | (refine tl_is (.func 22) ?_; refine qC rfl rfl (hrun) ?_; rintro v ρ' L' hle ⟨rfl, hle2, mb2, es2, ck2, hm2, rfl⟩ <;> (try simp only [List.cons_append, List.nil_append, List.append_eq])) | (refine i_op ?_; first | (refine iMv ?_; refine qMv ?_) | (refine iLd ?_; refine qLd ?_) | (refine iFa ?_; refine qFa ?_) | (refine iAd ?_; refine qAd ?_) | (refine iSb ?_; refine qSb ?_) | (refine iMl ?_; refine qMl ?_) | (refine iRm ?_; refine qRm ?_) | (refine iQu ?_; refine qQu ?_) | (refine iSr ?_; refine qSr ?_) | (refine iSh ?_; refine qSh ?_) | (refine iCm ?_; refine qCm ?_) | (refine iEx ?_; refine qEx ?_) | (refine iAs ?_; refine qAs ?_) | (refine iPk ?_; refine qPk ?_) | (refine iNc ?_; refine qNc ?_) | (refine iIa ?_; refine qIa ?_) | (refine iCv ?_; refine qCv ?_) | (refine iBi ?_; refine qBi ?_) | (refine iUn ?_; refine qUn ?_) | (refine iFl ?_; refine qFl ?_) | (refine iLu ?_; refine qLu ?_) | (refine iBu ?_; refine qBu ?_) | (refine iSl ?_; refine qSl ?_) | (refine iMf ?_; refine qMf ?_) | (refine iMi ?_; refine qMi ?_) | (refine iTa ?_; refine qTa ?_) | (refine iSt ?_; refine qSt ?_) | (refine iAl ?_; first | refine qAlA (fun _ => ?_) | refine qAlS (fun _ => ?_)) | (refine iBx ?_; first | refine qBxA (fun _ => ?_) | refine qBxS (fun _ => ?_)) | (refine iMm ?_; refine qMm (fun _ => ?_)) | (refine iBs ?_; refine qBs (fun _ => ?_)) | (refine i_gd ?_; first | refine qWant ?_ | refine qSkip ?_ | refine qSkip0 ?_ | refine qSkipU ?_)) | refine tl_nil ?_ | refine tc_seq ?_ | refine tc_region ?_ | refine te_seq ?_ | (refine i_cond ?_; first | refine qCt ?_ | refine qCf ?_) | refine tc_block ?_ | refine te_block_normal ?_ | refine te_block_ret ?_ | refine te_then_ret ?_ | refine te_block_hit ?_ | (refine i_miss ?_; refine qMiss ?_) | refine te_then_exit ?_ | refine tc_exit ?_ | refine tc_ret ?_ | refine tc_skip ?_)
        refine te_round_e (Lm := diskL b hb mb2 es2 ck2 (playTo ops (DS.new (sizeN k0)) (k + 1))) (R := R) (k + 1, _, mb2, es2, ck2) rfl ⟨by omega, Hp.le_trans h2 hle2, hok, hm2⟩ ev_le rfl tk inferInstance (by dsimp only; omega)
      · have hst : playTo ops (DS.new (sizeN k0)) (k + 1) = playTo ops (DS.new (sizeN k0)) k := by rw [hsucc]; unfold playF; exact if_neg (fun h => hk6 h.2)
        rw [← hst] at h3 h4 ⊢
        repeat' (first | (refine i_op ?_; first | (refine iMv ?_; refine qMv ?_) | (refine iLd ?_; refine qLd ?_) | (refine iFa ?_; refine qFa ?_) | (refine iAd ?_; refine qAd ?_) | (refine iSb ?_; refine qSb ?_) | (refine iMl ?_; refine qMl ?_) | (refine iRm ?_; refine qRm ?_) | (refine iQu ?_; refine qQu ?_) | (refine iSr ?_; refine qSr ?_) | (refine iSh ?_; refine qSh ?_) | (refine iCm ?_; refine qCm ?_) | (refine iEx ?_; refine qEx ?_) | (refine iAs ?_; refine qAs ?_) | (refine iPk ?_; refine qPk ?_) | (refine iNc ?_; refine qNc ?_) | (refine iIa ?_; refine qIa ?_) | (refine iCv ?_; refine qCv ?_) | (refine iBi ?_; refine qBi ?_) | (refine iUn ?_; refine qUn ?_) | (refine iFl ?_; refine qFl ?_) | (refine iLu ?_; refine qLu ?_) | (refine iBu ?_; refine qBu ?_) | (refine iSl ?_; refine qSl ?_) | (refine iMf ?_; refine qMf ?_) | (refine iMi ?_; refine qMi ?_) | (refine iTa ?_; refine qTa ?_) | (refine iSt ?_; refine qSt ?_) | (refine iAl ?_; first | refine qAlA (fun _ => ?_) | refine qAlS (fun _ => ?_)) | (refine iBx ?_; first | refine qBxA (fun _ => ?_) | refine qBxS (fun _ => ?_)) | (refine iMm ?_; refine qMm (fun _ => ?_)) | (refine iBs ?_; refine qBs (fun _ => ?_)) | (refine i_gd ?_; first | refine qWant ?_ | refine qSkip ?_ | refine qSkip0 ?_ | refine qSkipU ?_)) | refine tl_nil ?_ | refine tc_seq ?_ | refine tc_region ?_ | refine te_seq ?_ | (refine i_cond ?_; first | refine qCt ?_ | refine qCf ?_) | refine tc_block ?_ | refine te_block_normal ?_ | refine te_block_ret ?_ | refine te_then_ret ?_ | refine te_block_hit ?_ | (refine i_miss ?_; refine qMiss ?_) | refine te_then_exit ?_ | refine tc_exit ?_ | refine tc_ret ?_ | refine tc_skip ?_)
        refine te_round_e (Lm := diskL b hb m1 es1 ck1 (playTo ops (DS.new (sizeN k0)) (k + 1))) (R := R) (k + 1, _, m1, es1, ck1) rfl ⟨by omega, h2, h3, h4⟩ ev_le rfl tk inferInstance (by dsimp only; omega)
    · have hst : playTo ops (DS.new (sizeN k0)) (k + 1) = playTo ops (DS.new (sizeN k0)) k := by rw [hsucc]; unfold playF; exact if_neg (fun h => hk50 h.1)
      rw [← hst] at h3 h4 ⊢
      repeat' (first | (refine i_op ?_; first | (refine iMv ?_; refine qMv ?_) | (refine iLd ?_; refine qLd ?_) | (refine iFa ?_; refine qFa ?_) | (refine iAd ?_; refine qAd ?_) | (refine iSb ?_; refine qSb ?_) | (refine iMl ?_; refine qMl ?_) | (refine iRm ?_; refine qRm ?_) | (refine iQu ?_; refine qQu ?_) | (refine iSr ?_; refine qSr ?_) | (refine iSh ?_; refine qSh ?_) | (refine iCm ?_; refine qCm ?_) | (refine iEx ?_; refine qEx ?_) | (refine iAs ?_; refine qAs ?_) | (refine iPk ?_; refine qPk ?_) | (refine iNc ?_; refine qNc ?_) | (refine iIa ?_; refine qIa ?_) | (refine iCv ?_; refine qCv ?_) | (refine iBi ?_; refine qBi ?_) | (refine iUn ?_; refine qUn ?_) | (refine iFl ?_; refine qFl ?_) | (refine iLu ?_; refine qLu ?_) | (refine iBu ?_; refine qBu ?_) | (refine iSl ?_; refine qSl ?_) | (refine iMf ?_; refine qMf ?_) | (refine iMi ?_; refine qMi ?_) | (refine iTa ?_; refine qTa ?_) | (refine iSt ?_; refine qSt ?_) | (refine iAl ?_; first | refine qAlA (fun _ => ?_) | refine qAlS (fun _ => ?_)) | (refine iBx ?_; first | refine qBxA (fun _ => ?_) | refine qBxS (fun _ => ?_)) | (refine iMm ?_; refine qMm (fun _ => ?_)) | (refine iBs ?_; refine qBs (fun _ => ?_)) | (refine i_gd ?_; first | refine qWant ?_ | refine qSkip ?_ | refine qSkip0 ?_ | refine qSkipU ?_)) | refine tl_nil ?_ | refine tc_seq ?_ | refine tc_region ?_ | refine te_seq ?_ | (refine i_cond ?_; first | refine qCt ?_ | refine qCf ?_) | refine tc_block ?_ | refine te_block_normal ?_ | refine te_block_ret ?_ | refine te_then_ret ?_ | refine te_block_hit ?_ | (refine i_miss ?_; refine qMiss ?_) | refine te_then_exit ?_ | refine tc_exit ?_ | refine tc_ret ?_ | refine tc_skip ?_)
      refine te_round_e (Lm := diskL b hb m1 es1 ck1 (playTo ops (DS.new (sizeN k0)) (k + 1))) (R := R) (k + 1, _, m1, es1, ck1) rfl ⟨by omega, h2, h3, h4⟩ ev_le rfl tk inferInstance (by dsimp only; omega)
  · have hk2 : k = n := by omega
    subst hk2
    repeat' (first | (refine i_op ?_; first | (refine iMv ?_; refine qMv ?_) | (refine iLd ?_; refine qLd ?_) | (refine iFa ?_; refine qFa ?_) | (refine iAd ?_; refine qAd ?_) | (refine iSb ?_; refine qSb ?_) | (refine iMl ?_; refine qMl ?_) | (refine iRm ?_; refine qRm ?_) | (refine iQu ?_; refine qQu ?_) | (refine iSr ?_; refine qSr ?_) | (refine iSh ?_; refine qSh ?_) | (refine iCm ?_; refine qCm ?_) | (refine iEx ?_; refine qEx ?_) | (refine iAs ?_; refine qAs ?_) | (refine iPk ?_; refine qPk ?_) | (refine iNc ?_; refine qNc ?_) | (refine iIa ?_; refine qIa ?_) | (refine iCv ?_; refine qCv ?_) | (refine iBi ?_; refine qBi ?_) | (refine iUn ?_; refine qUn ?_) | (refine iFl ?_; refine qFl ?_) | (refine iLu ?_; refine qLu ?_) | (refine iBu ?_; refine qBu ?_) | (refine iSl ?_; refine qSl ?_) | (refine iMf ?_; refine qMf ?_) | (refine iMi ?_; refine qMi ?_) | (refine iTa ?_; refine qTa ?_) | (refine iSt ?_; refine qSt ?_) | (refine iAl ?_; first | refine qAlA (fun _ => ?_) | refine qAlS (fun _ => ?_)) | (refine iBx ?_; first | refine qBxA (fun _ => ?_) | refine qBxS (fun _ => ?_)) | (refine iMm ?_; refine qMm (fun _ => ?_)) | (refine iBs ?_; refine qBs (fun _ => ?_)) | (refine i_gd ?_; first | refine qWant ?_ | refine qSkip ?_ | refine qSkip0 ?_ | refine qSkipU ?_)) | refine tl_nil ?_ | refine tc_seq ?_ | refine tc_region ?_ | refine te_seq ?_ | (refine i_cond ?_; first | refine qCt ?_ | refine qCf ?_) | refine tc_block ?_ | refine te_block_normal ?_ | refine te_block_ret ?_ | refine te_then_ret ?_ | refine te_block_hit ?_ | (refine i_miss ?_; refine qMiss ?_) | refine te_then_exit ?_ | refine tc_exit ?_ | refine tc_ret ?_ | refine tc_skip ?_)
    exact te_end rfl rfl rfl (by refine res2 rfl ?_ ?_ <;> exact r1_tmp rfl) h2 take_app' (by infer_instance) ⟨h2, b, hb, m1, es1, ck1, rfl, h4, rfl⟩
end Go.Proofs.E

namespace Go.Proofs.E
open Go
set_option linter.unusedVariables false
set_option linter.unusedSimpArgs false

/-- a disk that is alive, with nothing set to fail -/
structure DS.Calm (D : DS) : Prop where
  dead : D.dead = false
  armed : D.armed = -1
  failing : D.failing = -1
theorem new_calm {n} : (DS.new n).Calm := ⟨rfl, rfl, rfl⟩
theorem DS.Calm.read {D : DS} {i : Int} (h : D.Calm) : (D.read i).1.Calm := by
  obtain ⟨s, o, a, f, d⟩ := D
  obtain ⟨h1, h2, h3⟩ := h
  simp only at h1 h2 h3
  subst h1; subst h2; subst h3
  unfold DS.read
  simp only [Bool.false_eq_true, if_false]
  split
  · exact ⟨rfl, rfl, rfl⟩
  · exact ⟨rfl, rfl, rfl⟩
theorem DS.Calm.write {D : DS} {i : Int} {b : Blk} (h : D.Calm) : (D.write i b).1.Calm := by
  obtain ⟨s, o, a, f, d⟩ := D
  obtain ⟨h1, h2, h3⟩ := h
  simp only at h1 h2 h3
  subst h1; subst h2; subst h3
  unfold DS.write
  simp only [Bool.false_eq_true, if_false]
  split
  · exact ⟨rfl, rfl, rfl⟩
  · exact ⟨rfl, rfl, rfl⟩
theorem DS.Calm.sync_eq {D : DS} (h : D.Calm) : D.sync = (⟨settled (fun _ => true) D.secs, IntKind.i64.wrap (D.ops + 1), -1, -1, false⟩, 0) := by
  obtain ⟨s, o, a, f, d⟩ := D
  obtain ⟨h1, h2, h3⟩ := h
  simp only at h1 h2 h3
  subst h1; subst h2; subst h3
  rfl
theorem DS.Calm.run {D : DS} {o : OpV} {ks : List Bool} (h : D.Calm) (hk : opK o < 6) : (D.run o ks).1.Calm := by
  unfold DS.run
  split
  · exact h.read
  · split
    · rw [h.sync_eq]; exact ⟨rfl, rfl, rfl⟩
    · rw [if_neg (by omega), if_neg (by omega), if_neg (by omega)]
      exact h.write
theorem playTo_calm {ops D k} (h : DS.Calm D) : (playTo ops D k).Calm := by
  induction k with
  | zero => exact h
  | succ k ih =>
    unfold playTo
    split
    · exact ih
    · unfold playF
      split
      · rename_i hh; exact ih.run hh.2
      · exact ih
end Go.Proofs.E

namespace Go.Proofs.E
open Go
set_option linter.unusedVariables false
set_option linter.unusedSimpArgs false

theorem isP_putC {s : Secs} {i j : Nat} {b : Blk} (hi : i < s.length) : isP (putC s i b) j = (isP s j || decide (j = i)) := by
  unfold isP putC
  rw [List.getElem?_set]
  by_cases e : i = j
  · subst e; simp [hi]
  · have : ¬ j = i := fun h => e h.symm
    simp [e, this]
theorem isP_empty {s : Secs} (h : emptyC s) (j : Nat) : isP s j = false := by
  unfold isP
  cases hs : s[j]? with
  | none => rfl
  | some p =>
    have := h p (List.mem_of_getElem? hs)
    simp [this]
theorem filter_eq_one (n i : Nat) (hi : i < n) : (List.range n).filter (fun j => decide (j = i)) = [i] := by
  induction n with
  | zero => omega
  | succ n ih =>
    rw [List.range_succ, List.filter_append]
    by_cases e : i = n
    · subst e
      have : (List.range i).filter (fun j => decide (j = i)) = [] := by
        rw [List.filter_eq_nil_iff]; intro a ha; simp at ha ⊢; omega
      simp [this]
    · rw [ih (by omega)]
      have : ¬ n = i := fun h => e h.symm
      simp [this]
theorem pend_one {s : Secs} {i : Nat} {b c : Blk} (h : emptyC s) (hi : i < s.length) : pend (putC (putC s i b) i c) = [i] := by
  unfold pend pendTo
  rw [putC_length, putC_length]
  have : isP (putC (putC s i b) i c) = fun j => decide (j = i) := by
    funext j
    rw [isP_putC (by rw [putC_length]; exact hi), isP_putC hi, isP_empty h]
    simp
  rw [this, filter_eq_one _ _ hi]
end Go.Proofs.E

namespace Go.Proofs.E
open Go
set_option linter.unusedVariables false
set_option linter.unusedSimpArgs false
set_option linter.unusedSectionVars false

theorem playTo_ok {ops D k} (h : DS.Ok D) : (playTo ops D k).Ok := by
  induction k with
  | zero => exact h
  | succ k ih =>
    unfold playTo
    split
    · exact ih
    · exact playF_ok ih
theorem DS.Calm.read_eq {D : DS} {i : Nat} (h : D.Calm) (hi : i < D.secs.length) : D.read i = (⟨D.secs, IntKind.i64.wrap (D.ops + 1), -1, -1, false⟩, says1 D.secs[i], 0) := by
  obtain ⟨s, o, a, f, d⟩ := D
  obtain ⟨h1, h2, h3⟩ := h
  simp only at h1 h2 h3
  subst h1; subst h2; subst h3
  simp only at hi
  have hn : ¬ ((i : Int) < 0 ∨ (s.length : Int) ≤ i) := by omega
  have hc : cnt (-1) = -1 := by decide
  unfold DS.read
  simp only [hn, if_false, Bool.false_eq_true, DS.tick, hc, show ¬ ((-1 : Int) = 0) by decide, Int.toNat_natCast, List.getElem?_eq_getElem hi, Option.getD_some]
theorem DS.Calm.write_eq {D : DS} {i : Nat} {b : Blk} (h : D.Calm) (hi : i < D.secs.length) : D.write i b = (⟨putC D.secs i b, IntKind.i64.wrap (D.ops + 1), -1, -1, false⟩, 0) := by
  obtain ⟨s, o, a, f, d⟩ := D
  obtain ⟨h1, h2, h3⟩ := h
  simp only at h1 h2 h3
  subst h1; subst h2; subst h3
  simp only at hi
  have hn : ¬ ((i : Int) < 0 ∨ (s.length : Int) ≤ i) := by omega
  have hc : cnt (-1) = -1 := by decide
  unfold DS.write
  simp only [hn, if_false, Bool.false_eq_true, DS.tick, hc, show ¬ ((-1 : Int) = 0) by decide, Int.toNat_natCast]
theorem DS.Calm.mk' {s o} : (⟨s, o, -1, -1, false⟩ : DS).Calm := ⟨rfl, rfl, rfl⟩
theorem DS.Ok.mk' {s o} (h : SecsOk s) : (⟨s, o, -1, -1, false⟩ : DS).Ok := ⟨h, by simp, by simp, by simp, by simp⟩
theorem putC_self {s : Secs} {i : Nat} {b : Blk} (hi : i < s.length) (h' : i < (putC s i b).length) : (putC s i b)[i] = (s[i].1, some b) := by
  simp [putC, hi]
theorem settled_at {keep : Nat → Bool} {s : Secs} {i : Nat} (hi : i < s.length) (h' : i < (settled keep s).length) :
    (settled keep s)[i] = (if isP s i && keep (pendTo s i).length then (s[i].2.getD s[i].1, none) else (s[i].1, none)) := by
  have hlt : isP s i = true → (pendTo s i).length < (pend s).length := fun hp => by
    have := (pendTo_pre (s := s) (k := i + 1) (m := s.length) (by omega)).length_le
    rw [pendTo_succ_t hp] at this
    simp only [List.length_append, List.length_singleton] at this
    unfold pend; omega
  simp only [settled, setAfter, List.getElem_map, List.getElem_mapIdx]
  cases hp : isP s i with
  | false => simp
  | true =>
    have := hlt hp
    simp only [this, decide_true, Bool.true_and]
    cases keep (pendTo s i).length <;> simp
theorem says_settled {keep : Nat → Bool} {s : Secs} {i : Nat} (hi : i < s.length) (h' : i < (settled keep s).length) :
    says1 (settled keep s)[i] = if isP s i && keep (pendTo s i).length then says1 s[i] else s[i].1 := by
  rw [settled_at hi]
  split <;> simp [says1]
theorem pendTo_one {s : Secs} {i : Nat} {b c : Blk} (h : emptyC s) (hi : i < s.length) : pendTo (putC (putC s i b) i c) i = [] := by
  unfold pendTo
  rw [List.filter_eq_nil_iff]
  intro j hj
  simp only [List.mem_range] at hj
  rw [isP_putC (by rw [putC_length]; exact hi), isP_putC hi, isP_empty h]
  have : ¬ j = i := by omega
  simp [this]
theorem crash_says {keep : Nat → Bool} {s : Secs} {i : Nat} (hi : i < s.length) (hip : isP s i = true) (hpt : pendTo s i = []) (h' : i < (settled keep s).length) :
    says1 (settled keep s)[i] = if keep 0 then says1 s[i] else s[i].1 := by rw [says_settled hi, hip, hpt]; simp
theorem keep_case {ρ : Hp} {ka : Option Addr} {kn kp : Nat} {ks : List Bool} (h : KeepIn ρ ka kn kp ks) : (kn = 0 ∧ keepB (ks.take 60) 0 = false) ∨
    ∃ kb off C T fr f, ka = some ⟨kb, off, none⟩ ∧ ρ kb = some (.cells ⟨C⟩ T fr) ∧ 0 < kn ∧ C[off + (0 : Int).toNat * 1]? = some (.bool f) ∧ keepB (ks.take 60) 0 = f := by
  obtain ⟨h1, h2, h3, h4⟩ := h
  by_cases h0 : kn = 0
  · left
    have : ks = [] := List.length_eq_zero_iff.1 (by omega)
    exact ⟨h0, by subst this; rfl⟩
  · right
    obtain ⟨kb, off, C, T, fr, e1, e2, e3⟩ := h4.resolve_left h0
    cases ks with
    | nil => simp at h2; omega
    | cons f r =>
      refine ⟨kb, off, C, T, fr, f, e1, e2, by omega, ?_, by simp [keepB]⟩
      have := congrArg (fun l : List Value => l[0]?) e3
      simp only [List.map_cons, List.getElem?_cons_zero, bb] at this
      rw [List.getElem?_take_of_lt (by omega), List.getElem?_drop] at this
      simpa using this
theorem u8_succ (x : UInt8) : IntKind.u8.wrap ((x.toNat : Int) + 1) = ((x + 1 : UInt8).toNat : Int) := by
  have h : (x + 1 : UInt8).toNat = (x.toNat + 1) % 256 := by simp [UInt8.toNat_add]
  rw [h]
  simp [IntKind.wrap, IntKind.bits, IntKind.signed]
theorem fillB_len (f : UInt8) : (fillB f).length = 64 := by simp [fillB]
theorem crash_own (ρ : Hp) (b : Nat) (hb : HB) (mb : Nat) (es : List MapEntry) (ck : Nat) (D : DS) (hD : D.Ok) (hm : MapOk D.secs es) (a : Option Addr) (n cap : Nat) (ks : List Bool) (sp : List Value) (hn : n = ks.length) (h : OwnS (.slice a n cap) n (ks.map bb) sp 1) :
    Spec Try.prog 18 [.pointer (some ⟨b, 0, none⟩), .slice a n cap] ρ (diskL b hb mb es ck D ++ [ownC (.slice a n cap) (ks.map bb) sp 4])
      (fun v ρ' L' => v = .int .i64 0 ∧ ρ.le ρ' ∧ ∃ mb' ck', L' = diskL b hb mb' [] ck' (D.crash (keepB ks)) ++ [ownC (.slice a n cap) (ks.map bb) sp 4]) :=
  crash_spec ρ b hb mb es ck D hD hm a n cap [ownC (.slice a n cap) (ks.map bb) sp 4] (keepB ks) (fun bk nth _ => crash1_own ρ a n cap ks sp hn h bk nth)
end Go.Proofs.E

namespace Go.Proofs.E
open Go Go.RowKit Go.WideShapes
set_option linter.unusedVariables false
set_option linter.unusedSimpArgs false

/-! ## from a call's world to the symbolic heap, and back -/
def hpOf (w : World) : Hp := fun b => w.heap[b]?
theorem Sat.start (w : World) : Sat w (hpOf w) [] w := ⟨rfl, rfl, rfl, by simp, by simp, by simp, fun b o h => h⟩
theorem Sat.below {w w' : World} {ρ' : Hp} {L : SH} (h : Sat w ρ' L w') (hle : (hpOf w).le ρ') : Below w.heap.size w w' := by
  have old : ∀ k, k < w.heap.size → w'.heap[k]? = w.heap[k]? := fun k hk => by
    have : w.heap[k]? = some w.heap[k] := by simp [hk]
    rw [this]
    exact h.imm k _ (hle k _ this)
  refine ⟨h.os, h.tape, h.output, ?_, old⟩
  rcases Nat.eq_zero_or_pos w.heap.size with h0 | h0
  · omega
  · have := old (w.heap.size - 1) (by omega)
    have hs : w.heap[w.heap.size - 1]? = some w.heap[w.heap.size - 1] := by
      rw [Array.getElem?_eq_getElem (by omega)]
    rw [hs] at this
    have := (Array.getElem?_eq_some_iff.1 this).1
    omega
/-- a law that holds by its contract -/
theorem Spec.law {P : Program} {f : FuncId} {args : List Value} {W : World} (h : Spec P f args (hpOf W) [] (fun v ρ' L' => v = .bool true ∧ (hpOf W).le ρ' ∧ L' = [])) :
    Calls P f ⟨args⟩ W (fun e W' => e = .returned (.bool true) ∧ Below W.heap.size W W') := by
  refine callsIn_wide.1 ((h W [] W (by simpa using Sat.start W)).mono ?_)
  rintro e w' ⟨v, ρ', L', rfl, hle, hs, rfl, hle2, rfl⟩
  exact ⟨rfl, hs.below hle2⟩

/-! ## what came in, opened -/
theorem exists_list {α : Type} {P : Nat → α → Prop} : ∀ (n : Nat), (∀ i, i < n → ∃ a, P i a) → ∃ xs : List α, xs.length = n ∧ ∀ i (h : i < xs.length), P i xs[i]
  | 0, _ => ⟨[], rfl, fun i h => by simp at h⟩
  | n + 1, h => by
    obtain ⟨xs, h1, h2⟩ := exists_list n (fun i hi => h i (by omega))
    obtain ⟨a, ha⟩ := h n (by omega)
    refine ⟨xs ++ [a], by simp [h1], fun i hi => ?_⟩
    by_cases hlt : i < xs.length
    · rw [List.getElem_append_left hlt]; exact h2 i hlt
    · have : i = n := by simp at hi; omega
      subst this
      rw [List.getElem_append_right (by omega)]
      simpa using ha
theorem mapM_get {α β : Type} {f : α → Option β} : ∀ {l : List α} {ys : List β}, l.mapM f = some ys → ys.length = l.length ∧ ∀ i (h : i < l.length), f l[i] = ys[i]?
  | [], ys, h => by simp at h; subst h; simp
  | a :: r, ys, h => by
    simp only [List.mapM_cons, Option.bind_eq_bind, Option.bind_eq_some_iff] at h
    obtain ⟨b, hb, bs, hbs, hy⟩ := h
    have hy' : b :: bs = ys := by simpa using hy
    subst hy'
    obtain ⟨h1, h2⟩ := mapM_get hbs
    refine ⟨by simp [h1], fun i hi => ?_⟩
    cases i with
    | zero => simpa using hb
    | succ i => simpa using h2 i (by simpa using hi)
theorem cells_block {w : World} {a : Addr} {n : Nat} {cs : List Value} (h : w.cells? 0 a n = some cs) (hn : 0 < n) :
    ∃ b off C T fr, a = ⟨b, off, none⟩ ∧ w.heap[b]? = some (.cells ⟨C⟩ T fr) ∧ off + n ≤ C.length ∧ cs = (C.drop off).take n := by
  simp only [World.cells?, Nat.zero_le, if_true] at h
  obtain ⟨h1, h2⟩ := mapM_get h
  simp only [List.length_range, List.getElem_range] at h1 h2
  obtain ⟨b, off, spot⟩ := a
  have hc0 := h2 0 hn
  have e0 : (Addr.mk b off spot).add 0 = ⟨b, off, spot⟩ := by simp [Addr.add]
  rw [e0, List.getElem?_eq_getElem (by omega)] at hc0
  have hs : spot = none := World.cell?_spot hc0
  subst hs
  have hb : ∃ C T fr, w.heap[b]? = some (.cells C T fr) := by
    unfold World.cell? at hc0
    split at hc0
    · rename_i c T fr hb; exact ⟨c, T, fr, hb⟩
    · cases hc0
  obtain ⟨⟨C⟩, T, fr, hb⟩ := hb
  have cell : ∀ i, i < n → C[off + i]? = cs[i]? := fun i hi => by
    have := h2 i hi
    rw [addr_add] at this
    simp only [World.cell?, hb, Option.isSome_none, Bool.false_eq_true, if_false] at this
    simpa using this
  have hlen : off + n ≤ C.length := by
    have := cell (n - 1) (by omega)
    rw [List.getElem?_eq_getElem (show n - 1 < cs.length by omega)] at this
    have := (List.getElem?_eq_some_iff.1 this).1
    omega
  refine ⟨b, off, C, T, fr, rfl, hb, hlen, ?_⟩
  apply List.ext_getElem?
  intro i
  by_cases hi : i < n
  · rw [List.getElem?_take_of_lt hi, List.getElem?_drop, cell i hi]
  · rw [List.getElem?_eq_none (by omega), List.getElem?_eq_none (by simp; omega)]

section
variable {H : Type} {enc : TypeId × Value → H} {P : Program} {w : World}
/-- a reading of type `t` tells a datum -/
def Opn (enc : TypeId × Value → H) (P : Program) (w : World) (t : TypeId) {α : Type} (R : List Value → α → Prop) : Prop :=
  ∀ fuel cs x, DataW.trod enc P w 0 (fun _ => true) true fuel t cs = some x → ∃ a, R cs a
def RI (k : IntKind) (cs : List Value) (n : Int) : Prop := cs = [.int k n] ∧ lo k ≤ n ∧ n ≤ hi k
def RB (cs : List Value) (b : Bool) : Prop := cs = [.bool b]
theorem wf_bounds {k : IntKind} {n : Int} (h : (Lit.int k n).wf = true) : lo k ≤ n ∧ n ≤ hi k := by
  cases k <;> simp [Lit.wf, IntKind.min, IntKind.max, IntKind.signed, IntKind.bits, lo, hi] at h ⊢ <;> omega
theorem opn_int {t : TypeId} {k : IntKind} (ht : P.underlying t = some (.int k)) : Opn enc P w t (RI k) := fun fuel cs x h => by
  obtain ⟨m, rfl, rfl, hw⟩ := DataW.trod_int ht h
  exact ⟨m, rfl, wf_bounds hw⟩
theorem opn_bool {t : TypeId} (ht : P.underlying t = some .bool) : Opn enc P w t RB := fun fuel cs x h => by
  cases fuel with
  | zero => simp [DataW.trod] at h
  | succ n =>
    unfold DataW.trod at h
    rw [ht] at h
    split at h <;> simp_all [RB]
/-- a slice that came in: its address, length and capacity, and what its elements are -/
structure RS (ρ : Hp) (sz : Nat) {α : Type} (R : List Value → α → Prop) (cs : List Value) (s : Option Addr × Nat × Nat × List α) : Prop where
  cells : cs = [.slice s.1 s.2.1 s.2.2.1]
  le : s.2.1 ≤ s.2.2.1
  big : s.2.2.1 ≤ 9223372036854775807
  len : s.2.2.2.length = s.2.1
  at' : ∀ i (h : i < s.2.2.2.length), ∃ b off C T fr, s.1 = some ⟨b, off, none⟩ ∧ ρ b = some (.cells ⟨C⟩ T fr) ∧ off + i * sz + sz ≤ C.length ∧ R ((C.drop (off + i * sz)).take sz) s.2.2.2[i]
theorem opn_slice {t e : TypeId} {sz : Nat} {α : Type} {R : List Value → α → Prop} (ht : P.underlying t = some (.slice e)) (hsz : P.cellsOf e = sz) (h0 : 0 < sz) (hR : Opn enc P w e R) : Opn enc P w t (RS (hpOf w) sz R) := fun fuel cs x h => by
  subst hsz
  rcases DataW.trod_slice ht h with ⟨rfl, _⟩ | ⟨a, len, cap, elems, rest, n, _, rfl, _, _, hl, hm, hlen, hel, _, _⟩
  · exact ⟨(none, 0, 0, []), rfl, Nat.le_refl _, by simp, rfl, fun i h => by simp at h⟩
  have each : ∀ i, i < len → ∃ y : α, ∃ b off C T fr, a = ⟨b, off, none⟩ ∧ w.heap[b]? = some (.cells ⟨C⟩ T fr) ∧ off + i * P.cellsOf e + P.cellsOf e ≤ C.length ∧ R ((C.drop (off + i * P.cellsOf e)).take (P.cellsOf e)) y := by
    have spot : 0 < len → a.spot = none := fun hp => by
      have hi := hel 0 hp
      rw [List.getElem?_eq_getElem (by omega), Option.bind_eq_some_iff] at hi
      obtain ⟨cs', hcs, _⟩ := hi
      obtain ⟨b, off, C, T, fr, ha, _⟩ := cells_block hcs h0
      have e0 : a.add (0 * P.cellsOf e) = a := by simp [Addr.add]
      rw [e0] at ha
      rw [ha]
    intro i hi
    have hs := spot (by omega)
    obtain ⟨b, off, sp⟩ := a
    simp only at hs
    subst hs
    have hi' := hel i hi
    rw [List.getElem?_eq_getElem (by omega), Option.bind_eq_some_iff] at hi'
    obtain ⟨cs', hcs, htr⟩ := hi'
    rw [addr_add] at hcs
    obtain ⟨b', off', C, T, fr, ha, hb, hfit, rfl⟩ := cells_block hcs h0
    cases ha
    obtain ⟨y, hy⟩ := hR _ _ _ htr
    exact ⟨y, _, _, C, T, fr, rfl, hb, hfit, hy⟩
  obtain ⟨xs, h1, h2⟩ := exists_list len each
  refine ⟨(some a, len, cap, xs), rfl, hl, by simpa [maxLen] using hm, h1, fun i hi => ?_⟩
  obtain ⟨b, off, C, T, fr, e1, e2, e3, e4⟩ := h2 i hi
  exact ⟨b, off, C, T, fr, by rw [e1], e2, e3, e4⟩
/-- the fields of a struct that came in -/
theorem opn_fields {t : TypeId} {fs : Array Field} {fuel : Nat} {cs : List Value} {x : DataW H × List MemPlace} (ht : P.underlying t = some (.struct fs)) (h : DataW.trod enc P w 0 (fun _ => true) true fuel t cs = some x) :
    cs.length = P.cellsOf t ∧ ∀ (i : Nat) (f : Field), fs[i]? = some f → ∀ {α : Type} {R : List Value → α → Prop}, Opn enc P w f.type R → ∃ a, R ((cs.drop f.offset).take (P.cellsOf f.type)) a := by
  obtain ⟨xs, n, _, _, hl, hlen, hf⟩ := DataW.trod_struct ht h
  refine ⟨hl, fun i f hi α R hR => ?_⟩
  have := hf i f hi
  have hlt : i < fs.size := (Array.getElem?_eq_some_iff.1 hi).1
  rw [List.getElem?_eq_getElem (by omega)] at this
  exact hR _ _ _ this
theorem opn_field {t : TypeId} {fs : Array Field} {fuel : Nat} {cs : List Value} {x : DataW H × List MemPlace} (h : DataW.trod enc P w 0 (fun _ => true) true fuel t cs = some x) (ht : P.underlying t = some (.struct fs)) (i o n : Nat) {f : Field} {T : TypeId}
    (hi : fs[i]? = some f) (ho : f.offset = o) (hT : f.type = T) (hn : P.cellsOf T = n) {α : Type} {R : List Value → α → Prop} (hR : Opn enc P w T R) : ∃ a, R ((cs.drop o).take n) a := by
  subst ho; subst hn; subst hT
  exact (opn_fields ht h).2 i f hi hR
/-- how long a slice that came in may be -/
theorem top_slice {ts : List TypeId} {ds : List (DataW H)} {t e : TypeId} {j : Nat} {v : Value} {d : DataW H} {p : List MemPlace} {a : Option Addr} {n c : Nat} (hsz : (DataW.weightsEach P ts ds).all (· ≤ reachBytes) = true)
    (ht : ts[j]? = some t) (hd : ds[j]? = some d) (hu : P.underlying t = some (.slice e)) (h : DataW.Trod enc P w 0 (fun _ => true) true t v d p) (hv : v = .slice a n c) : n * P.bytesOf e ≤ reachBytes := by
  obtain ⟨fuel, h⟩ := h
  subst hv
  rcases DataW.trod_slice hu h with ⟨h1, _⟩ | ⟨a, len, cap, elems, rest, m, _, h1, h2, _, hl, hm, hlen, _⟩
  · simp [Value.cells] at h1; simp [h1]
  · simp only [Value.cells] at h1
    have h1' : n = len := by simp at h1; exact h1.2.1
    have h2' := congrArg Prod.fst h2
    simp only at h2'
    have := sized_slice hsz ht (by rw [hd, h2']) hu
    refine Nat.le_trans (Nat.mul_le_mul_right _ ?_) this
    simp; omega
end
end Go.Proofs.E

