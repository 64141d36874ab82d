/- The law LogRoom. Part 13 of 16. -/
import Derived.Test.YtopfmlbnibfcgaaGreatA12
namespace Go.Proofs.E
open Go
set_option linter.unusedVariables false
set_option linter.unusedSimpArgs false
set_option linter.unusedSectionVars false
set_option maxRecDepth 4000
set_option maxHeartbeats 1000000
attribute [local irreducible] Yl TL TC TE Spec ZN R1 Hp.le EnvLe TS TR YS Zp
abbrev StpFt (_ : Hp) (x : Stp) : Prop := Xs x.row
abbrev AnyF {α : Type} (_ : Hp) (_ : α) : Prop := True
theorem rmanyIm_spec (ρ : Hp) (tb br cb : Nat) (v : RV) (r : Rc) (s : ZX) {a n c ra rn rc Rs} (h : RdAt ρ a n c ra rn rc Rs s) :
  Spec Tryz.prog 191 [.pointer (some ⟨tb, 0, none⟩), .func (.func 192) ⟨[]⟩ ⟨[.pointer (some ⟨cb, 0, none⟩)]⟩] ρ (cbC cb tb :: rdL tb br a n c ra rn rc v r s)
   (fun z ρ' L' => ρ.le ρ' ∧ ∃ (sa : Option Addr) (sn sc : Nat) (acc : List Im) (a' : Option Addr) (n' c' : Nat), z = .slice sa sn sc ∧ sn ≤ sc ∧ sn ≤ 255 ∧ AIn ρ' 7 imV sa sn acc ∧ (∀ x ∈ acc, Im.In ρ' x) ∧ acc.map Im.plain = (Ys (imD (decide (r.kind = 2))) s).1 ∧ RdAt ρ' a' n' c' ra rn rc Rs (Ys (imD (decide (r.kind = 2))) s).2 ∧ L' = cbC cb tb :: rdL tb br a' n' c' ra rn rc v r (Ys (imD (decide (r.kind = 2))) s).2) := by
 have h8 := n8_spec ρ br h
 have hlt0 := XI 1 s
 generalize hq : Ys (imD (decide (r.kind = 2))) s = q
 unfold Ys at hq
 rw [show rdL tb br a n c ra rn rc v r s = [reC tb br ra rn rc v r (rdN 1 s).2.2.2, rdC br a n c s.2.1] from rfl]
 generalize rdN 1 s = p at *
 obtain ⟨x1, s1⟩ := p
 dsimp only at h8 hlt0 hq ⊢
 refine Za Tryz.func191 rfl rfl rfl fun u R => ?_
 simp only [Zf, kA]
 repeat' (first | (refine Zb (.func 140) ?_; refine qC rfl rfl (h8) ?_; rintro v ρ' L' hle ⟨rfl, rfl, a1, n1, c1, h1, rfl⟩ <;> (try simp only [kA])) | refine zV ?_ | intro _)
 refine Zm [(0, _), (1, _), (4, _), (6, _)] (fun (ζ : (Nat) × (Hp) × (Value) × (List Value) × (List Im) × (Option Addr) × (Nat) × (Nat) × (ZX)) => [(7, .int .i64 ζ.1), (5, ζ.2.2.1)]) (fun (ζ : (Nat) × (Hp) × (Value) × (List Value) × (List Im) × (Option Addr) × (Nat) × (Nat) × (ZX)) => ζ.2.1) (fun (ζ : (Nat) × (Hp) × (Value) × (List Value) × (List Im) × (Option Addr) × (Nat) × (Nat) × (ZX)) => [Zw ζ.2.2.1 ((ζ.2.2.2.2.1.map imV).flatten) ζ.2.2.2.1 125, cbC cb tb, reC tb br ra rn rc v r ζ.2.2.2.2.2.2.2.2.2.2, rdC br ζ.2.2.2.2.2.1 ζ.2.2.2.2.2.2.1 ζ.2.2.2.2.2.2.2.1 ζ.2.2.2.2.2.2.2.2.2.1]) (fun (ζ : (Nat) × (Hp) × (Value) × (List Value) × (List Im) × (Option Addr) × (Nat) × (Nat) × (ZX)) => ζ.1 ≤ x1 ∧ ρ'.le ζ.2.1 ∧ OwnS ζ.2.2.1 ζ.1 ((ζ.2.2.2.2.1.map imV).flatten) ζ.2.2.2.1 7 ∧ ζ.2.2.2.2.1.length = ζ.1 ∧ RdAt ζ.2.1 ζ.2.2.2.2.2.1 ζ.2.2.2.2.2.2.1 ζ.2.2.2.2.2.2.2.1 ra rn rc Rs ζ.2.2.2.2.2.2.2.2 ∧ (∀ x ∈ ζ.2.2.2.2.1, Im.In ζ.2.1 x) ∧ q = (ζ.2.2.2.2.1.map Im.plain ++ (YR (imD (decide (r.kind = 2))) (x1 - ζ.1) ζ.2.2.2.2.2.2.2.2).1, (YR (imD (decide (r.kind = 2))) (x1 - ζ.1) ζ.2.2.2.2.2.2.2.2).2)) (fun (ζ : (Nat) × (Hp) × (Value) × (List Value) × (List Im) × (Option Addr) × (Nat) × (Nat) × (ZX)) => x1 - ζ.1) ((0, ρ', .slice none 0 0, [], [], a1, n1, c1, s1)) (⟨Nat.zero_le _, Hp.le_refl _, OwnS.nil 7, rfl, h1, by simp, by simp [← hq]⟩) Zc Zc rfl tk ?_
 rintro ⟨i, ρ1, vv, sp, acc, a2, n2, c2, s2⟩ hI
 try simp only [kA, List.append_assoc] at hI ⊢
 try dsimp only at hI ⊢
 obtain ⟨hi, hle1, hown, hal, h2, hP, hq2⟩ := hI
 obtain ⟨va, vc, rfl, _⟩ := hown.slice
 have hg : ∀ x ∈ acc, (imV x).length = 7 := fun x _ => rfl
 have hok := rok_spec ρ1 tb br a2 n2 c2 ra rn rc v r s2
 by_cases hlt : i < x1
 ·cases ho : okS s2
  ·have hm0 : YR (imD (decide (r.kind = 2))) (x1 - i) s2 = ([], s2) := by
    rw [show x1 - i = (x1 - (i + 1)) + 1 by omega, YR, ho]; rfl
   rw [hm0] at hq2
   simp only [List.append_nil] at hq2
   rw [ho] at hok
   subst hq2
   repeat' (first | (refine Zb (.func 148) ?_; refine qC rfl rfl (hok) ?_; rintro v ρ' L' hle ⟨rfl, rfl, rfl⟩ <;> (try simp only [kA])) | refine zV ?_ | intro _)
   refine Yb (Zw (.slice va i vc) ((acc.map imV).flatten) sp 125) (fun ρ3 hle3 hfz => ?_)
   obtain ⟨sa, sc, e1, hsc, hA⟩ := hown.aIn hal hg hfz
   cases e1
   exact qE ⟨Hp.le_trans hle1 hle3, _, _, _, acc, a2, n2, c2, rfl, hsc, by omega, hA, (fun x hx => (hP x hx).mono hle3), rfl, h2.mono hle3, rfl⟩
  ·rw [show x1 - i = (x1 - (i + 1)) + 1 by omega, YR, if_pos ho] at hq2
   rw [ho] at hok
   have hrow := fun ρ (h : RdAt ρ a2 n2 c2 ra rn rc Rs s2) => rchange1_spec ρ tb br cb v r s2 h
   skip
   generalize (imD (decide (r.kind = 2))) s2 = y at *
   obtain ⟨x, s3⟩ := y
   dsimp only at hq2 hrow
   repeat' (first | (refine Zb (.func 148) ?_; refine qC rfl rfl (hok) ?_; rintro v ρ' L' hle ⟨rfl, rfl, rfl⟩ <;> (try simp only [kA])) | (refine Zb (.tmp 24) ?_; refine qC rfl rfl (hrow _ h2) ?_; rintro v ρ' L' hle ⟨hle3, y, a3, n3, c3, rfl, hxi, hxp, h3, rfl⟩ <;> (try simp only [kA])) | refine zV ?_ | intro _)
   refine Yz (css := [imV y]) (sz := 7) rfl rfl rfl rfl (by simp) (by simp) rfl (fun bs => ?_)
   simp only [List.flatten_cons, List.flatten_nil, List.append_nil]
   refine Yk (ys := imV y) (m := 1) rfl rfl hown (hR := by infer_instance) (SrcV.lit) rfl rfl (by decide) rfl (by omega) (by omega) rfl (fun v' sp' hown' => ?_)
   have hm : (acc.map imV).flatten ++ imV y = ((acc ++ [y]).map imV).flatten := by simp
   rw [hm] at hown' ⊢
   repeat' (first | refine zV ?_ | intro _)
   have hPn : ∀ z ∈ acc ++ [y], Im.In ρ' z := fun z hz => by
    rcases List.mem_append.1 hz with hz | hz
    ·exact (hP z hz).mono hle3
    ·rw [List.mem_singleton.1 hz]; exact hxi
   refine Zi (i + 1, _, v', sp', acc ++ [y], a3, n3, c3, s3) (⟨hlt, Hp.le_trans hle1 hle3, hown', by simp [hal], h3, hPn, by rw [hq2]; simp [hxp]⟩) Zc Zc rfl tk inferInstance (by first | omega | (dsimp only; omega))
 ·have hi2 : i = x1 := by omega
  subst hi2
  rw [Nat.sub_self, YR] at hq2
  simp only [List.append_nil] at hq2
  subst hq2
  repeat' (first | refine zV ?_ | intro _)
  refine Yb (Zw (.slice va i vc) ((acc.map imV).flatten) sp 125) (fun ρ3 hle3 hfz => ?_)
  obtain ⟨sa, sc, e1, hsc, hA⟩ := hown.aIn hal hg hfz
  cases e1
  exact qE ⟨Hp.le_trans hle1 hle3, _, _, _, acc, a2, n2, c2, rfl, hsc, by omega, hA, (fun x hx => (hP x hx).mono hle3), rfl, h2.mono hle3, rfl⟩
theorem rmanyStp_spec (ρ : Hp) (tb br cb : Nat) (v : RV) (r : Rc) (s : ZX) {a n c ra rn rc Rs} (h : RdAt ρ a n c ra rn rc Rs s) :
  Spec Tryz.prog 195 [.pointer (some ⟨tb, 0, none⟩), .func (.func 196) ⟨[]⟩ ⟨[.pointer (some ⟨cb, 0, none⟩)]⟩] ρ (cbC cb tb :: rdL tb br a n c ra rn rc v r s)
   (fun z ρ' L' => ρ.le ρ' ∧ ∃ (sa : Option Addr) (sn sc : Nat) (acc : List Stp) (a' : Option Addr) (n' c' : Nat), z = .slice sa sn sc ∧ sn ≤ sc ∧ sn ≤ 255 ∧ AIn ρ' 6 YQ sa sn acc ∧ (∀ x ∈ acc, StpFt ρ' x) ∧ acc = (Ys stpD s).1 ∧ RdAt ρ' a' n' c' ra rn rc Rs (Ys stpD s).2 ∧ L' = cbC cb tb :: rdL tb br a' n' c' ra rn rc v r (Ys stpD s).2) := by
 have h8 := n8_spec ρ br h
 have hlt0 := XI 1 s
 generalize hq : Ys stpD s = q
 unfold Ys at hq
 rw [show rdL tb br a n c ra rn rc v r s = [reC tb br ra rn rc v r (rdN 1 s).2.2.2, rdC br a n c s.2.1] from rfl]
 generalize rdN 1 s = p at *
 obtain ⟨x1, s1⟩ := p
 dsimp only at h8 hlt0 hq ⊢
 refine Za Tryz.func195 rfl rfl rfl fun u R => ?_
 simp only [Zf, kA]
 repeat' (first | (refine Zb (.func 140) ?_; refine qC rfl rfl (h8) ?_; rintro v ρ' L' hle ⟨rfl, rfl, a1, n1, c1, h1, rfl⟩ <;> (try simp only [kA])) | refine zV ?_ | intro _)
 refine Zm [(0, _), (1, _), (4, _), (6, _)] (fun (ζ : (Nat) × (Hp) × (Value) × (List Value) × (List Stp) × (Option Addr) × (Nat) × (Nat) × (ZX)) => [(7, .int .i64 ζ.1), (5, ζ.2.2.1)]) (fun (ζ : (Nat) × (Hp) × (Value) × (List Value) × (List Stp) × (Option Addr) × (Nat) × (Nat) × (ZX)) => ζ.2.1) (fun (ζ : (Nat) × (Hp) × (Value) × (List Value) × (List Stp) × (Option Addr) × (Nat) × (Nat) × (ZX)) => [Zw ζ.2.2.1 ((ζ.2.2.2.2.1.map YQ).flatten) ζ.2.2.2.1 133, cbC cb tb, reC tb br ra rn rc v r ζ.2.2.2.2.2.2.2.2.2.2, rdC br ζ.2.2.2.2.2.1 ζ.2.2.2.2.2.2.1 ζ.2.2.2.2.2.2.2.1 ζ.2.2.2.2.2.2.2.2.2.1]) (fun (ζ : (Nat) × (Hp) × (Value) × (List Value) × (List Stp) × (Option Addr) × (Nat) × (Nat) × (ZX)) => ζ.1 ≤ x1 ∧ ρ'.le ζ.2.1 ∧ OwnS ζ.2.2.1 ζ.1 ((ζ.2.2.2.2.1.map YQ).flatten) ζ.2.2.2.1 6 ∧ ζ.2.2.2.2.1.length = ζ.1 ∧ RdAt ζ.2.1 ζ.2.2.2.2.2.1 ζ.2.2.2.2.2.2.1 ζ.2.2.2.2.2.2.2.1 ra rn rc Rs ζ.2.2.2.2.2.2.2.2 ∧ (∀ x ∈ ζ.2.2.2.2.1, StpFt ζ.2.1 x) ∧ q = (ζ.2.2.2.2.1 ++ (YR stpD (x1 - ζ.1) ζ.2.2.2.2.2.2.2.2).1, (YR stpD (x1 - ζ.1) ζ.2.2.2.2.2.2.2.2).2)) (fun (ζ : (Nat) × (Hp) × (Value) × (List Value) × (List Stp) × (Option Addr) × (Nat) × (Nat) × (ZX)) => x1 - ζ.1) ((0, ρ', .slice none 0 0, [], [], a1, n1, c1, s1)) (⟨Nat.zero_le _, Hp.le_refl _, OwnS.nil 6, rfl, h1, by simp, by simp [← hq]⟩) Zc Zc rfl tk ?_
 rintro ⟨i, ρ1, vv, sp, acc, a2, n2, c2, s2⟩ hI
 try simp only [kA, List.append_assoc] at hI ⊢
 try dsimp only at hI ⊢
 obtain ⟨hi, hle1, hown, hal, h2, hP, hq2⟩ := hI
 obtain ⟨va, vc, rfl, _⟩ := hown.slice
 have hg : ∀ x ∈ acc, (YQ x).length = 6 := fun x _ => rfl
 have hok := rok_spec ρ1 tb br a2 n2 c2 ra rn rc v r s2
 by_cases hlt : i < x1
 ·cases ho : okS s2
  ·have hm0 : YR stpD (x1 - i) s2 = ([], s2) := by
    rw [show x1 - i = (x1 - (i + 1)) + 1 by omega, YR, ho]; rfl
   rw [hm0] at hq2
   simp only [List.append_nil] at hq2
   rw [ho] at hok
   subst hq2
   repeat' (first | (refine Zb (.func 148) ?_; refine qC rfl rfl (hok) ?_; rintro v ρ' L' hle ⟨rfl, rfl, rfl⟩ <;> (try simp only [kA])) | refine zV ?_ | intro _)
   refine Yb (Zw (.slice va i vc) ((acc.map YQ).flatten) sp 133) (fun ρ3 hle3 hfz => ?_)
   obtain ⟨sa, sc, e1, hsc, hA⟩ := hown.aIn hal hg hfz
   cases e1
   exact qE ⟨Hp.le_trans hle1 hle3, _, _, _, acc, a2, n2, c2, rfl, hsc, by omega, hA, hP, rfl, h2.mono hle3, rfl⟩
  ·rw [show x1 - i = (x1 - (i + 1)) + 1 by omega, YR, if_pos ho] at hq2
   rw [ho] at hok
   have hrow := fun ρ (h : RdAt ρ a2 n2 c2 ra rn rc Rs s2) => rdone1_spec ρ tb br cb v r s2 h
   skip
   generalize stpD s2 = y at *
   obtain ⟨x, s3⟩ := y
   dsimp only at hq2 hrow
   repeat' (first | (refine Zb (.func 148) ?_; refine qC rfl rfl (hok) ?_; rintro v ρ' L' hle ⟨rfl, rfl, rfl⟩ <;> (try simp only [kA])) | (refine Zb (.tmp 24) ?_; refine qC rfl rfl (hrow _ h2) ?_; rintro v ρ' L' hle ⟨hle3, rfl, hxi, a3, n3, c3, h3, rfl⟩ <;> (try simp only [kA])) | refine zV ?_ | intro _)
   refine Yz (css := [YQ x]) (sz := 6) rfl rfl rfl rfl (by simp) (by simp) rfl (fun bs => ?_)
   simp only [List.flatten_cons, List.flatten_nil, List.append_nil]
   refine Yk (ys := YQ x) (m := 1) rfl rfl hown (hR := by infer_instance) (SrcV.lit) rfl rfl (by decide) rfl (by omega) (by omega) rfl (fun v' sp' hown' => ?_)
   have hm : (acc.map YQ).flatten ++ YQ x = ((acc ++ [x]).map YQ).flatten := by simp
   rw [hm] at hown' ⊢
   repeat' (first | refine zV ?_ | intro _)
   have hPn : ∀ z ∈ acc ++ [x], StpFt ρ' z := fun z hz => by
    rcases List.mem_append.1 hz with hz | hz
    ·exact hP z hz
    ·rw [List.mem_singleton.1 hz]; exact hxi
   refine Zi (i + 1, _, v', sp', acc ++ [x], a3, n3, c3, s3) (⟨hlt, Hp.le_trans hle1 hle3, hown', by simp [hal], h3, hPn, by rw [hq2]; simp⟩) Zc Zc rfl tk inferInstance (by first | omega | (dsimp only; omega))
 ·have hi2 : i = x1 := by omega
  subst hi2
  rw [Nat.sub_self, YR] at hq2
  simp only [List.append_nil] at hq2
  subst hq2
  repeat' (first | refine zV ?_ | intro _)
  refine Yb (Zw (.slice va i vc) ((acc.map YQ).flatten) sp 133) (fun ρ3 hle3 hfz => ?_)
  obtain ⟨sa, sc, e1, hsc, hA⟩ := hown.aIn hal hg hfz
  cases e1
  exact qE ⟨Hp.le_trans hle1 hle3, _, _, _, acc, a2, n2, c2, rfl, hsc, by omega, hA, hP, rfl, h2.mono hle3, rfl⟩
theorem rmanyCkT_spec (ρ : Hp) (tb br cb : Nat) (v : RV) (r : Rc) (s : ZX) {a n c ra rn rc Rs} (h : RdAt ρ a n c ra rn rc Rs s) :
  Spec Tryz.prog 200 [.pointer (some ⟨tb, 0, none⟩), .func (.func 201) ⟨[]⟩ ⟨[.pointer (some ⟨cb, 0, none⟩)]⟩] ρ (cbC cb tb :: rdL tb br a n c ra rn rc v r s)
   (fun z ρ' L' => ρ.le ρ' ∧ ∃ (sa : Option Addr) (sn sc : Nat) (acc : List CkT) (a' : Option Addr) (n' c' : Nat), z = .slice sa sn sc ∧ sn ≤ sc ∧ sn ≤ 255 ∧ AIn ρ' 5 YB sa sn acc ∧ (∀ x ∈ acc, AnyF ρ' x) ∧ acc = (Ys ckTD s).1 ∧ RdAt ρ' a' n' c' ra rn rc Rs (Ys ckTD s).2 ∧ L' = cbC cb tb :: rdL tb br a' n' c' ra rn rc v r (Ys ckTD s).2) := by
 have h8 := n8_spec ρ br h
 have hlt0 := XI 1 s
 generalize hq : Ys ckTD s = q
 unfold Ys at hq
 rw [show rdL tb br a n c ra rn rc v r s = [reC tb br ra rn rc v r (rdN 1 s).2.2.2, rdC br a n c s.2.1] from rfl]
 generalize rdN 1 s = p at *
 obtain ⟨x1, s1⟩ := p
 dsimp only at h8 hlt0 hq ⊢
 refine Za Tryz.func200 rfl rfl rfl fun u R => ?_
 simp only [Zf, kA]
 repeat' (first | (refine Zb (.func 140) ?_; refine qC rfl rfl (h8) ?_; rintro v ρ' L' hle ⟨rfl, rfl, a1, n1, c1, h1, rfl⟩ <;> (try simp only [kA])) | refine zV ?_ | intro _)
 refine Zm [(0, _), (1, _), (4, _), (6, _)] (fun (ζ : (Nat) × (Hp) × (Value) × (List Value) × (List CkT) × (Option Addr) × (Nat) × (Nat) × (ZX)) => [(7, .int .i64 ζ.1), (5, ζ.2.2.1)]) (fun (ζ : (Nat) × (Hp) × (Value) × (List Value) × (List CkT) × (Option Addr) × (Nat) × (Nat) × (ZX)) => ζ.2.1) (fun (ζ : (Nat) × (Hp) × (Value) × (List Value) × (List CkT) × (Option Addr) × (Nat) × (Nat) × (ZX)) => [Zw ζ.2.2.1 ((ζ.2.2.2.2.1.map YB).flatten) ζ.2.2.2.1 147, cbC cb tb, reC tb br ra rn rc v r ζ.2.2.2.2.2.2.2.2.2.2, rdC br ζ.2.2.2.2.2.1 ζ.2.2.2.2.2.2.1 ζ.2.2.2.2.2.2.2.1 ζ.2.2.2.2.2.2.2.2.2.1]) (fun (ζ : (Nat) × (Hp) × (Value) × (List Value) × (List CkT) × (Option Addr) × (Nat) × (Nat) × (ZX)) => ζ.1 ≤ x1 ∧ ρ'.le ζ.2.1 ∧ OwnS ζ.2.2.1 ζ.1 ((ζ.2.2.2.2.1.map YB).flatten) ζ.2.2.2.1 5 ∧ ζ.2.2.2.2.1.length = ζ.1 ∧ RdAt ζ.2.1 ζ.2.2.2.2.2.1 ζ.2.2.2.2.2.2.1 ζ.2.2.2.2.2.2.2.1 ra rn rc Rs ζ.2.2.2.2.2.2.2.2 ∧ (∀ x ∈ ζ.2.2.2.2.1, AnyF ζ.2.1 x) ∧ q = (ζ.2.2.2.2.1 ++ (YR ckTD (x1 - ζ.1) ζ.2.2.2.2.2.2.2.2).1, (YR ckTD (x1 - ζ.1) ζ.2.2.2.2.2.2.2.2).2)) (fun (ζ : (Nat) × (Hp) × (Value) × (List Value) × (List CkT) × (Option Addr) × (Nat) × (Nat) × (ZX)) => x1 - ζ.1) ((0, ρ', .slice none 0 0, [], [], a1, n1, c1, s1)) (⟨Nat.zero_le _, Hp.le_refl _, OwnS.nil 5, rfl, h1, by simp, by simp [← hq]⟩) Zc Zc rfl tk ?_
 rintro ⟨i, ρ1, vv, sp, acc, a2, n2, c2, s2⟩ hI
 try simp only [kA, List.append_assoc] at hI ⊢
 try dsimp only at hI ⊢
 obtain ⟨hi, hle1, hown, hal, h2, hP, hq2⟩ := hI
 obtain ⟨va, vc, rfl, _⟩ := hown.slice
 have hg : ∀ x ∈ acc, (YB x).length = 5 := fun x _ => rfl
 have hok := rok_spec ρ1 tb br a2 n2 c2 ra rn rc v r s2
 by_cases hlt : i < x1
 ·cases ho : okS s2
  ·have hm0 : YR ckTD (x1 - i) s2 = ([], s2) := by
    rw [show x1 - i = (x1 - (i + 1)) + 1 by omega, YR, ho]; rfl
   rw [hm0] at hq2
   simp only [List.append_nil] at hq2
   rw [ho] at hok
   subst hq2
   repeat' (first | (refine Zb (.func 148) ?_; refine qC rfl rfl (hok) ?_; rintro v ρ' L' hle ⟨rfl, rfl, rfl⟩ <;> (try simp only [kA])) | refine zV ?_ | intro _)
   refine Yb (Zw (.slice va i vc) ((acc.map YB).flatten) sp 147) (fun ρ3 hle3 hfz => ?_)
   obtain ⟨sa, sc, e1, hsc, hA⟩ := hown.aIn hal hg hfz
   cases e1
   exact qE ⟨Hp.le_trans hle1 hle3, _, _, _, acc, a2, n2, c2, rfl, hsc, by omega, hA, hP, rfl, h2.mono hle3, rfl⟩
  ·rw [show x1 - i = (x1 - (i + 1)) + 1 by omega, YR, if_pos ho] at hq2
   rw [ho] at hok
   have hrow := fun ρ (h : RdAt ρ a2 n2 c2 ra rn rc Rs s2) => rckpt1_spec ρ tb br cb v r s2 h
   skip
   generalize ckTD s2 = y at *
   obtain ⟨x, s3⟩ := y
   dsimp only at hq2 hrow
   repeat' (first | (refine Zb (.func 148) ?_; refine qC rfl rfl (hok) ?_; rintro v ρ' L' hle ⟨rfl, rfl, rfl⟩ <;> (try simp only [kA])) | (refine Zb (.tmp 24) ?_; refine qC rfl rfl (hrow _ h2) ?_; rintro v ρ' L' hle ⟨hle3, rfl, hxi, a3, n3, c3, h3, rfl⟩ <;> (try simp only [kA])) | refine zV ?_ | intro _)
   refine Yz (css := [YB x]) (sz := 5) rfl rfl rfl rfl (by simp) (by simp) rfl (fun bs => ?_)
   simp only [List.flatten_cons, List.flatten_nil, List.append_nil]
   refine Yk (ys := YB x) (m := 1) rfl rfl hown (hR := by infer_instance) (SrcV.lit) rfl rfl (by decide) rfl (by omega) (by omega) rfl (fun v' sp' hown' => ?_)
   have hm : (acc.map YB).flatten ++ YB x = ((acc ++ [x]).map YB).flatten := by simp
   rw [hm] at hown' ⊢
   repeat' (first | refine zV ?_ | intro _)
   have hPn : ∀ z ∈ acc ++ [x], AnyF ρ' z := fun z hz => by
    rcases List.mem_append.1 hz with hz | hz
    ·exact hP z hz
    ·rw [List.mem_singleton.1 hz]; exact hxi
   refine Zi (i + 1, _, v', sp', acc ++ [x], a3, n3, c3, s3) (⟨hlt, Hp.le_trans hle1 hle3, hown', by simp [hal], h3, hPn, by rw [hq2]; simp⟩) Zc Zc rfl tk inferInstance (by first | omega | (dsimp only; omega))
 ·have hi2 : i = x1 := by omega
  subst hi2
  rw [Nat.sub_self, YR] at hq2
  simp only [List.append_nil] at hq2
  subst hq2
  repeat' (first | refine zV ?_ | intro _)
  refine Yb (Zw (.slice va i vc) ((acc.map YB).flatten) sp 147) (fun ρ3 hle3 hfz => ?_)
  obtain ⟨sa, sc, e1, hsc, hA⟩ := hown.aIn hal hg hfz
  cases e1
  exact qE ⟨Hp.le_trans hle1 hle3, _, _, _, acc, a2, n2, c2, rfl, hsc, by omega, hA, hP, rfl, h2.mono hle3, rfl⟩
theorem rmanyCkP_spec (ρ : Hp) (tb br cb : Nat) (v : RV) (r : Rc) (s : ZX) {a n c ra rn rc Rs} (h : RdAt ρ a n c ra rn rc Rs s) :
  Spec Tryz.prog 202 [.pointer (some ⟨tb, 0, none⟩), .func (.func 203) ⟨[]⟩ ⟨[.pointer (some ⟨cb, 0, none⟩)]⟩] ρ (cbC cb tb :: rdL tb br a n c ra rn rc v r s)
   (fun z ρ' L' => ρ.le ρ' ∧ ∃ (sa : Option Addr) (sn sc : Nat) (acc : List CkP) (a' : Option Addr) (n' c' : Nat), z = .slice sa sn sc ∧ sn ≤ sc ∧ sn ≤ 255 ∧ AIn ρ' 2 YK sa sn acc ∧ (∀ x ∈ acc, AnyF ρ' x) ∧ acc = (Ys ckPD s).1 ∧ RdAt ρ' a' n' c' ra rn rc Rs (Ys ckPD s).2 ∧ L' = cbC cb tb :: rdL tb br a' n' c' ra rn rc v r (Ys ckPD s).2) := by
 have h8 := n8_spec ρ br h
 have hlt0 := XI 1 s
 generalize hq : Ys ckPD s = q
 unfold Ys at hq
 rw [show rdL tb br a n c ra rn rc v r s = [reC tb br ra rn rc v r (rdN 1 s).2.2.2, rdC br a n c s.2.1] from rfl]
 generalize rdN 1 s = p at *
 obtain ⟨x1, s1⟩ := p
 dsimp only at h8 hlt0 hq ⊢
 refine Za Tryz.func202 rfl rfl rfl fun u R => ?_
 simp only [Zf, kA]
 repeat' (first | (refine Zb (.func 140) ?_; refine qC rfl rfl (h8) ?_; rintro v ρ' L' hle ⟨rfl, rfl, a1, n1, c1, h1, rfl⟩ <;> (try simp only [kA])) | refine zV ?_ | intro _)
 refine Zm [(0, _), (1, _), (4, _), (6, _)] (fun (ζ : (Nat) × (Hp) × (Value) × (List Value) × (List CkP) × (Option Addr) × (Nat) × (Nat) × (ZX)) => [(7, .int .i64 ζ.1), (5, ζ.2.2.1)]) (fun (ζ : (Nat) × (Hp) × (Value) × (List Value) × (List CkP) × (Option Addr) × (Nat) × (Nat) × (ZX)) => ζ.2.1) (fun (ζ : (Nat) × (Hp) × (Value) × (List Value) × (List CkP) × (Option Addr) × (Nat) × (Nat) × (ZX)) => [Zw ζ.2.2.1 ((ζ.2.2.2.2.1.map YK).flatten) ζ.2.2.2.1 149, cbC cb tb, reC tb br ra rn rc v r ζ.2.2.2.2.2.2.2.2.2.2, rdC br ζ.2.2.2.2.2.1 ζ.2.2.2.2.2.2.1 ζ.2.2.2.2.2.2.2.1 ζ.2.2.2.2.2.2.2.2.2.1]) (fun (ζ : (Nat) × (Hp) × (Value) × (List Value) × (List CkP) × (Option Addr) × (Nat) × (Nat) × (ZX)) => ζ.1 ≤ x1 ∧ ρ'.le ζ.2.1 ∧ OwnS ζ.2.2.1 ζ.1 ((ζ.2.2.2.2.1.map YK).flatten) ζ.2.2.2.1 2 ∧ ζ.2.2.2.2.1.length = ζ.1 ∧ RdAt ζ.2.1 ζ.2.2.2.2.2.1 ζ.2.2.2.2.2.2.1 ζ.2.2.2.2.2.2.2.1 ra rn rc Rs ζ.2.2.2.2.2.2.2.2 ∧ (∀ x ∈ ζ.2.2.2.2.1, AnyF ζ.2.1 x) ∧ q = (ζ.2.2.2.2.1 ++ (YR ckPD (x1 - ζ.1) ζ.2.2.2.2.2.2.2.2).1, (YR ckPD (x1 - ζ.1) ζ.2.2.2.2.2.2.2.2).2)) (fun (ζ : (Nat) × (Hp) × (Value) × (List Value) × (List CkP) × (Option Addr) × (Nat) × (Nat) × (ZX)) => x1 - ζ.1) ((0, ρ', .slice none 0 0, [], [], a1, n1, c1, s1)) (⟨Nat.zero_le _, Hp.le_refl _, OwnS.nil 2, rfl, h1, by simp, by simp [← hq]⟩) Zc Zc rfl tk ?_
 rintro ⟨i, ρ1, vv, sp, acc, a2, n2, c2, s2⟩ hI
 try simp only [kA, List.append_assoc] at hI ⊢
 try dsimp only at hI ⊢
 obtain ⟨hi, hle1, hown, hal, h2, hP, hq2⟩ := hI
 obtain ⟨va, vc, rfl, _⟩ := hown.slice
 have hg : ∀ x ∈ acc, (YK x).length = 2 := fun x _ => rfl
 have hok := rok_spec ρ1 tb br a2 n2 c2 ra rn rc v r s2
 by_cases hlt : i < x1
 ·cases ho : okS s2
  ·have hm0 : YR ckPD (x1 - i) s2 = ([], s2) := by
    rw [show x1 - i = (x1 - (i + 1)) + 1 by omega, YR, ho]; rfl
   rw [hm0] at hq2
   simp only [List.append_nil] at hq2
   rw [ho] at hok
   subst hq2
   repeat' (first | (refine Zb (.func 148) ?_; refine qC rfl rfl (hok) ?_; rintro v ρ' L' hle ⟨rfl, rfl, rfl⟩ <;> (try simp only [kA])) | refine zV ?_ | intro _)
   refine Yb (Zw (.slice va i vc) ((acc.map YK).flatten) sp 149) (fun ρ3 hle3 hfz => ?_)
   obtain ⟨sa, sc, e1, hsc, hA⟩ := hown.aIn hal hg hfz
   cases e1
   exact qE ⟨Hp.le_trans hle1 hle3, _, _, _, acc, a2, n2, c2, rfl, hsc, by omega, hA, hP, rfl, h2.mono hle3, rfl⟩
  ·rw [show x1 - i = (x1 - (i + 1)) + 1 by omega, YR, if_pos ho] at hq2
   rw [ho] at hok
   have hrow := fun ρ (h : RdAt ρ a2 n2 c2 ra rn rc Rs s2) => rckpt2_spec ρ tb br cb v r s2 h
   skip
   generalize ckPD s2 = y at *
   obtain ⟨x, s3⟩ := y
   dsimp only at hq2 hrow
   repeat' (first | (refine Zb (.func 148) ?_; refine qC rfl rfl (hok) ?_; rintro v ρ' L' hle ⟨rfl, rfl, rfl⟩ <;> (try simp only [kA])) | (refine Zb (.tmp 24) ?_; refine qC rfl rfl (hrow _ h2) ?_; rintro v ρ' L' hle ⟨hle3, rfl, hxi, a3, n3, c3, h3, rfl⟩ <;> (try simp only [kA])) | refine zV ?_ | intro _)
   refine Yz (css := [YK x]) (sz := 2) rfl rfl rfl rfl (by simp) (by simp) rfl (fun bs => ?_)
   simp only [List.flatten_cons, List.flatten_nil, List.append_nil]
   refine Yk (ys := YK x) (m := 1) rfl rfl hown (hR := by infer_instance) (SrcV.lit) rfl rfl (by decide) rfl (by omega) (by omega) rfl (fun v' sp' hown' => ?_)
   have hm : (acc.map YK).flatten ++ YK x = ((acc ++ [x]).map YK).flatten := by simp
   rw [hm] at hown' ⊢
   repeat' (first | refine zV ?_ | intro _)
   have hPn : ∀ z ∈ acc ++ [x], AnyF ρ' z := fun z hz => by
    rcases List.mem_append.1 hz with hz | hz
    ·exact hP z hz
    ·rw [List.mem_singleton.1 hz]; exact hxi
   refine Zi (i + 1, _, v', sp', acc ++ [x], a3, n3, c3, s3) (⟨hlt, Hp.le_trans hle1 hle3, hown', by simp [hal], h3, hPn, by rw [hq2]; simp⟩) Zc Zc rfl tk inferInstance (by first | omega | (dsimp only; omega))
 ·have hi2 : i = x1 := by omega
  subst hi2
  rw [Nat.sub_self, YR] at hq2
  simp only [List.append_nil] at hq2
  subst hq2
  repeat' (first | refine zV ?_ | intro _)
  refine Yb (Zw (.slice va i vc) ((acc.map YK).flatten) sp 149) (fun ρ3 hle3 hfz => ?_)
  obtain ⟨sa, sc, e1, hsc, hA⟩ := hown.aIn hal hg hfz
  cases e1
  exact qE ⟨Hp.le_trans hle1 hle3, _, _, _, acc, a2, n2, c2, rfl, hsc, by omega, hA, hP, rfl, h2.mono hle3, rfl⟩
end Go.Proofs.E
