/- The law FileWrites. Part 5 of 17. -/
import Derived.Test.YtaacalchpindlaaGreatP4
namespace Go.Proofs.E
open Go
set_option linter.unusedVariables false
set_option linter.unusedSimpArgs false
set_option linter.unusedSectionVars false
set_option maxRecDepth 4000
set_option maxHeartbeats 1000000
attribute [local irreducible] Yl TL TC TE Spec XM R1 Hp.le EnvLe TS TR YS Zo
theorem heldC_length {s : YO} (h : ∀ p ∈ s, p.1.length = 64) : (YR s).length = s.length * 64 := by
 induction s with
 | nil => rfl
 | cons p r ih =>
  have h1 := h p (by simp)
  have h2 := ih (fun q hq => h q (by simp [hq]))
  simp only [YR, List.map_cons, List.flatten_cons, List.length_append, List.length_map, List.length_cons] at *
  omega
theorem heldC_take : ∀ {s : YO} {i : Nat} (h : ∀ p ∈ s, p.1.length = 64) (hi : i < s.length), ((YR s).drop (i * 64)).take 64 = (s[i].1).map Zs
 | [], i, h, hi => by simp at hi
 | p :: r, 0, h, hi => by
  have h1 := h p (by simp)
  simp only [YR, List.map_cons, List.flatten_cons, Nat.zero_mul, List.drop_zero, List.getElem_cons_zero]
  rw [List.take_append_of_le_length (by simp [h1]), List.take_of_length_le (by simp [h1])]
 | p :: r, i + 1, h, hi => by
  have h1 := h p (by simp)
  have ih := heldC_take (s := r) (i := i) (fun q hq => h q (by simp [hq])) (by simpa using hi)
  simp only [YR, List.map_cons, List.flatten_cons, List.getElem_cons_succ] at ih ⊢
  have e : (i + 1) * 64 = (p.1.map Zs).length + i * 64 := by simp [h1]; omega
  rw [e, ← List.drop_drop, List.drop_left]
  exact ih
theorem stc_heldC : ∀ {s : YO} {i : Nat} {b : Blk} (x : Option Blk) (h : ∀ p ∈ s, p.1.length = 64) (hb : b.length = 64) (hi : i < s.length), stc (YR s) (i * 64) (b.map Zs) = YR (s.set i (b, x))
 | [], i, b, x, h, hb, hi => by simp at hi
 | p :: r, 0, b, x, h, hb, hi => by
  have h1 := h p (by simp)
  simp only [stc, YR, List.map_cons, List.flatten_cons, Nat.zero_mul, List.take_zero, List.nil_append, Nat.zero_add, List.set_cons_zero]
  congr 1
  have e : (b.map Zs).length = (p.1.map Zs).length := by simp [hb, h1]
  rw [e, List.drop_left]
 | p :: r, i + 1, b, x, h, hb, hi => by
  have h1 := h p (by simp)
  have ih := stc_heldC (s := r) (i := i) (b := b) x (fun q hq => h q (by simp [hq])) hb (by simpa using hi)
  simp only [stc, YR, List.map_cons, List.flatten_cons, List.set_cons_succ] at ih ⊢
  have e : (i + 1) * 64 = (p.1.map Zs).length + i * 64 := by simp [h1]; omega
  rw [e, List.take_length_add_append, Nat.add_assoc, ← List.drop_drop, List.drop_left, ← ih]
  simp
theorem heldC_take' {s : YO} {i : Nat} (sp : List Value) (h : ∀ p ∈ s, p.1.length = 64) (hi : i < s.length) : ((YR s ++ sp).drop (i * 64)).take 64 = (s[i].1).map Zs := by
 have hl := heldC_length h
 rw [List.drop_append_of_le_length (by omega), List.take_append_of_le_length (by simp; omega)]
 exact heldC_take h hi
theorem stc_heldC' {s : YO} {i : Nat} {b : Blk} (sp : List Value) (x : Option Blk) (h : ∀ p ∈ s, p.1.length = 64) (hb : b.length = 64) (hi : i < s.length) : stc (YR s ++ sp) (i * 64) (b.map Zs) = YR (s.set i (b, x)) ++ sp := by
 have hl := heldC_length h
 rw [← stc_heldC x h hb hi]
 unfold stc
 rw [List.take_append_of_le_length (by omega), List.drop_append_of_le_length (by simp; omega)]
 simp
theorem heldC_length' {s : YO} (sp : List Value) (h : ∀ p ∈ s, p.1.length = 64) : (YR s ++ sp).length = s.length * 64 + sp.length := by
 rw [List.length_append, heldC_length h]
def putC (s : YO) (i : Nat) (b : Blk) : YO := s.set i ((s[i]?.getD ([], none)).1, some b)
theorem YZ {s : YO} {i b} : (putC s i b).length = s.length := by simp [putC]
theorem heldC_putC {s : YO} {i : Nat} {b : Blk} (hi : i < s.length) : YR (putC s i b) = YR s := by
 unfold YR putC
 rw [List.map_set]
 congr 1
 apply List.ext_getElem? ; intro j
 rw [List.getElem?_set]
 by_cases e : i = j
 ·subst e; simp [hi]
 ·simp [e]
theorem SecsOk.putC {s : YO} {i : Nat} {b : Blk} (h : SecsOk s) (hb : b.length = 64) (hi : i < s.length) : SecsOk (putC s i b) := by
 have hm : ∀ p ∈ E.putC s i b, p ∈ s ∨ p = (s[i].1, some b) := fun p hp => by
  unfold E.putC at hp
  rcases List.mem_or_eq_of_mem_set hp with h1 | h1
  ·exact .inl h1
  ·right; rw [h1]; simp [hi]
 refine ⟨by rw [YZ]; exact h.len, by rw [YZ]; exact h.pos, fun p hp => ?_, fun p hp c hc => ?_⟩
 ·rcases hm p hp with h1 | rfl
  ·exact h.held p h1
  ·exact h.held s[i] (List.getElem_mem hi)
 ·rcases hm p hp with h1 | rfl
  ·exact h.cached p h1 c hc
  ·simp only [Option.some.injEq] at hc; subst hc; exact hb
theorem MapOk.put {s : YO} {es es' : List MapEntry} {i : Int} {b : Blk} (h : MapOk s es) (h0 : 0 ≤ i) (hi : i < s.length) (hk : YU .i64 es') (hg : ∀ j, Xq es' j = if j = i then some (bv b) else Xq es j) : MapOk (putC s i.toNat b) es' := by
 refine ⟨hk, fun j => ?_⟩
 rw [hg]
 by_cases e : j = i
 ·subst e
  have : j.toNat < s.length := by omega
  simp [putC, h0, this]
 ·rw [if_neg e, h.get]
  by_cases h1 : 0 ≤ j
  ·have hne : i.toNat ≠ j.toNat := by omega
   simp only [h1, if_true, putC]
   rw [List.getElem?_set_ne hne]
  ·simp [h1]
def says1 (p : Blk × Option Blk) : Blk := p.2.getD p.1
theorem MapOk.at {s : YO} {es : List MapEntry} (h : MapOk s es) {i : Nat} (hi : i < s.length) : Xq es i = (s[i].2).map bv := by
 rw [h.get]; simp [hi]
def YX (s : YO) : Prop := ∀ p ∈ s, p.2 = none
theorem MapOk.empty {s : YO} (h : YX s) : MapOk s [] := by
 refine ⟨fun e he => by simp at he, fun j => ?_⟩
 by_cases h1 : 0 ≤ j
 ·simp only [h1, if_true, Xq, List.find?_nil, Option.map_none]
  cases hs : s[j.toNat]? with
  | none => simp
  | some p => simp [h p (List.mem_of_getElem? hs)]
 ·simp [Xq, h1]
structure DS where
 secs : YO
 ops : Int
 armed : Int
 failing : Int
 dead : Bool
structure DS.Ok (D : DS) : Prop where
 secs : SecsOk D.secs
 a1 : -1 ≤ D.armed
 a2 : D.armed ≤ 9223372036854775807
 f1 : -1 ≤ D.failing
 f2 : D.failing ≤ 9223372036854775807
def Xy (b : Nat) (hb : HB) (mb : Nat) (es : List MapEntry) (ck : Nat) (D : DS) : SH := [[(b, dO hb mb D.secs.length D.ops D.armed D.failing D.dead)], [(hb.b, .cells ⟨YR D.secs ++ hb.sp⟩ 51 (0, 0))], [(mb, .map ⟨es⟩ ck)]]
def cnt (n : Int) : Int := max (n - 1) (-1)
def DS.tick (D : DS) : DS := { D with ops := IntKind.i64.wrap (D.ops + 1), failing := cnt D.failing }
theorem write1 (ρ : Hp) (b : Nat) (hb : HB) (mb xb pb ib n : Nat) (ops armed failing i : Int) (dead : Bool) (es : List MapEntry) (ck : Nat) (blk : Blk) (hb64 : blk.length = 64) (hk : YU .i64 es) :
  Spec Tryz.prog 44 [.pointer (some ⟨xb, 0, none⟩), .pointer (some ⟨pb, 0, none⟩), .pointer (some ⟨ib, 0, none⟩)] ρ
   [[(b, dO hb mb n ops armed failing dead)], [(mb, .map ⟨es⟩ ck)], [(xb, .cells ⟨blk.map Zs⟩ 51 (0, 0))], [(pb, .cells ⟨[.pointer (some ⟨b, 0, none⟩)]⟩ 25 (0, 0))], [(ib, .cells ⟨[.int .i64 i]⟩ 3 (0, 0))]]
   (fun v ρ' L' => v = .tuple ⟨[]⟩ ∧ ρ' = ρ ∧ ∃ es' ck', YU .i64 es' ∧ (∀ j, Xq es' j = if j = i then some (bv blk) else Xq es j) ∧
    L' = [[(b, dO hb mb n ops armed failing dead)], [(mb, .map ⟨es'⟩ ck')], [(xb, .cells ⟨blk.map Zs⟩ 51 (0, 0))], [(pb, .cells ⟨[.pointer (some ⟨b, 0, none⟩)]⟩ 25 (0, 0))], [(ib, .cells ⟨[.int .i64 i]⟩ 3 (0, 0))]]) := by
 refine Zf Tryz.func44 rfl rfl rfl fun u R => ?_
 simp only [Zv, List.cons_append, List.nil_append, dO]
 have hl : (blk.map Zs).length = 64 := by simpa using hb64
 repeat' (first | (refine Zg ?_; first | (refine Ze ?_; refine qQ ?_) | refine Zj ?_) | refine Za ?_ | (refine Zh ?_; refine Zq ?_) | (refine Zi ?_; refine Zr ?_) | intro _)
 refine tc_draw 6 (by decide +kernel) (by decide +kernel) ?_
 repeat' (first | (refine jLd ?_; refine sLd ?_) | (refine jFa ?_; refine sFa ?_) | (refine jNc ?_; refine sNc ?_) | (refine j_gd ?_; first | refine sWant ?_ | refine sSkip ?_ | refine sSkipU ?_))
 all_goals refine ts_nil ?_
 refine Xr rfl rfl rfl hk (fun es' ck' h1 h2 => ?_)
 repeat' (first | (refine Zg ?_; first | (refine Ze ?_; refine qQ ?_) | refine Zj ?_) | refine Za ?_ | (refine Zh ?_; refine Zq ?_) | (refine Zi ?_; refine Zr ?_) | intro _)
 exact qE ⟨rfl, rfl, es', ck', h1, h2, rfl⟩
def DS.write (D : DS) (i : Int) (blk : Blk) : DS × Int :=
 if D.dead then (D, 9) else if i < 0 ∨ (D.secs.length : Int) ≤ i then (D, 2)
 else if D.armed = 0 then ({ D.tick with dead := true, secs := putC D.secs i.toNat blk }, 9)
 else if D.failing = 0 then (D.tick, 8)
 else ({ D.tick with armed := cnt D.armed, secs := putC D.secs i.toNat blk }, 0)
theorem dwrite_spec (ρ : Hp) (b : Nat) (hb : HB) (mb : Nat) (es : List MapEntry) (ck : Nat) (D : DS) (i : Int) (blk : Blk) (hb64 : blk.length = 64) (hD : D.Ok) (hm : MapOk D.secs es) :
  Spec Tryz.prog 22 [.pointer (some ⟨b, 0, none⟩), .int .i64 i, bv blk] ρ (Xy b hb mb es ck D)
   (fun v ρ' L' => v = .int .i64 (D.write i blk).2 ∧ ρ' = ρ ∧ ∃ es' ck', MapOk (D.write i blk).1.secs es' ∧ L' = Xy b hb mb es' ck' (D.write i blk).1) := by
 obtain ⟨s, ops, armed, failing, dead⟩ := D
 obtain ⟨hs, a1, a2, f1, f2⟩ := hD
 dsimp only at hs a1 a2 f1 f2 hm
 have hl : (blk.map Zs).length = 64 := by simpa using hb64
 have hk := hm.keys
 cases dead with
 | true =>
  have he : DS.write ⟨s, ops, armed, failing, true⟩ i blk = (⟨s, ops, armed, failing, true⟩, 9) := by simp [DS.write]
  simp only [he]
  refine Zf Tryz.func22 rfl rfl rfl fun u R => ?_
  simp only [Zv, List.cons_append, List.nil_append, Xy, bv]
  repeat' (first | (refine Zd (.func 45) ?_; refine qC rfl rfl (does_dead _ _ _ _ _ _ _ _ _ _ _) ?_; rintro v ρ' L' hle ⟨rfl, rfl, rfl⟩ <;> (try simp only [kM, kN, kO])) | (refine Zg ?_; first | (refine Ze ?_; refine qQ ?_) | refine Zj ?_) | refine Za ?_ | (refine Zh ?_; refine Zq ?_) | (refine Zi ?_; refine Zr ?_) | intro _)
  exact qE ⟨rfl, rfl, es, ck, hm, rfl⟩
 | false =>
  by_cases hi : i < 0 ∨ (s.length : Int) ≤ i
  ·have he : DS.write ⟨s, ops, armed, failing, false⟩ i blk = (⟨s, ops, armed, failing, false⟩, 2) := by simp [DS.write, hi]
   simp only [he]
   refine Zf Tryz.func22 rfl rfl rfl fun u R => ?_
   simp only [Zv, List.cons_append, List.nil_append, Xy, bv]
   repeat' (first | (refine Zd (.func 45) ?_; refine qC rfl rfl (does_arg _ _ _ _ _ _ _ _ _ _ _ hi) ?_; rintro v ρ' L' hle ⟨rfl, rfl, rfl⟩ <;> (try simp only [kM, kN, kO])) | (refine Zg ?_; first | (refine Ze ?_; refine qQ ?_) | refine Zj ?_) | refine Za ?_ | (refine Zh ?_; refine Zq ?_) | (refine Zi ?_; refine Zr ?_) | intro _)
   exact qE ⟨rfl, rfl, es, ck, hm, rfl⟩
  ·have hi0 : 0 ≤ i := by omega
   have hi1 : i < s.length := by omega
   have hlen : (putC s i.toNat blk).length = s.length := YZ
   have hheld : YR (putC s i.toNat blk) = YR s := heldC_putC (by omega)
   by_cases ha : armed = 0
   ·subst ha
    have he : DS.write ⟨s, ops, 0, failing, false⟩ i blk = (⟨putC s i.toNat blk, IntKind.i64.wrap (ops + 1), 0, cnt failing, true⟩, 9) := by simp [DS.write, hi, DS.tick]
    simp only [he]
    refine Zf Tryz.func22 rfl rfl rfl fun u R => ?_
    simp only [Zv, List.cons_append, List.nil_append, Xy, bv, hlen, hheld]
    repeat' (first | (refine Zd (.func 45) ?_; refine qC rfl rfl (does_dies _ _ _ _ _ _ _ _ _ _ _ _ _ hi0 hi1 f1 f2 (write1 _ _ _ _ _ _ _ _ _ _ _ _ _ _ _ blk hb64 hk)) ?_; rintro v ρ' L' hle ⟨rfl, v0, h0, rfl, es', ck', h1, h2, rfl⟩ <;> (try simp only [kM, kN, kO])) | (refine Zg ?_; first | (refine Ze ?_; refine qQ ?_) | refine Zj ?_) | refine Za ?_ | (refine Zh ?_; refine Zq ?_) | (refine Zi ?_; refine Zr ?_) | intro _)
    exact qE ⟨rfl, rfl, es', ck', hm.put hi0 hi1 h1 h2, rfl⟩
   ·by_cases hf : failing = 0
    ·subst hf
     have he : DS.write ⟨s, ops, armed, 0, false⟩ i blk = (⟨s, IntKind.i64.wrap (ops + 1), armed, -1, false⟩, 8) := by simp [DS.write, hi, DS.tick, ha, cnt]
     simp only [he]
     refine Zf Tryz.func22 rfl rfl rfl fun u R => ?_
     simp only [Zv, List.cons_append, List.nil_append, Xy, bv]
     repeat' (first | (refine Zd (.func 45) ?_; refine qC rfl rfl (does_fail_w _ _ _ _ _ _ _ _ _ _ _ hi0 hi1 ha) ?_; rintro v ρ' L' hle ⟨rfl, rfl, rfl⟩ <;> (try simp only [kM, kN, kO])) | (refine Zg ?_; first | (refine Ze ?_; refine qQ ?_) | refine Zj ?_) | refine Za ?_ | (refine Zh ?_; refine Zq ?_) | (refine Zi ?_; refine Zr ?_) | intro _)
     exact qE ⟨rfl, rfl, es, ck, hm, rfl⟩
    ·have he : DS.write ⟨s, ops, armed, failing, false⟩ i blk = (⟨putC s i.toNat blk, IntKind.i64.wrap (ops + 1), cnt armed, cnt failing, false⟩, 0) := by simp [DS.write, hi, DS.tick, ha, hf]
     simp only [he]
     refine Zf Tryz.func22 rfl rfl rfl fun u R => ?_
     simp only [Zv, List.cons_append, List.nil_append, Xy, bv, hlen, hheld]
     repeat' (first | (refine Zd (.func 45) ?_; refine qC rfl rfl (does_ok_w _ _ _ _ _ _ _ _ _ _ _ _ _ _ _ hi0 hi1 hf f1 f2 ha a1 a2 (write1 _ _ _ _ _ _ _ _ _ _ _ _ _ _ _ blk hb64 hk)) ?_; rintro v ρ' L' hle ⟨rfl, v0, h0, rfl, es', ck', h1, h2, rfl⟩ <;> (try simp only [kM, kN, kO])) | (refine Zg ?_; first | (refine Ze ?_; refine qQ ?_) | refine Zj ?_) | refine Za ?_ | (refine Zh ?_; refine Zq ?_) | (refine Zi ?_; refine Zr ?_) | intro _)
     exact qE ⟨rfl, rfl, es', ck', hm.put hi0 hi1 h1 h2, rfl⟩
theorem read1 (ρ : Hp) (b : Nat) (hb : HB) (mb pb ib rb : Nat) (s : YO) (ops armed failing : Int) (i : Nat) (dead : Bool) (es : List MapEntry) (ck : Nat) (r : List Value) (hr : r.length = 64) (hs : SecsOk s) (hm : MapOk s es) (hi : i < s.length) :
  Spec Tryz.prog 63 [.pointer (some ⟨pb, 0, none⟩), .pointer (some ⟨ib, 0, none⟩), .pointer (some ⟨rb, 0, none⟩)] ρ
   [[(b, dO hb mb s.length ops armed failing dead)], [(hb.b, .cells ⟨YR s ++ hb.sp⟩ 51 (0, 0))], [(mb, .map ⟨es⟩ ck)], [(pb, .cells ⟨[.pointer (some ⟨b, 0, none⟩)]⟩ 25 (0, 0))], [(ib, .cells ⟨[.int .i64 i]⟩ 3 (0, 0))], [(rb, .cells ⟨r⟩ 51 (0, 0))]]
   (fun v ρ' L' => v = .tuple ⟨[]⟩ ∧ ρ' = ρ ∧ L' = [[(b, dO hb mb s.length ops armed failing dead)], [(hb.b, .cells ⟨YR s ++ hb.sp⟩ 51 (0, 0))], [(mb, .map ⟨es⟩ ck)], [(pb, .cells ⟨[.pointer (some ⟨b, 0, none⟩)]⟩ 25 (0, 0))], [(ib, .cells ⟨[.int .i64 i]⟩ 3 (0, 0))], [(rb, .cells ⟨(says1 s[i]).map Zs⟩ 51 (0, 0))]]) := by
 have hk := hm.keys
 have hat := hm.at hi
 have hh : (s[i].1.map Zs).length = 64 := by simpa using hs.held s[i] (List.getElem_mem hi)
 have ht : ((YR s ++ hb.sp).drop (0 + i * 64)).take 64 = (s[i].1).map Zs := by rw [Nat.zero_add]; exact heldC_take' hb.sp hs.held hi
 have hlen := heldC_length' hb.sp hs.held
 have o1 := ZI
 cases hc : s[i].2 with
 | none =>
  have hsay : says1 s[i] = s[i].1 := by simp [says1, hc]
  rw [hc] at hat
  simp only [Option.map_none] at hat
  have hone := ZI s[i].1
  refine Zf Tryz.func63 rfl rfl rfl fun u R => ?_
  simp only [Zv, List.cons_append, List.nil_append, dO, hsay]
  repeat' (first | (refine Zg ?_; first | (refine Ze ?_; refine qQ ?_) | refine Zj ?_) | refine Za ?_ | (refine Zh ?_; refine Zq ?_) | (refine Zi ?_; refine Zr ?_) | intro _)
  refine ZD (Zo _ _ _) ZZ ?_
  all_goals (refine rLd 0 ?_; refine rNc 1 ?_; refine rFa 2 ?_; refine rLd 3 ?_; refine rLd 4 ?_; refine rLu 5 ?_; refine ZO 6 ?_; refine rEx 7 ?_; refine rEx 8 ?_)
  all_goals (refine Zn (i := 9) ?_; ((try refine Zk ?_); (first | (refine Zj ?_; try intro _)) <;> ((try simp only [kM, kN, kO]); refine Za ?_; refine Zl ?_)))
  all_goals (refine Zn (i := 10) ?_; ((try refine Zk ?_); (first | (refine Zj ?_; try intro _)) <;> ((try simp only [kM, kN, kO]); refine Za ?_; refine Zl ?_)))
  all_goals (refine ZR ?_; refine rAs 11 ?_; refine ZH ?_)
  repeat' (first | (refine Zg ?_; first | (refine Ze ?_; refine qQ ?_) | refine Zj ?_) | refine Za ?_ | (refine Zh ?_; refine Zq ?_) | (refine Zi ?_; refine Zr ?_) | intro _)
  refine tc_draw 7 (by decide +kernel) (by decide +kernel) ?_
  repeat' (first | (refine jLd ?_; refine sLd ?_) | (refine jFa ?_; refine sFa ?_) | (refine jNc ?_; refine sNc ?_) | (refine jIa ?_; refine sIa ?_) | (refine j_gd ?_; first | refine sWant ?_ | refine sSkip ?_ | refine sSkipU ?_))
  all_goals refine ts_nil ?_
  repeat' (first | (refine Zg ?_; first | (refine Ze ?_; refine qQ ?_) | refine Zj ?_) | refine Za ?_ | (refine Zh ?_; refine Zq ?_) | (refine Zi ?_; refine Zr ?_) | intro _)
  exact qE ⟨rfl, rfl, rfl⟩
 | some c =>
  have hsay : says1 s[i] = c := by simp [says1, hc]
  have hcl : (c.map Zs).length = 64 := by simpa using hs.cached s[i] (List.getElem_mem hi) c hc
  rw [hc] at hat
  simp only [Option.map_some] at hat
  have hone := ZI c
  refine Zf Tryz.func63 rfl rfl rfl fun u R => ?_
  simp only [Zv, List.cons_append, List.nil_append, dO, hsay]
  repeat' (first | (refine Zg ?_; first | (refine Ze ?_; refine qQ ?_) | refine Zj ?_) | refine Za ?_ | (refine Zh ?_; refine Zq ?_) | (refine Zi ?_; refine Zr ?_) | intro _)
  refine ZD (Zo _ _ _) ZZ ?_
  all_goals (refine rLd 0 ?_; refine rNc 1 ?_; refine rFa 2 ?_; refine rLd 3 ?_; refine rLd 4 ?_; refine rLu 5 ?_; refine ZO 6 ?_; refine rEx 7 ?_; refine rEx 8 ?_)
  all_goals (refine Zn (i := 9) ?_; ((try refine Zk ?_); (first | (refine Zj ?_; try intro _)) <;> ((try simp only [kM, kN, kO]); refine Za ?_; refine Zl ?_)))
  all_goals (refine Zn (i := 10) ?_; ((try refine Zk ?_); (first | (refine Zj ?_; try intro _)) <;> ((try simp only [kM, kN, kO]); refine Za ?_; refine Zl ?_)))
  all_goals (refine ZR ?_; refine rAs 11 ?_; refine ZH ?_)
  repeat' (first | (refine Zg ?_; first | (refine Ze ?_; refine qQ ?_) | refine Zj ?_) | refine Za ?_ | (refine Zh ?_; refine Zq ?_) | (refine Zi ?_; refine Zr ?_) | intro _)
  exact qE ⟨rfl, rfl, rfl⟩
def XL : Blk := List.replicate 64 0
theorem zblk_cells : List.replicate 64 (Value.int .u8 0) = XL.map Zs := by rfl
def DS.read (D : DS) (i : Int) : DS × Blk × Int :=
 if D.dead then (D, XL, 9) else if i < 0 ∨ (D.secs.length : Int) ≤ i then (D, XL, 2)
 else if D.failing = 0 then (D.tick, XL, 8)
 else (D.tick, says1 (D.secs[i.toNat]?.getD (XL, none)), 0)
theorem dread_spec (ρ : Hp) (b : Nat) (hb : HB) (mb : Nat) (es : List MapEntry) (ck : Nat) (D : DS) (i : Int) (hD : D.Ok) (hm : MapOk D.secs es) :
  Spec Tryz.prog 37 [.pointer (some ⟨b, 0, none⟩), .int .i64 i] ρ (Xy b hb mb es ck D)
   (fun v ρ' L' => v = .tuple ⟨[bv (D.read i).2.1, .int .i64 (D.read i).2.2]⟩ ∧ ρ' = ρ ∧ L' = Xy b hb mb es ck (D.read i).1) := by
 obtain ⟨s, ops, armed, failing, dead⟩ := D
 obtain ⟨hs, a1, a2, f1, f2⟩ := hD
 dsimp only at hs a1 a2 f1 f2 hm
 have hz0 : (List.replicate 64 (Value.int .u8 0)).length = 64 := by rfl
 have hz64 : (List.replicate 64 (Value.int .u8 0)).all (·.oneCell') = true := by rfl
 cases dead with
 | true =>
  have he : DS.read ⟨s, ops, armed, failing, true⟩ i = (⟨s, ops, armed, failing, true⟩, XL, 9) := by simp [DS.read]
  simp only [he]
  refine Zf Tryz.func37 rfl rfl rfl fun u R => ?_
  simp only [Zv, List.cons_append, List.nil_append, Xy, bv, ← zblk_cells]
  repeat' (first | (refine Zd (.func 45) ?_; refine qC rfl rfl (does_dead _ _ _ _ _ _ _ _ _ _ _) ?_; rintro v ρ' L' hle ⟨rfl, rfl, rfl⟩ <;> (try simp only [kM, kN, kO])) | (refine Zg ?_; first | (refine Ze ?_; refine qQ ?_) | refine Zj ?_) | refine Za ?_ | (refine Zh ?_; refine Zq ?_) | (refine Zi ?_; refine Zr ?_) | intro _)
  exact qE ⟨rfl, rfl, rfl⟩
 | false =>
  by_cases hi : i < 0 ∨ (s.length : Int) ≤ i
  ·have he : DS.read ⟨s, ops, armed, failing, false⟩ i = (⟨s, ops, armed, failing, false⟩, XL, 2) := by simp [DS.read, hi]
   simp only [he]
   refine Zf Tryz.func37 rfl rfl rfl fun u R => ?_
   simp only [Zv, List.cons_append, List.nil_append, Xy, bv, ← zblk_cells]
   repeat' (first | (refine Zd (.func 45) ?_; refine qC rfl rfl (does_arg _ _ _ _ _ _ _ _ _ _ _ hi) ?_; rintro v ρ' L' hle ⟨rfl, rfl, rfl⟩ <;> (try simp only [kM, kN, kO])) | (refine Zg ?_; first | (refine Ze ?_; refine qQ ?_) | refine Zj ?_) | refine Za ?_ | (refine Zh ?_; refine Zq ?_) | (refine Zi ?_; refine Zr ?_) | intro _)
   exact qE ⟨rfl, rfl, rfl⟩
  ·have hi0 : 0 ≤ i := by omega
   have hi1 : i < s.length := by omega
   by_cases hf : failing = 0
   ·subst hf
    have he : DS.read ⟨s, ops, armed, 0, false⟩ i = (⟨s, IntKind.i64.wrap (ops + 1), armed, -1, false⟩, XL, 8) := by simp [DS.read, hi, DS.tick, cnt]
    simp only [he]
    refine Zf Tryz.func37 rfl rfl rfl fun u R => ?_
    simp only [Zv, List.cons_append, List.nil_append, Xy, bv, ← zblk_cells]
    repeat' (first | (refine Zd (.func 45) ?_; refine qC rfl rfl (does_fail_r _ _ _ _ _ _ _ _ _ hi0 hi1) ?_; rintro v ρ' L' hle ⟨rfl, rfl, rfl⟩ <;> (try simp only [kM, kN, kO])) | (refine Zg ?_; first | (refine Ze ?_; refine qQ ?_) | refine Zj ?_) | refine Za ?_ | (refine Zh ?_; refine Zq ?_) | (refine Zi ?_; refine Zr ?_) | intro _)
    exact qE ⟨rfl, rfl, rfl⟩
   ·obtain ⟨k, rfl⟩ : ∃ k : Nat, i = k := ⟨i.toNat, by omega⟩
    have hk : k < s.length := by omega
    have hsay : (says1 s[k]).length = 64 := by
     unfold says1
     cases hc : s[k].2 with
     | none => exact hs.held s[k] (List.getElem_mem hk)
     | some c => exact hs.cached s[k] (List.getElem_mem hk) c hc
    have hsl : ((says1 s[k]).map Zs).length = 64 := by simpa using hsay
    have hone := ZI (says1 s[k])
    have he : DS.read ⟨s, ops, armed, failing, false⟩ (k : Int) = (⟨s, IntKind.i64.wrap (ops + 1), armed, cnt failing, false⟩, says1 s[k], 0) := by simp [DS.read, hi, DS.tick, hf, hk]
    simp only [he]
    refine Zf Tryz.func37 rfl rfl rfl fun u R => ?_
    simp only [Zv, List.cons_append, List.nil_append, Xy, bv]
    repeat' (first | (refine Zd (.func 45) ?_; refine qC rfl rfl (does_ok_r _ _ _ _ _ _ _ _ _ _ _ _ _ hi0 hi1 hf f1 f2 (read1 _ _ _ _ _ _ _ _ _ _ _ _ _ _ _ _ hz0 hs hm hk)) ?_; rintro v ρ' L' hle ⟨rfl, v0, h0, rfl, rfl⟩ <;> (try simp only [kM, kN, kO])) | (refine Zg ?_; first | (refine Ze ?_; refine qQ ?_) | refine Zj ?_) | refine Za ?_ | (refine Zh ?_; refine Zq ?_) | (refine Zi ?_; refine Zr ?_) | intro _)
    exact qE ⟨rfl, rfl, rfl⟩
def isP (s : YO) (i : Nat) : Bool := ((s[i]?).bind (·.2)).isSome
def YB (s : YO) (k : Nat) : List Nat := (List.range k).filter (isP s)
def pend (s : YO) : List Nat := YB s s.length
theorem pendTo_succ_t {s : YO} {k : Nat} (h : isP s k = true) : YB s (k + 1) = YB s k ++ [k] := by simp [YB, List.range_succ, h]
theorem pendTo_succ_f {s : YO} {k : Nat} (h : isP s k = false) : YB s (k + 1) = YB s k := by simp [YB, List.range_succ, h]
theorem pendTo_pre {s : YO} {k m : Nat} (h : k ≤ m) : YB s k <+: YB s m := by
 induction m with
 | zero =>
  have : k = 0 := by omega
  subst this; exact List.prefix_refl _
 | succ m ih =>
  by_cases e : k = m + 1
  ·subst e; exact List.prefix_refl _
  ·refine (ih (by omega)).trans ?_
   cases hp : isP s m
   ·rw [pendTo_succ_f hp]; exact List.prefix_refl _
   ·rw [pendTo_succ_t hp]; exact List.prefix_append _ _
def natE (i : Nat) : List Value := [.int .i64 i]
theorem pending1_iter (ρ0 : Hp) (b : Nat) (hb : HB) (mb bx : Nat) (s : YO) (ops armed failing : Int) (dead : Bool) (es : List MapEntry) (ck : Nat) (hm : MapOk s es) (hs : SecsOk s) :
  Iter Tryz.prog 62 [] [.pointer (some ⟨bx, 0, none⟩)] natE ρ0
   [[(bx, .cells ⟨[.pointer (some ⟨b, 0, none⟩)]⟩ 25 (0, 0))], [(b, dO hb mb s.length ops armed failing dead)], [(mb, .map ⟨es⟩ ck)]] (pend s) := by
 intro l J Jx hY ρ Lj hle hJ
 refine Zf Tryz.func62 rfl rfl rfl fun u R => ?_
 simp only [Zv, List.cons_append, List.nil_append, dO]
 have hk := hm.keys
 have hlen := hs.len
 repeat' (first | (refine Zg ?_; first | (refine Ze ?_; refine qQ ?_) | refine Zj ?_) | refine Za ?_ | (refine Zh ?_; refine Zq ?_) | (refine Zi ?_; refine Zr ?_) | intro _)
 refine tc_loop_e (fun (y : Nat × Hp × SH) => ⟨[(0, .func (.yield l) ⟨[]⟩ ⟨[]⟩), (1, .pointer (some ⟨bx, 0, none⟩)), (10, .int .i64 s.length), (11, .int .i64 y.1)], y.2.1,
   [[(bx, .cells ⟨[.pointer (some ⟨b, 0, none⟩)]⟩ 25 (0, 0))], [(b, dO hb mb s.length ops armed failing dead)], [(mb, .map ⟨es⟩ ck)]] ++ y.2.2 ++ R⟩)
  (fun y => y.1 ≤ s.length ∧ ρ.le y.2.1 ∧ J (YB s y.1) y.2.1 y.2.2) (fun y => s.length - y.1) (0, ρ, Lj) rfl ⟨by simp, Hp.le_refl _, hJ⟩
  Zm rfl tk inferInstance ?_
 rintro ⟨k, ρ1, L1⟩ ⟨h1, h2, h3⟩
 dsimp only at h1 h2 h3 ⊢
 simp only [List.cons_append, List.nil_append, dO]
 by_cases hlt : k < s.length
 ·have hat := hm.at hlt
  cases hc : s[k].2 with
  | none =>
   rw [hc] at hat
   simp only [Option.map_none] at hat
   have hp : isP s k = false := by simp [isP, hlt, hc]
   repeat' (first | (refine Zg ?_; first | (refine Ze ?_; refine qQ ?_) | refine Zj ?_) | refine Za ?_ | (refine Zh ?_; refine Zq ?_) | (refine Zi ?_; refine Zr ?_) | intro _)
   refine te_round_e (Lm := [_, _, _] ++ L1) (R := R) (k + 1, ρ1, L1) rfl ⟨by omega, h2, by dsimp only; rw [pendTo_succ_f hp]; exact h3⟩ Zm rfl tk inferInstance (by dsimp only; omega)
  | some c =>
   rw [hc] at hat
   simp only [Option.map_some] at hat
   have hp : isP s k = true := by simp [isP, hlt, hc]
   have hsub := pendTo_succ_t hp
   have hpre : YB s k ++ [k] <+: pend s := by rw [← hsub]; exact pendTo_pre (by omega)
   have hone := ZI c
   have hcl : (c.map Zs).length = 64 := by simpa using hs.cached s[k] (List.getElem_mem hlt) c hc
   have hy := hY (YB s k) k ρ1 L1 hpre (Hp.le_trans hle h2) h3
   unfold dO at hy
   repeat' (first | (refine Zd (.tmp 25) ?_; refine qY rfl rfl (hy) ?_; rintro v ρ' L' hle ⟨Lj', rfl, ⟨rfl, hj⟩ | ⟨rfl, hj⟩⟩ <;> (try simp only [kM, kN, kO])) | (refine Zg ?_; first | (refine Ze ?_; refine qQ ?_) | refine Zj ?_) | refine Za ?_ | (refine Zh ?_; refine Zq ?_) | (refine Zi ?_; refine Zr ?_) | intro _)
   ·refine te_round_e (Lm := [_, _, _] ++ Lj') (R := R) (k + 1, ρ', Lj') rfl ⟨by omega, Hp.le_trans h2 hle, by dsimp only; rw [hsub]; exact hj⟩ Zm rfl tk inferInstance (by dsimp only; omega)
   ·exact te_end rfl rfl rfl (res0 rfl) (Hp.le_trans h2 hle) tk (by infer_instance) ⟨Lj', rfl, .inr hj⟩
 ·have hk2 : k = s.length := by omega
  subst hk2
  repeat' (first | (refine Zg ?_; first | (refine Ze ?_; refine qQ ?_) | refine Zj ?_) | refine Za ?_ | (refine Zh ?_; refine Zq ?_) | (refine Zi ?_; refine Zr ?_) | intro _)
  exact te_end rfl rfl rfl (res0 rfl) h2 tk (by infer_instance) ⟨L1, rfl, .inl h3⟩
theorem pending_spec (ρ : Hp) (b : Nat) : Spec Tryz.prog 36 [.pointer (some ⟨b, 0, none⟩)] ρ [] (fun v ρ' L' => ∃ bx, v = .func (.func 62) ⟨[]⟩ ⟨[.pointer (some ⟨bx, 0, none⟩)]⟩ ∧ ρ' = ρ ∧ L' = [[(bx, .cells ⟨[.pointer (some ⟨b, 0, none⟩)]⟩ 25 (0, 0))]]) := by
 refine Zf Tryz.func36 rfl rfl rfl fun u R => ?_
 simp only [Zv, List.cons_append, List.nil_append]
 repeat' (first | (refine Zg ?_; first | (refine Ze ?_; refine qQ ?_) | refine Zj ?_) | refine Za ?_ | (refine Zh ?_; refine Zq ?_) | (refine Zi ?_; refine Zr ?_) | intro _)
 exact qE ⟨_, rfl, rfl, rfl⟩
theorem pendTo_length (s : YO) (k : Nat) : (YB s k).length ≤ k := by
 unfold YB
 refine Nat.le_trans (List.length_filter_le _ _) (by simp)
theorem pend_length {s : YO} (h : SecsOk s) : (pend s).length ≤ 2048 := Nat.le_trans (pendTo_length s _) h.len
theorem filter_range_pre (p : Nat → Bool) : ∀ (n : Nat) (pre : List Nat) (y : Nat), (pre ++ [y]) <+: (List.range n).filter p → pre = (List.range y).filter p ∧ p y = true ∧ y < n
 | 0, pre, y, h => by simp at h
 | n + 1, pre, y, h => by
  rw [List.range_succ, List.filter_append] at h
  cases hp : p n with
  | false =>
   have h' : (pre ++ [y]) <+: (List.range n).filter p := by simpa [hp] using h
   obtain ⟨h1, h2, h3⟩ := filter_range_pre p n pre y h'
   exact ⟨h1, h2, by omega⟩
  | true =>
   have h' : (pre ++ [y]) <+: (List.range n).filter p ++ [n] := by simpa [hp] using h
   by_cases hl : (pre ++ [y]).length ≤ ((List.range n).filter p).length
   ·have h2 : (pre ++ [y]) <+: (List.range n).filter p := List.prefix_of_prefix_length_le h' (List.prefix_append _ _) hl
    obtain ⟨h1, h2, h3⟩ := filter_range_pre p n pre y h2
    exact ⟨h1, h2, by omega⟩
   ·have hlen := h'.length_le
    have he : pre ++ [y] = (List.range n).filter p ++ [n] := h'.eq_of_length (by simp at hl hlen ⊢; omega)
    obtain ⟨h1, h2⟩ := List.append_inj' he rfl
    simp only [List.cons.injEq, and_true] at h2
    subst h2
    exact ⟨h1, hp, by omega⟩
def setAfter (keep : Nat → Bool) (s : YO) (m : Nat) : YO := s.mapIdx fun i p => if isP s i && decide ((YB s i).length < m) && keep (YB s i).length then (p.2.getD p.1, p.2) else p
def settled (keep : Nat → Bool) (s : YO) : YO := (setAfter keep s (pend s).length).map fun p => (p.1, none)
theorem XJ {keep s m} : (setAfter keep s m).length = s.length := by simp [setAfter]
theorem Yn {keep s} : (settled keep s).length = s.length := by simp [settled, XJ]
theorem setAfter_zero {keep : Nat → Bool} {s : YO} : setAfter keep s 0 = s := by
 unfold setAfter
 apply List.ext_getElem (by simp)
 intro i h1 h2
 simp
theorem heldC_settled {keep s} : YR (settled keep s) = YR (setAfter keep s (pend s).length) := by simp [YR, settled, Function.comp_def]
theorem pendTo_lt {s : YO} {i j : Nat} (h : i < j) (hp : isP s i = true) : (YB s i).length < (YB s j).length := by
 have := (pendTo_pre (s := s) (k := i + 1) (m := j) (by omega)).length_le
 rw [pendTo_succ_t hp] at this
 simp at this; omega
theorem setAfter_succ {keep : Nat → Bool} {s : YO} {y : Nat} {h c : Blk} (hy : s[y]? = some (h, some c)) :
  setAfter keep s ((YB s y).length + 1) = if keep (YB s y).length then (setAfter keep s (YB s y).length).set y (c, some c) else setAfter keep s (YB s y).length := by
 have hlt : y < s.length := (List.getElem?_eq_some_iff.1 hy).1
 have hyv : s[y] = (h, some c) := (List.getElem?_eq_some_iff.1 hy).2
 have hpy : isP s y = true := by simp [isP, hy]
 have key : ∀ i, i < s.length → i ≠ y → isP s i = true → ((YB s i).length < (YB s y).length + 1 ↔ (YB s i).length < (YB s y).length) := by
  intro i hi hne hp
  rcases Nat.lt_trichotomy i y with h1 | h1 | h1
  ·have := pendTo_lt h1 hp; omega
  ·exact absurd h1 hne
  ·have := pendTo_lt h1 hpy; omega
 apply List.ext_getElem
 ·split <;> simp [setAfter]
 ·intro i h1 h2
  have hi : i < s.length := by simpa [setAfter] using h1
  by_cases e : i = y
  ·subst e
   split
   ·rename_i hk
    simp [setAfter, hpy, hk, hyv]
   ·rename_i hk
    simp [setAfter, hpy, hk]
  ·have hne : y ≠ i := fun h => e h.symm
   have : ∀ (q : YO) (hq : i < q.length) (v : Blk × Option Blk) (hq2 : i < (q.set y v).length), (q.set y v)[i] = q[i] := fun q hq v hq2 => by rw [List.getElem_set_ne hne]
   cases hp : isP s i with
   | false => split <;> simp [setAfter, hp, List.getElem_set_ne hne]
   | true =>
    have hk := key i hi e hp
    split <;> simp [setAfter, hp, List.getElem_set_ne hne, hk]
theorem SecsOk.setAfter {keep : Nat → Bool} {s : YO} {m : Nat} (h : SecsOk s) : SecsOk (setAfter keep s m) := by
 have hm : ∀ p ∈ E.setAfter keep s m, ∃ q ∈ s, p.2 = q.2 ∧ (p.1 = q.1 ∨ q.2 = some p.1) := by
  intro p hp
  obtain ⟨i, hi, rfl⟩ := List.mem_iff_getElem.1 hp
  have hi' : i < s.length := by simpa [E.setAfter] using hi
  refine ⟨s[i], List.getElem_mem hi', ?_⟩
  simp only [E.setAfter, List.getElem_mapIdx]
  split
  ·refine ⟨rfl, ?_⟩
   cases hc : s[i].2 with
   | none => exact .inl rfl
   | some c => exact .inr rfl
  ·exact ⟨rfl, .inl rfl⟩
 refine ⟨by rw [XJ]; exact h.len, by rw [XJ]; exact h.pos, fun p hp => ?_, fun p hp c hc => ?_⟩
 ·obtain ⟨q, hq, h1, h2 | h2⟩ := hm p hp
  ·rw [h2]; exact h.held q hq
  ·exact h.cached q hq _ h2
 ·obtain ⟨q, hq, h1, h2⟩ := hm p hp
  exact h.cached q hq c (by rw [← h1]; exact hc)
theorem SecsOk.settled {keep : Nat → Bool} {s : YO} (h : SecsOk s) : SecsOk (settled keep s) := by
 have h1 := h.setAfter (keep := keep) (m := (pend s).length)
 refine ⟨by rw [Yn]; exact h.len, by rw [Yn]; exact h.pos, fun p hp => ?_, fun p hp c hc => ?_⟩
 ·obtain ⟨q, hq, rfl⟩ := List.mem_map.1 hp
  exact h1.held q hq
 ·obtain ⟨q, hq, rfl⟩ := List.mem_map.1 hp
  cases hc
theorem YH {keep s} : YX (settled keep s) := fun p hp => by
 obtain ⟨q, hq, rfl⟩ := List.mem_map.1 hp
 rfl
theorem settle_spec (ρ : Hp) (b : Nat) (hb : HB) (mb : Nat) (es : List MapEntry) (ck : Nat) (s : YO) (ops armed failing : Int) (dead : Bool) (kf : Nat) (kc : List Value) (Xk : SH) (keep : Nat → Bool) [hkF : Fun Tryz.prog kf]
  (hK : ∀ nth, nth < 2048 → Spec Tryz.prog kf ([.int .i64 (nth : Nat)] ++ kc) ρ Xk (fun v ρ' L' => v = .bool (keep nth) ∧ ρ' = ρ ∧ L' = Xk)) (hs : SecsOk s) (hm : MapOk s es) :
  Spec Tryz.prog 47 [.pointer (some ⟨b, 0, none⟩), .func (.func kf) ⟨[]⟩ ⟨kc⟩] ρ ([[(b, dO hb mb s.length ops armed failing dead)], [(hb.b, .cells ⟨YR s ++ hb.sp⟩ 51 (0, 0))], [(mb, .map ⟨es⟩ ck)]] ++ Xk)
   (fun v ρ' L' => v = .tuple ⟨[]⟩ ∧ ρ.le ρ' ∧ ∃ mb' ck', L' = [[(b, dO hb mb' s.length ops armed failing dead)], [(hb.b, .cells ⟨YR (settled keep s) ++ hb.sp⟩ 51 (0, 0))], [(mb', .map ⟨[]⟩ ck')]] ++ Xk) := by
 rw [heldC_settled]
 have hpl := pend_length hs
 have hk := hm.keys
 refine Zf Tryz.func47 rfl rfl rfl fun u R => ?_
 simp only [Zv, List.cons_append, List.nil_append, dO]
 repeat' (first | (refine Zd (.func 36) ?_; refine qC rfl rfl (pending_spec _ _) ?_; rintro v ρ' L' hle ⟨bx, rfl, rfl, rfl⟩ <;> (try simp only [kM, kN, kO])) | (refine Zg ?_; first | (refine Ze ?_; refine qQ ?_) | refine Zj ?_) | refine Za ?_ | (refine Zh ?_; refine Zq ?_) | (refine Zi ?_; refine Zr ?_) | intro _)
 rename_i bd bk bn
 refine tc_rangeFunc (S := [[(bx, .cells ⟨[.pointer (some ⟨b, 0, none⟩)]⟩ 25 (0, 0))], [(b, dO hb mb s.length ops armed failing dead)], [(mb, .map ⟨es⟩ ck)]])
  (L0 := [[(bd, .cells ⟨[.pointer (some ⟨b, 0, none⟩)]⟩ 25 (0, 0))], [(bk, .cells ⟨[.func (.func kf) ⟨[]⟩ ⟨kc⟩]⟩ 76 (0, 0))], [(bn, .cells ⟨[.int .i64 (0 : Nat)]⟩ 3 (0, 0))], [(hb.b, .cells ⟨YR (setAfter keep s 0) ++ hb.sp⟩ 51 (0, 0))]] ++ Xk) (R := R) (R0 := ?r0) rfl rfl (pending1_iter ρ' b hb mb bx s ops armed failing dead es ck hm hs) (Hp.le_refl _) (fun _ => rfl) rfl
  (fun pre ρ1 Lu => ρ1 = ρ' ∧ Lu = [[(bd, .cells ⟨[.pointer (some ⟨b, 0, none⟩)]⟩ 25 (0, 0))], [(bk, .cells ⟨[.func (.func kf) ⟨[]⟩ ⟨kc⟩]⟩ 76 (0, 0))], [(bn, .cells ⟨[.int .i64 (pre.length : Nat)]⟩ 3 (0, 0))], [(hb.b, .cells ⟨YR (setAfter keep s pre.length) ++ hb.sp⟩ 51 (0, 0))]] ++ Xk) (fun _ _ _ => False) ?k1 ?k2 ⟨rfl, rfl⟩ ?round ?done ?stop
 case k1 => unfold dO; exact tk
 case k2 => rw [setAfter_zero]; exact tk
 case stop => rintro D0 c ρ' Lu _ hf; exact hf.elim
 case round =>
  rintro l tm r pre y ρ1 Lu u R' hpre hle' ⟨rfl, rfl⟩ hr hrec
  simp only [envP, natE, List.cons_append, List.nil_append]
  have hlen := hpre.length_le
  simp only [List.length_append, List.length_singleton] at hlen
  obtain ⟨hpe, hpy, hy⟩ := filter_range_pre _ _ _ _ hpre
  repeat' (first | (refine Zg ?_; first | (refine Ze ?_; refine qQ ?_) | refine Zj ?_) | refine Za ?_ | (refine Zh ?_; refine Zq ?_) | (refine Zi ?_; refine Zr ?_) | intro _)
  refine te_begin rfl hr (fun r' hbz hrec' => ?_)
  have hpl2 : (YB s y).length = pre.length := by rw [hpe]; rfl
  obtain ⟨hd0, c, hsy⟩ : ∃ h c, s[y]? = some (h, some c) := by
   simp only [isP, Option.isSome_iff_exists] at hpy
   obtain ⟨c, hc⟩ := hpy
   rw [List.getElem?_eq_getElem hy] at hc ⊢
   simp only [Option.bind_some] at hc
   exact ⟨s[y].1, c, by rw [← hc]⟩
  have hsv : s[y] = (hd0, some c) := (List.getElem?_eq_some_iff.1 hsy).2
  have hat := hm.at hy
  rw [hsv] at hat
  simp only [Option.map_some] at hat
  have hc64 : c.length = 64 := hs.cached s[y] (List.getElem_mem hy) c (by rw [hsv])
  have hcl : (c.map Zs).length = 64 := by simpa using hc64
  have hone := ZI c
  have hsa := hs.setAfter (keep := keep) (m := pre.length)
  have hhl : (YR (setAfter keep s pre.length) ++ hb.sp).length = s.length * 64 + hb.sp.length := by rw [heldC_length' _ hsa.held, XJ]
  have hnext := setAfter_succ (keep := keep) hsy
  rw [hpl2] at hnext
  have hst := stc_heldC' hb.sp (s := setAfter keep s pre.length) (i := y) (b := c) (some c) hsa.held hc64 (by rw [XJ]; exact hy)
  repeat' (first | (refine Zd (.tmp 9) ?_; refine qC rfl rfl (hK pre.length (by omega)) ?_; rintro v ρ' L' hle ⟨rfl, rfl, hx⟩ <;> (try simp only [kM, kN, kO, hx])) | (refine Zg ?_; first | (refine Ze ?_; refine qQ ?_) | refine Zj ?_) | refine Za ?_ | (refine Zh ?_; refine Zq ?_) | (refine Zi ?_; refine Zr ?_) | intro _)
  cases hkp : keep pre.length with
  | false =>
   rw [hkp] at hnext
   simp only [Bool.false_eq_true, if_false] at hnext
   repeat' (first | (refine Zg ?_; first | (refine Ze ?_; refine qQ ?_) | refine Zj ?_) | refine Za ?_ | (refine Zh ?_; refine Zq ?_) | (refine Zi ?_; refine Zr ?_) | intro _)
   refine Xj [(l, .loop r')] ?_
   refine te_next (Lu := [[(bd, .cells ⟨[.pointer (some ⟨b, 0, none⟩)]⟩ 25 (0, 0))], [(bk, .cells ⟨[.func (.func kf) ⟨[]⟩ ⟨kc⟩]⟩ 76 (0, 0))], [(bn, .cells ⟨[.int .i64 (pre.length + 1 : Nat)]⟩ 3 (0, 0))], [(hb.b, .cells ⟨YR (setAfter keep s pre.length) ++ hb.sp⟩ 51 (0, 0))]] ++ Xk) rfl (Hp.le_refl _) ⟨hrec'.tmps.trans hrec.tmps, hrec'.params.trans hrec.params, hrec'.assign.trans hrec.assign, hrec'.body.trans hrec.body⟩ tk tk inferInstance ?_
   refine ⟨rfl, ?_⟩
   simp [hnext]
  | true =>
   rw [hkp] at hnext
   simp only [if_true] at hnext
   rw [← hnext] at hst
   repeat' (first | (refine Zg ?_; first | (refine Ze ?_; refine qQ ?_) | refine Zj ?_) | refine Za ?_ | (refine Zh ?_; refine Zq ?_) | (refine Zi ?_; refine Zr ?_) | intro _)
   refine tc_draw 12 (by decide +kernel) (by decide +kernel) ?_
   repeat' (first | (refine jMv ?_; refine sMv ?_) | (refine jLd ?_; refine sLd ?_) | (refine jFa ?_; refine sFa ?_) | (refine jNc ?_; refine sNc ?_) | (refine jIa ?_; refine sIa ?_) | (refine jLu ?_; refine sLu ?_) | (refine j_gd ?_; first | refine sWant ?_ | refine sSkip ?_ | refine sSkipU ?_))
   all_goals refine ts_nil ?_
   repeat' (first | (refine Zg ?_; first | (refine Ze ?_; refine qQ ?_) | refine Zj ?_) | refine Za ?_ | (refine Zh ?_; refine Zq ?_) | (refine Zi ?_; refine Zr ?_) | intro _)
   rw [Nat.zero_add, hst]
   refine Xj [(l, .loop r')] ?_
   refine te_next (Lu := [[(bd, .cells ⟨[.pointer (some ⟨b, 0, none⟩)]⟩ 25 (0, 0))], [(bk, .cells ⟨[.func (.func kf) ⟨[]⟩ ⟨kc⟩]⟩ 76 (0, 0))], [(bn, .cells ⟨[.int .i64 (pre.length + 1 : Nat)]⟩ 3 (0, 0))], [(hb.b, .cells ⟨YR (setAfter keep s (pre.length + 1)) ++ hb.sp⟩ 51 (0, 0))]] ++ Xk) rfl (Hp.le_refl _) ⟨hrec'.tmps.trans hrec.tmps, hrec'.params.trans hrec.params, hrec'.assign.trans hrec.assign, hrec'.body.trans hrec.body⟩ tk tk inferInstance ?_
   refine ⟨rfl, ?_⟩
   simp
 case done =>
  rintro D0 ρ1 Lu hle' ⟨rfl, rfl⟩
  simp only [List.cons_append, List.nil_append, dO]
  repeat' (first | (refine Zg ?_; first | (refine Ze ?_; refine qQ ?_) | refine Zj ?_) | refine Za ?_ | (refine Zh ?_; refine Zq ?_) | (refine Zi ?_; refine Zr ?_) | intro _)
  exact te_end_d rfl rfl rfl inferInstance (res0 rfl) (Hp.le_refl _) tk (by infer_instance) ⟨rfl, Hp.le_refl _, _, _, rfl⟩
theorem sync11 (ρ : Hp) (nth : Nat) : Spec Tryz.prog 48 [.int .i64 (nth : Nat)] ρ [] (fun v ρ' L' => v = .bool true ∧ ρ' = ρ ∧ L' = []) := by
 refine Zf Tryz.func48 rfl rfl rfl fun u R => ?_
 simp only [Zv, List.cons_append, List.nil_append]
 repeat' (first | (refine Zg ?_; first | (refine Ze ?_; refine qQ ?_) | refine Zj ?_) | refine Za ?_ | (refine Zh ?_; refine Zq ?_) | (refine Zi ?_; refine Zr ?_) | intro _)
 exact qE ⟨rfl, rfl, rfl⟩
theorem sync2 (ρ : Hp) (X : SH) : Spec Tryz.prog 49 [] ρ X (fun v ρ' L' => v = .tuple ⟨[]⟩ ∧ ρ' = ρ ∧ L' = X) := by
 refine Zf Tryz.func49 rfl rfl rfl fun u R => ?_
 simp only [Zv, List.cons_append, List.nil_append]
 repeat' (first | (refine Zg ?_; first | (refine Ze ?_; refine qQ ?_) | refine Zj ?_) | refine Za ?_ | (refine Zh ?_; refine Zq ?_) | (refine Zi ?_; refine Zr ?_) | intro _)
 exact te_end rfl rfl rfl (res0 rfl) (Hp.le_refl _) take_app' (by infer_instance) ⟨rfl, rfl, rfl⟩
theorem sync1 (ρ : Hp) (b : Nat) (hb : HB) (mb bx : Nat) (es : List MapEntry) (ck : Nat) (s : YO) (ops armed failing : Int) (dead : Bool) (hs : SecsOk s) (hm : MapOk s es) :
  Spec Tryz.prog 46 [.pointer (some ⟨bx, 0, none⟩)] ρ ([(b, dO hb mb s.length ops armed failing dead)] :: [[(hb.b, .cells ⟨YR s ++ hb.sp⟩ 51 (0, 0))], [(mb, .map ⟨es⟩ ck)], [(bx, .cells ⟨[.pointer (some ⟨b, 0, none⟩)]⟩ 25 (0, 0))]])
   (fun v ρ' L' => v = .tuple ⟨[]⟩ ∧ ρ.le ρ' ∧ ∃ mb' ck', L' = [[(b, dO hb mb' s.length ops armed failing dead)], [(hb.b, .cells ⟨YR (settled (fun _ => true) s) ++ hb.sp⟩ 51 (0, 0))], [(mb', .map ⟨[]⟩ ck')]]) := by
 refine Zf Tryz.func46 rfl rfl rfl fun u R => ?_
 simp only [Zv, List.cons_append, List.nil_append]
 repeat' (first | (refine Zd (.func 47) ?_; refine qC rfl rfl (settle_spec _ _ _ _ _ _ _ _ _ _ _ 48 [] [] (fun _ => true) (fun nth _ => sync11 _ nth) hs hm) ?_; rintro v ρ' L' hle ⟨rfl, hle2, mb', ck', rfl⟩ <;> (try simp only [kM, kN, kO])) | (refine Zg ?_; first | (refine Ze ?_; refine qQ ?_) | refine Zj ?_) | refine Za ?_ | (refine Zh ?_; refine Zq ?_) | (refine Zi ?_; refine Zr ?_) | intro _)
 exact te_end rfl rfl rfl (res0 rfl) hle2 tk (by infer_instance) ⟨rfl, hle2, mb', ck', rfl⟩
def DS.sync (D : DS) : DS × Int :=
 if D.dead then (D, 9)
 else if D.armed = 0 then ({ D.tick with dead := true }, 9)
 else if D.failing = 0 then (D.tick, 8)
 else ({ D.tick with armed := cnt D.armed, secs := settled (fun _ => true) D.secs }, 0)
theorem dsync_spec (ρ : Hp) (b : Nat) (hb : HB) (mb : Nat) (es : List MapEntry) (ck : Nat) (D : DS) (hD : D.Ok) (hm : MapOk D.secs es) :
  Spec Tryz.prog 24 [.pointer (some ⟨b, 0, none⟩)] ρ (Xy b hb mb es ck D)
   (fun v ρ' L' => v = .int .i64 D.sync.2 ∧ ρ.le ρ' ∧ ∃ mb' es' ck', MapOk D.sync.1.secs es' ∧ L' = Xy b hb mb' es' ck' D.sync.1) := by
 obtain ⟨s, ops, armed, failing, dead⟩ := D
 obtain ⟨hs, a1, a2, f1, f2⟩ := hD
 dsimp only at hs a1 a2 f1 f2 hm
 have hpos : (0 : Int) < s.length := by have := hs.pos; omega
 cases dead with
 | true =>
  have he : DS.sync ⟨s, ops, armed, failing, true⟩ = (⟨s, ops, armed, failing, true⟩, 9) := by simp [DS.sync]
  simp only [he]
  refine Zf Tryz.func24 rfl rfl rfl fun u R => ?_
  simp only [Zv, List.cons_append, List.nil_append, Xy]
  repeat' (first | (refine Zd (.func 45) ?_; refine qC rfl rfl (does_dead _ _ _ _ _ _ _ _ _ _ _) ?_; rintro v ρ' L' hle ⟨rfl, rfl, rfl⟩ <;> (try simp only [kM, kN, kO])) | (refine Zg ?_; first | (refine Ze ?_; refine qQ ?_) | refine Zj ?_) | refine Za ?_ | (refine Zh ?_; refine Zq ?_) | (refine Zi ?_; refine Zr ?_) | intro _)
  exact qE ⟨rfl, Hp.le_refl _, mb, es, ck, hm, rfl⟩
 | false =>
  by_cases ha : armed = 0
  ·subst ha
   have he : DS.sync ⟨s, ops, 0, failing, false⟩ = (⟨s, IntKind.i64.wrap (ops + 1), 0, cnt failing, true⟩, 9) := by simp [DS.sync, DS.tick]
   simp only [he]
   refine Zf Tryz.func24 rfl rfl rfl fun u R => ?_
   simp only [Zv, List.cons_append, List.nil_append, Xy]
   repeat' (first | (refine Zd (.func 45) ?_; refine qC rfl rfl (does_dies _ _ _ _ _ _ _ _ _ _ _ [] _ (Int.le_refl 0) hpos f1 f2 (sync2 _ _)) ?_; rintro v ρ' L' hle ⟨rfl, v0, h0, rfl, rfl⟩ <;> (try simp only [kM, kN, kO])) | (refine Zg ?_; first | (refine Ze ?_; refine qQ ?_) | refine Zj ?_) | refine Za ?_ | (refine Zh ?_; refine Zq ?_) | (refine Zi ?_; refine Zr ?_) | intro _)
   exact qE ⟨rfl, Hp.le_refl _, mb, es, ck, hm, rfl⟩
  ·by_cases hf : failing = 0
   ·subst hf
    have he : DS.sync ⟨s, ops, armed, 0, false⟩ = (⟨s, IntKind.i64.wrap (ops + 1), armed, -1, false⟩, 8) := by simp [DS.sync, DS.tick, ha, cnt]
    simp only [he]
    refine Zf Tryz.func24 rfl rfl rfl fun u R => ?_
    simp only [Zv, List.cons_append, List.nil_append, Xy]
    repeat' (first | (refine Zd (.func 45) ?_; refine qC rfl rfl (does_fail_w _ _ _ _ _ _ _ _ _ _ _ (Int.le_refl 0) hpos ha) ?_; rintro v ρ' L' hle ⟨rfl, rfl, rfl⟩ <;> (try simp only [kM, kN, kO])) | (refine Zg ?_; first | (refine Ze ?_; refine qQ ?_) | refine Zj ?_) | refine Za ?_ | (refine Zh ?_; refine Zq ?_) | (refine Zi ?_; refine Zr ?_) | intro _)
    exact qE ⟨rfl, Hp.le_refl _, mb, es, ck, hm, rfl⟩
   ·have he : DS.sync ⟨s, ops, armed, failing, false⟩ = (⟨settled (fun _ => true) s, IntKind.i64.wrap (ops + 1), cnt armed, cnt failing, false⟩, 0) := by simp [DS.sync, DS.tick, ha, hf]
    simp only [he]
    refine Zf Tryz.func24 rfl rfl rfl fun u R => ?_
    simp only [Zv, List.cons_append, List.nil_append, Xy, Yn]
    repeat' (first | (refine Zd (.func 45) ?_; refine qC rfl rfl (does_ok_w _ _ _ _ _ _ _ _ _ _ _ _ _ _ _ (Int.le_refl 0) hpos hf f1 f2 ha a1 a2 (sync1 _ _ _ _ _ es ck s _ _ _ _ hs hm)) ?_; rintro v ρ' L' hle ⟨rfl, v0, h0, hle2, mb', ck', rfl⟩ <;> (try simp only [kM, kN, kO])) | (refine Zg ?_; first | (refine Ze ?_; refine qQ ?_) | refine Zj ?_) | refine Za ?_ | (refine Zh ?_; refine Zq ?_) | (refine Zi ?_; refine Zr ?_) | intro _)
    exact te_end rfl rfl rfl (res1 rfl (ZY rfl)) hle2 tk (by infer_instance) ⟨rfl, hle2, mb', [], ck', MapOk.empty YH, rfl⟩
def DS.crash (keep : Nat → Bool) (D : DS) : DS := ⟨settled keep D.secs, D.ops, -1, -1, false⟩
def DS.fail (D : DS) (n : Int) : DS × Int := if D.dead then (D, 9) else ({ D with failing := max n (-1) }, 0)
theorem len_spec (ρ : Hp) (b : Nat) (hb : HB) (mb n : Nat) (ops armed failing : Int) (dead : Bool) : Spec Tryz.prog 50 [.pointer (some ⟨b, 0, none⟩)] ρ [[(b, dO hb mb n ops armed failing dead)]]
  (fun v ρ' L' => v = .int .i64 (n : Nat) ∧ ρ' = ρ ∧ L' = [[(b, dO hb mb n ops armed failing dead)]]) := by
 refine Zf Tryz.func50 rfl rfl rfl fun u R => ?_
 simp only [Zv, List.cons_append, List.nil_append, dO]
 repeat' (first | (refine Zg ?_; first | (refine Ze ?_; refine qQ ?_) | refine Zj ?_) | refine Za ?_ | (refine Zh ?_; refine Zq ?_) | (refine Zi ?_; refine Zr ?_) | intro _)
 exact qE ⟨rfl, rfl, rfl⟩
def fresh (n : Nat) : YO := List.replicate n (XL, none)
def DS.new (n : Nat) : DS := ⟨fresh n, 0, -1, -1, false⟩
theorem fresh_ok {n : Nat} (h0 : 0 < n) (h1 : n ≤ 2048) : SecsOk (fresh n) := by
 refine ⟨by simpa [fresh] using h1, by simpa [fresh] using h0, fun p hp => ?_, fun p hp c hc => ?_⟩ <;> (obtain ⟨_, rfl⟩ := List.mem_replicate.1 hp)
 ·rfl
 ·cases hc
theorem fresh_empty {n : Nat} : YX (fresh n) := fun p hp => by obtain ⟨_, rfl⟩ := List.mem_replicate.1 hp; rfl
theorem madeCells_rep (x : Value) (m : Nat) : ∀ n, 0 < m → madeCells ⟨List.replicate m x⟩ n = ⟨List.replicate n x⟩ := by
 intro n hm
 apply Array.ext
 ·simp [madeCells]
 ·intro i h1 h2
  have h3 : i % m < m := Nat.mod_lt _ hm
  simp [madeCells, h3]
theorem heldC_fresh (n : Nat) : YR (fresh n) = List.replicate (n * 64) (.int .u8 0) := by
 unfold YR fresh
 rw [List.map_replicate]
 have : XL.map Zs = List.replicate 64 (Value.int .u8 0) := by rfl
 rw [this, List.flatten_replicate_replicate]
theorem new_spec (ρ : Hp) (n : Nat) (h0 : 0 < n) (h1 : n ≤ 2048) : Spec Tryz.prog 6 [.int .i64 (n : Nat)] ρ [] (fun v ρ' L' => ρ' = ρ ∧ ∃ b hb mb ck, v = .tuple ⟨[.pointer (some ⟨b, 0, none⟩), .int .i64 0]⟩ ∧ L' = Xy b hb mb [] ck (DS.new n)) := by
 refine Zf Tryz.func6 rfl rfl rfl fun u R => ?_
 have hl : (DS.new n).secs.length = n := by simp [DS.new, fresh]
 simp only [Zv, List.cons_append, List.nil_append, Xy, hl]
 simp only [DS.new, heldC_fresh]
 repeat' (first | (refine tl_makeSlice rfl rfl (by omega) (by omega) (by omega) (by omega) rfl (fun hbn => ?_); simp only [Value.cells, madeCells_rep _ 64 _ (by decide), Int.toNat_natCast]) | (refine Zg ?_; first | (refine Ze ?_; refine qQ ?_) | refine Zj ?_) | refine Za ?_ | (refine Zh ?_; refine Zq ?_) | (refine Zi ?_; refine Zr ?_) | intro _)
 rename_i bm bd
 refine qE (L' := [[(bd, .cells _ 69 (0, 0))], [(hbn, _)], [(bm, .map _ _)]]) ⟨rfl, bd, ⟨hbn, n, []⟩, bm, 0, rfl, ?_⟩
 simp only [List.append_nil]
 rfl
theorem Hp.le_get {ρ ρ' : Hp} (h : ρ.le ρ') {b : Nat} {o : Obj} (hb : ρ b = some o) : ρ' b = some o := hp_get h hb
def bb (f : Bool) : Value := .bool f
structure KeepIn (ρ : Hp) (ka : Option Addr) (kn kp : Nat) (ks : List Bool) : Prop where
 le : kn ≤ kp
 len : ks.length = kn
 big : kn ≤ 9223372036854775807
 out : kn = 0 ∨ ∃ kb off C T fr, ka = some ⟨kb, off, none⟩ ∧ ρ kb = some (.cells ⟨C⟩ T fr) ∧ (C.drop off).take kn = ks.map bb
theorem KeepIn.mono {ρ ρ' : Hp} {ka kn kp ks} (h : KeepIn ρ ka kn kp ks) (hle : ρ.le ρ') : KeepIn ρ' ka kn kp ks :=
 ⟨h.le, h.len, h.big, by
  rcases h.out with h0 | ⟨kb, off, C, T, fr, h1, h2, h3⟩
  ·exact .inl h0
  ·exact .inr ⟨kb, off, C, T, fr, h1, Hp.le_get hle h2, h3⟩⟩
theorem MapOk.fail {D : DS} {es n} (h : MapOk D.secs es) : MapOk (D.fail n).1.secs es := by unfold DS.fail; split <;> exact h
theorem len_disk (ρ : Hp) (b : Nat) (hb : HB) (mb : Nat) (es : List MapEntry) (ck : Nat) (D : DS) : Spec Tryz.prog 50 [.pointer (some ⟨b, 0, none⟩)] ρ (Xy b hb mb es ck D) (fun v ρ' L' => v = .int .i64 (D.secs.length : Nat) ∧ ρ' = ρ ∧ L' = Xy b hb mb es ck D) := by
 refine ((len_spec ρ b hb mb D.secs.length D.ops D.armed D.failing D.dead).frame [[(hb.b, .cells ⟨YR D.secs ++ hb.sp⟩ 51 (0, 0))], [(mb, .map ⟨es⟩ ck)]]).mono ?_
 rintro v ρ' L' _ ⟨L1, rfl, rfl, rfl, rfl⟩
 exact ⟨rfl, rfl, rfl⟩
theorem read_len {D : DS} (hD : D.Ok) (i : Int) : (D.read i).2.1.length = 64 := by
 unfold DS.read
 split
 ·rfl
 ·split
  ·rfl
  ·split
   ·rfl
   ·rename_i h1 h2 h3
    have hlt : i.toNat < D.secs.length := by omega
    simp only [List.getElem?_eq_getElem hlt, Option.getD_some]
    unfold says1
    cases hc : D.secs[i.toNat].2 with
    | none => exact hD.secs.held _ (List.getElem_mem hlt)
    | some c => exact hD.secs.cached _ (List.getElem_mem hlt) c hc
theorem read_secs {D : DS} (i : Int) : (D.read i).1.secs = D.secs := by
 unfold DS.read
 split
 ·rfl
 ·split
  ·rfl
  ·split <;> rfl
theorem MapOk.read {D : DS} {es i} (h : MapOk D.secs es) : MapOk (D.read i).1.secs es := by rw [read_secs]; exact h
theorem new_okD {n : Nat} (h0 : 0 < n) (h1 : n ≤ 2048) : (DS.new n).Ok := ⟨fresh_ok h0 h1, by simp [DS.new], by simp [DS.new], by simp [DS.new], by simp [DS.new]⟩
theorem OwnS.pos {v n xs sp sz} (h : OwnS v n xs sp sz) (h0 : 0 < n) : ∃ b cap, v = .slice (some ⟨b, 0, none⟩) n cap := by
 rcases h.out with ⟨_, h2, _⟩ | ⟨b, cap, h1, _⟩
 ·omega
 ·exact ⟨b, cap, h1⟩
theorem OwnS.full {n : Nat} (b : Nat) (xs : List Value) (h : xs.length = n) : OwnS (.slice (some ⟨b, 0, none⟩) n n) n xs [] 1 := ⟨.inr ⟨b, n, rfl, by omega, by simp; omega, Nat.le_refl _⟩⟩
theorem cnt_lo {n : Int} : -1 ≤ cnt n := by unfold cnt; omega
theorem cnt_hi {n : Int} (h : n ≤ 9223372036854775807) : cnt n ≤ 9223372036854775807 := by unfold cnt; omega
theorem DS.Ok.tick {D : DS} (h : D.Ok) : D.tick.Ok := ⟨h.secs, h.a1, h.a2, cnt_lo, cnt_hi h.f2⟩
theorem DS.Ok.read {D : DS} {i : Int} (h : D.Ok) : (D.read i).1.Ok := by
 unfold DS.read
 split
 ·exact h
 ·split
  ·exact h
  ·split <;> exact h.tick
theorem DS.Ok.write {D : DS} {i : Int} {b : Blk} (h : D.Ok) (hb : b.length = 64) : (D.write i b).1.Ok := by
 unfold DS.write
 split
 ·exact h
 ·split
  ·exact h
  ·rename_i h1 h2
   have hi : i.toNat < D.secs.length := by omega
   split
   ·exact ⟨h.secs.putC hb hi, h.tick.a1, h.tick.a2, h.tick.f1, h.tick.f2⟩
   ·split
    ·exact h.tick
    ·exact ⟨h.secs.putC hb hi, cnt_lo, cnt_hi h.a2, h.tick.f1, h.tick.f2⟩
theorem DS.Ok.sync {D : DS} (h : D.Ok) : D.sync.1.Ok := by
 unfold DS.sync
 split
 ·exact h
 ·split
  ·exact ⟨h.secs, h.tick.a1, h.tick.a2, h.tick.f1, h.tick.f2⟩
  ·split
   ·exact h.tick
   ·exact ⟨h.secs.settled, cnt_lo, cnt_hi h.a2, h.tick.f1, h.tick.f2⟩
theorem DS.Ok.crash {D : DS} {keep} (h : D.Ok) : (D.crash keep).Ok := ⟨h.secs.settled, by simp [DS.crash], by simp [DS.crash], by simp [DS.crash], by simp [DS.crash]⟩
structure DS.Calm (D : DS) : Prop where
 dead : D.dead = false
 armed : D.armed = -1
 failing : D.failing = -1
theorem new_calm {n} : (DS.new n).Calm := ⟨rfl, rfl, rfl⟩
theorem DS.Calm.read {D : DS} {i : Int} (h : D.Calm) : (D.read i).1.Calm := by
 obtain ⟨s, o, a, f, d⟩ := D
 obtain ⟨h1, h2, h3⟩ := h
 simp only at h1 h2 h3
 subst h1; subst h2; subst h3
 unfold DS.read
 simp only [Bool.false_eq_true, if_false]
 split
 ·exact ⟨rfl, rfl, rfl⟩
 ·exact ⟨rfl, rfl, rfl⟩
theorem DS.Calm.write {D : DS} {i : Int} {b : Blk} (h : D.Calm) : (D.write i b).1.Calm := by
 obtain ⟨s, o, a, f, d⟩ := D
 obtain ⟨h1, h2, h3⟩ := h
 simp only at h1 h2 h3
 subst h1; subst h2; subst h3
 unfold DS.write
 simp only [Bool.false_eq_true, if_false]
 split
 ·exact ⟨rfl, rfl, rfl⟩
 ·exact ⟨rfl, rfl, rfl⟩
theorem DS.Calm.sync_eq {D : DS} (h : D.Calm) : D.sync = (⟨settled (fun _ => true) D.secs, IntKind.i64.wrap (D.ops + 1), -1, -1, false⟩, 0) := by
 obtain ⟨s, o, a, f, d⟩ := D
 obtain ⟨h1, h2, h3⟩ := h
 simp only at h1 h2 h3
 subst h1; subst h2; subst h3
 rfl
theorem and_one (q : Nat) : andI (q : Int) 1 = ((q % 2 : Nat) : Int) := by simp [andI, Nat.and_one_is_mod]
theorem pow_facts : ∀ k, k < 32 → (517762881 / 2 ^ (31 - k) % 2 = 1 ↔ (2197175160).testBit k = true) ∧ 517762881 / 2 ^ (31 - k) < 4294967296 := by decide +kernel
theorem power_spec (ρ : Hp) (k : Nat) (hk : k < 32) : Spec Tryz.prog 66 [.int .i64 (31 - (k : Int))] ρ [] (fun z ρ' L' => z = .bool ((2197175160).testBit k) ∧ ρ' = ρ ∧ L' = []) := by
 obtain ⟨h1, h2⟩ := pow_facts k hk
 have hdv : (517762881 : Int) / 2 ^ (31 - k) = ((517762881 / 2 ^ (31 - k) : Nat) : Int) := by
  rw [Int.natCast_ediv, Int.natCast_pow]; rfl
 generalize hq : 517762881 / 2 ^ (31 - k) = q at *
 have hand : andI (q : Int) 1 = ((q % 2 : Nat) : Int) := by simp [andI, Nat.and_one_is_mod]
 refine Zf Tryz.func66 rfl rfl rfl fun u R => ?_
 simp only [Zv, List.cons_append, List.nil_append]
 repeat' (first | (refine iSr ?_; refine Yb (y_shr (c := 31 - k) rfl rfl (by omega) (by simp only [IntKind.bits]; omega)) rfl rfl ?_; rw [hdv]) | (refine Zg ?_; first | (refine Ze ?_; refine qQ ?_) | refine Zj ?_ | refine qAn ?_ | refine qXo ?_ | refine qNt ?_) | refine Za ?_ | (refine Zh ?_; refine Zq ?_) | (refine Zi ?_; refine Zr ?_) | intro _)
 refine qF (L' := []) ?_
 exact ⟨bool_eq (by rw [← h1, hand]; simp; try omega), rfl, rfl⟩
def msgF (l : List UInt8) : List Bool := l.flatMap Yw ++ List.replicate 32 false
theorem bitsOf_len (c : UInt8) : (Yw c).length = 8 := by simp [Yw]
theorem bitsOf_take {c : UInt8} {k : Nat} (h : k < 8) : (Yw c).take (k + 1) = (Yw c).take k ++ [c.toNat.testBit k] := by
 rw [List.take_succ_eq_append_getElem (by simp [Yw]; exact h)]
 simp [Yw]
theorem flat_bits_len (l : List UInt8) : (l.flatMap Yw).length = 8 * l.length := by
 induction l with
 | nil => rfl
 | cons a r ih => rw [List.flatMap_cons, List.length_append, bitsOf_len, ih, List.length_cons]; omega
theorem msgF_len (l : List UInt8) : (msgF l).length = 8 * l.length + 32 := by unfold msgF; rw [List.length_append, flat_bits_len, List.length_replicate]
theorem bits_spec (ρ : Hp) (a : Option Addr) (n c : Nat) (l : List UInt8) (h : SIn ρ Zs a n l) (hn : n ≤ 1000) :
  Spec Tryz.prog 65 [.slice a n c, .int .i64 32] ρ [] (fun z ρ' L' => ρ' = ρ ∧ ∃ va vc sp, z = .slice va (8 * n + 32) vc ∧ OwnS (.slice va (8 * n + 32) vc) (8 * n + 32) ((msgF l).map bb) sp 1 ∧ L' = [Ye (.slice va (8 * n + 32) vc) ((msgF l).map bb) sp 4]) := by
 have hl := h.len
 refine Zf Tryz.func65 rfl rfl rfl fun u R => ?_
 simp only [Zv, List.cons_append, List.nil_append]
 repeat' (first | (refine Zg ?_; first | (refine Ze ?_; refine qQ ?_) | refine Zj ?_ | refine qAn ?_ | refine qXo ?_ | refine qNt ?_) | refine Za ?_ | (refine Zh ?_; refine Zq ?_) | (refine Zi ?_; refine Zr ?_) | intro _)
 refine ZB [(0, _), (1, _), (4, _)] (fun (ζ : (Nat) × (Value) × (List Value)) => [(6, .int .i64 ζ.1), (5, ζ.2.1)]) (fun (ζ : (Nat) × (Value) × (List Value)) => ρ) (fun (ζ : (Nat) × (Value) × (List Value)) => [Ye ζ.2.1 (((l.take ζ.1).flatMap Yw).map bb) ζ.2.2 4]) (fun (ζ : (Nat) × (Value) × (List Value)) => ζ.1 ≤ n ∧ OwnS ζ.2.1 (8 * ζ.1) (((l.take ζ.1).flatMap Yw).map bb) ζ.2.2 1) (fun (ζ : (Nat) × (Value) × (List Value)) => n - ζ.1) ((0, .slice none 0 0, [])) (⟨Nat.zero_le _, OwnS.nil 1⟩) Zm Zm rfl tk ?_
 rintro ⟨i, v, sp⟩ hI
 try simp only [List.cons_append, List.nil_append, List.append_assoc, List.append_eq] at hI ⊢
 try dsimp only at hI ⊢
 obtain ⟨hi, hown⟩ := hI
 by_cases hlt : i < n
 ·obtain ⟨b, off, C, T, fr, e1, hb, hc⟩ := h.get (show i < l.length by omega)
  have hts : l.take (i + 1) = l.take i ++ [l[i]'(by omega)] := List.take_succ_eq_append_getElem (show i < l.length by omega)
  generalize l[i]'(by omega) = x at *
  rw [e1]
  rw [show ((l.take i).flatMap Yw).map bb = ((l.take i).flatMap Yw ++ (Yw x).take 0).map bb by simp] at hown ⊢
  repeat' (first | (refine Zg ?_; first | (refine Ze ?_; refine qQ ?_) | refine Zj ?_ | refine qAn ?_ | refine qXo ?_ | refine qNt ?_) | refine Za ?_ | (refine Zh ?_; refine Zq ?_) | (refine Zi ?_; refine Zr ?_) | intro _)
  refine ZB [(0, _), (1, _), (4, _), (6, _), (9, _), (10, _), (11, _), (12, _)] (fun (ζ : (Nat) × (Value) × (List Value)) => [(7, .int .i64 ζ.1), (5, ζ.2.1)]) (fun (ζ : (Nat) × (Value) × (List Value)) => ρ) (fun (ζ : (Nat) × (Value) × (List Value)) => [Ye ζ.2.1 (((l.take i).flatMap Yw ++ (Yw x).take ζ.1).map bb) ζ.2.2 4]) (fun (ζ : (Nat) × (Value) × (List Value)) => ζ.1 ≤ 8 ∧ OwnS ζ.2.1 (8 * i + ζ.1) (((l.take i).flatMap Yw ++ (Yw x).take ζ.1).map bb) ζ.2.2 1) (fun (ζ : (Nat) × (Value) × (List Value)) => 8 - ζ.1) ((0, v, sp)) (⟨Nat.zero_le _, hown⟩) Zm Zm rfl tk ?_
  rintro ⟨k, v2, sp2⟩ hI
  try simp only [List.cons_append, List.nil_append, List.append_assoc, List.append_eq] at hI ⊢
  try dsimp only at hI ⊢
  obtain ⟨hk, hown2⟩ := hI
  by_cases hk8 : k < 8
  ·obtain ⟨va, vc, rfl, _⟩ := hown2.slice
   have hbt := bitsOf_take (c := x) hk8
   have hmk : min k 8 = k := by omega
   have hdv : ((x.toNat : Int)) / 2 ^ min k 8 = ((x.toNat / 2 ^ k : Nat) : Int) := by rw [hmk, Int.natCast_ediv, Int.natCast_pow]; rfl
   have hlt256 : x.toNat / 2 ^ k < 256 := Nat.lt_of_le_of_lt (Nat.div_le_self _ _) x.toNat_lt
   have hbv : ((((x.toNat / 2 ^ k) % 2 : Nat) : Int) == 1) = x.toNat.testBit k := by
    rw [Nat.testBit_eq_decide_div_mod_eq]
    rcases Nat.mod_two_eq_zero_or_one (x.toNat / 2 ^ k) with h0 | h0
    all_goals (rw [h0]; decide)
   have hand := and_one (x.toNat / 2 ^ k)
   generalize hqq : x.toNat / 2 ^ k = q at *
   have hxx : ((l.take i).flatMap Yw ++ (Yw x).take k).map bb ++ [bb (x.toNat.testBit k)] = ((l.take i).flatMap Yw ++ (Yw x).take (k + 1)).map bb := by rw [hbt]; simp
   repeat' (first | (refine Zg ?_; first | (refine Ze ?_; refine qQ ?_) | refine Zj ?_ | refine qAn ?_ | refine qXo ?_ | refine qNt ?_) | refine Za ?_ | (refine Zh ?_; refine Zq ?_) | (refine Zi ?_; refine Zr ?_) | intro _)
   simp only [hdv]
   repeat' (first | (refine Zg ?_; first | (refine Ze ?_; refine qQ ?_) | refine Zj ?_ | refine qAn ?_ | refine qXo ?_ | refine qNt ?_) | refine Za ?_ | (refine Zh ?_; refine Zq ?_) | (refine Zi ?_; refine Zr ?_) | intro _)
   simp only [hand]
   repeat' (first | (refine Zg ?_; first | (refine Ze ?_; refine qQ ?_) | refine Zj ?_ | refine qAn ?_ | refine qXo ?_ | refine qNt ?_) | refine Za ?_ | (refine Zh ?_; refine Zq ?_) | (refine Zi ?_; refine Zr ?_) | intro _)
   simp only [hbv]
   repeat' (first | (refine ZC rfl rfl rfl rfl (by simp) rfl rfl (fun _ => ?_)) | (refine Yh (ys := [bb (x.toNat.testBit k)]) (m := 1) rfl rfl hown2 (hR := by infer_instance) SrcV.lit rfl rfl (by decide) rfl (by omega) (by omega) rfl (fun v9 sp9 hown9 => ?_); rw [hxx] at hown9 ⊢) | (refine Zg ?_; first | (refine Ze ?_; refine qQ ?_) | refine Zj ?_ | refine qAn ?_ | refine qXo ?_ | refine qNt ?_) | refine Za ?_ | (refine Zh ?_; refine Zq ?_) | (refine Zi ?_; refine Zr ?_) | intro _)
   refine Zp (k + 1, v9, sp9) (⟨hk8, hown9⟩) Zm Zm rfl tk inferInstance (by first | omega | (dsimp only; omega))
  ·obtain rfl : k = 8 := by omega
   have h8 : (l.take i).flatMap Yw ++ (Yw x).take 8 = (l.take (i + 1)).flatMap Yw := by
    have hb8 : (Yw x).take 8 = Yw x := List.take_of_length_le (by rw [bitsOf_len]; exact Nat.le_refl _)
    rw [hts, List.flatMap_append, hb8, List.flatMap_cons, List.flatMap_nil, List.append_nil]
   rw [h8] at hown2 ⊢
   repeat' (first | (refine Zg ?_; first | (refine Ze ?_; refine qQ ?_) | refine Zj ?_ | refine qAn ?_ | refine qXo ?_ | refine qNt ?_) | refine Za ?_ | (refine Zh ?_; refine Zq ?_) | (refine Zi ?_; refine Zr ?_) | intro _)
   rw [← e1]
   refine Zp (i + 1, v2, sp2) (⟨hlt, hown2⟩) Zm Zm rfl tk inferInstance (by first | omega | (dsimp only; omega))
 ·obtain rfl : i = n := by omega
  rw [List.take_of_length_le (by omega)] at hown ⊢
  repeat' (first | (refine Zg ?_; first | (refine Ze ?_; refine qQ ?_) | refine Zj ?_ | refine qAn ?_ | refine qXo ?_ | refine qNt ?_) | refine Za ?_ | (refine Zh ?_; refine Zq ?_) | (refine Zi ?_; refine Zr ?_) | intro _)
  rw [show (l.flatMap Yw).map bb = (l.flatMap Yw ++ List.replicate 0 false).map bb by simp] at hown ⊢
  refine ZB [(1, _), (4, _)] (fun (ζ : (Nat) × (Value) × (List Value)) => [(8, .int .i64 ζ.1), (5, ζ.2.1)]) (fun (ζ : (Nat) × (Value) × (List Value)) => ρ) (fun (ζ : (Nat) × (Value) × (List Value)) => [Ye ζ.2.1 ((l.flatMap Yw ++ List.replicate ζ.1 false).map bb) ζ.2.2 4]) (fun (ζ : (Nat) × (Value) × (List Value)) => ζ.1 ≤ 32 ∧ OwnS ζ.2.1 (8 * i + ζ.1) ((l.flatMap Yw ++ List.replicate ζ.1 false).map bb) ζ.2.2 1) (fun (ζ : (Nat) × (Value) × (List Value)) => 32 - ζ.1) ((0, v, sp)) (⟨Nat.zero_le _, hown⟩) Zm Zm rfl tk ?_
  rintro ⟨k, v2, sp2⟩ hI
  try simp only [List.cons_append, List.nil_append, List.append_assoc, List.append_eq] at hI ⊢
  try dsimp only at hI ⊢
  obtain ⟨hk, hown2⟩ := hI
  obtain ⟨va, vc, rfl, _⟩ := hown2.slice
  by_cases hk8 : k < 32
  ·have hxx : (l.flatMap Yw ++ List.replicate k false).map bb ++ [bb false] = (l.flatMap Yw ++ List.replicate (k + 1) false).map bb := by rw [List.replicate_succ']; simp
   repeat' (first | (refine ZC rfl rfl rfl rfl (by simp) rfl rfl (fun _ => ?_)) | (refine Yh (ys := [bb false]) (m := 1) rfl rfl hown2 (hR := by infer_instance) SrcV.lit rfl rfl (by decide) rfl (by omega) (by omega) rfl (fun v9 sp9 hown9 => ?_); rw [hxx] at hown9 ⊢) | (refine Zg ?_; first | (refine Ze ?_; refine qQ ?_) | refine Zj ?_ | refine qAn ?_ | refine qXo ?_ | refine qNt ?_) | refine Za ?_ | (refine Zh ?_; refine Zq ?_) | (refine Zi ?_; refine Zr ?_) | intro _)
   refine Zp (k + 1, v9, sp9) (⟨hk8, hown9⟩) Zm Zm rfl tk inferInstance (by first | omega | (dsimp only; omega))
  ·obtain rfl : k = 32 := by omega
   repeat' (first | (refine Zg ?_; first | (refine Ze ?_; refine qQ ?_) | refine Zj ?_ | refine qAn ?_ | refine qXo ?_ | refine qNt ?_) | refine Za ?_ | (refine Zh ?_; refine Zq ?_) | (refine Zi ?_; refine Zr ?_) | intro _)
   exact qE ⟨rfl, va, vc, sp2, rfl, hown2, rfl⟩
theorem row_ext {n : Nat} {f g : Nat → Bool} (h : ∀ j, j < n → f j = g j) : (List.range n).map f = (List.range n).map g :=
 List.map_congr_left (fun j hj => h j (List.mem_range.1 hj))
def invF (msg : List Bool) (k : Nat) : List Bool := (List.range msg.length).map fun j => if j < k then !msg.getD j false else msg.getD j false
theorem invF_zero (msg : List Bool) : invF msg 0 = msg := by
 apply List.ext_getElem (by simp [invF])
 intro j h1 h2
 simp only [invF, List.getElem_map, List.getElem_range, Nat.not_lt_zero, if_false]
 rw [List.getD_eq_getElem?_getD, List.getElem?_eq_getElem h2]; rfl
theorem invF_at {msg : List Bool} {k : Nat} (h : k < msg.length) : (invF msg k)[k]? = some (msg.getD k false) := by simp [invF, h]
theorem range_set {n k : Nat} {f : Nat → Bool} {y : Bool} : ((List.range n).map f).set k y = (List.range n).map fun j => if j = k then y else f j := by
 apply List.ext_getElem (by simp)
 intro j h1 h2
 simp only [List.getElem_set, List.getElem_map, List.getElem_range]
 by_cases e : k = j
 ·rw [if_pos e, if_pos e.symm]
 ·rw [if_neg e, if_neg (fun c => e c.symm)]
theorem invF_step (msg : List Bool) (k : Nat) : (invF msg k).set k (!msg.getD k false) = invF msg (k + 1) := by
 unfold invF
 rw [range_set]
 refine row_ext (fun j _ => ?_)
 by_cases e : j = k
 ·subst e; rw [if_pos rfl, if_pos (by omega)]
 ·rw [if_neg e]
  by_cases h : j < k
  ·rw [if_pos h, if_pos (by omega)]
  ·rw [if_neg h, if_neg (by omega)]
theorem ones_bit : ∀ j, j < 32 → (4294967295 : Nat).testBit j = true := by decide
theorem invF_row (msg : List Bool) : invF msg 32 = rowF msg 4294967295 0 := by
 unfold invF rowF
 refine row_ext (fun j _ => ?_)
 rw [if_neg (Nat.not_lt_zero j)]
 by_cases h : j < 32
 ·rw [if_pos h, if_pos (by omega), Nat.sub_zero, ones_bit j h, Bool.true_xor]
 ·rw [if_neg h, if_neg (by omega)]
theorem bit32 {reg : Nat} (h : reg < 4294967296) : reg.testBit 32 = false := Nat.testBit_lt_two_pow h
theorem rowF_skip {msg : List Bool} {reg i : Nat} (hr : reg < 4294967296) (hb : (reg.testBit 0 ^^ msg.getD i false) = false) : rowF msg reg i = rowF msg (XR reg (msg.getD i false)) (i + 1) := by
 unfold rowF
 refine row_ext (fun j _ => ?_)
 rcases Nat.lt_trichotomy j i with h | h | h
 ·rw [if_pos h, if_pos (by omega)]
 ·subst h
  rw [if_neg (by omega), if_pos (by omega), if_pos (by omega), Nat.sub_self, hb]
 ·rw [if_neg (by omega), if_neg (show ¬ j < i + 1 by omega)]
  have e : (XR reg (msg.getD i false)).testBit (j - (i + 1)) = reg.testBit (j - i) := by
   rw [bstep_bit, hb, Bool.false_and, Bool.xor_false]
   congr 1; omega
  by_cases h2 : j < i + 32
  ·rw [if_pos h2, if_pos (by omega), e]
  ·rw [if_neg h2]
   by_cases h3 : j < i + 1 + 32
   ·rw [if_pos h3, e, show j - i = 32 by omega, bit32 hr, Bool.false_xor]
   ·rw [if_neg h3]
theorem rowK_zero {msg : List Bool} {reg i : Nat} : (rowF msg reg i).set i false = rowK msg reg i 0 := by
 unfold rowF rowK
 rw [range_set]
 refine row_ext (fun j _ => ?_)
 rcases Nat.lt_trichotomy j i with h | h | h
 ·rw [if_neg (by omega), if_pos h, if_pos (by omega)]
 ·subst h; rw [if_pos rfl, if_pos (by omega)]
 ·rw [if_neg (by omega), if_neg (by omega), if_neg (show ¬ j ≤ i by omega), if_neg (show ¬ j < i + 1 + 0 by omega)]
theorem rowK_at {msg : List Bool} {reg i k : Nat} (hr : reg < 4294967296) (hk : k < 32) (h : i + 1 + k < msg.length) : (rowK msg reg i k)[i + 1 + k]? = some (reg.testBit (k + 1) ^^ msg.getD (i + 1 + k) false) := by
 have : (rowK msg reg i k)[i + 1 + k]? = some (if i + 1 + k ≤ i then false else if i + 1 + k < i + 1 + k then ((YD (reg ^^^ (msg.getD i false).toNat)).testBit (i + 1 + k - i - 1) ^^ msg.getD (i + 1 + k) false) else if i + 1 + k < i + 32 then (reg.testBit (i + 1 + k - i) ^^ msg.getD (i + 1 + k) false) else msg.getD (i + 1 + k) false) := by simp [rowK, h]
 rw [this, if_neg (by omega), if_neg (by omega)]
 by_cases h2 : i + 1 + k < i + 32
 ·rw [if_pos h2, show i + 1 + k - i = k + 1 by omega]
 ·rw [if_neg h2, show k + 1 = 32 by omega, bit32 hr, Bool.false_xor]
theorem rowK_step {msg : List Bool} {reg i k : Nat} (hr : reg < 4294967296) (hb : (reg.testBit 0 ^^ msg.getD i false) = true) (hk : k < 32) (h : i + 1 + k < msg.length) : (rowK msg reg i k).set (i + 1 + k) ((reg.testBit (k + 1) ^^ msg.getD (i + 1 + k) false) ^^ (2197175160).testBit k) = rowK msg reg i (k + 1) := by
 unfold rowK
 rw [range_set]
 refine row_ext (fun j _ => ?_)
 have e : (YD (reg ^^^ (msg.getD i false).toNat)).testBit k = (reg.testBit (k + 1) ^^ (2197175160).testBit k) := by
  have := bstep_bit reg (msg.getD i false) k
  unfold XR at this
  rw [this, hb, Bool.true_and]
 by_cases ej : j = i + 1 + k
 ·subst ej
  rw [if_pos rfl, if_neg (by omega), if_pos (by omega), show i + 1 + k - i - 1 = k by omega, e]
  cases reg.testBit (k + 1) <;> cases (2197175160).testBit k <;> cases msg.getD (i + 1 + k) false <;> rfl
 ·rw [if_neg ej]
  by_cases h1 : j ≤ i
  ·rw [if_pos h1, if_pos h1]
  ·rw [if_neg h1, if_neg h1]
   by_cases h2 : j < i + 1 + k
   ·rw [if_pos h2, if_pos (by omega)]
   ·rw [if_neg h2, if_neg (show ¬ j < i + 1 + (k + 1) by omega)]
theorem rowK_keep {msg : List Bool} {reg i k : Nat} (hr : reg < 4294967296) (hb : (reg.testBit 0 ^^ msg.getD i false) = true) (hk : k < 32) (h : i + 1 + k < msg.length) (hp : (2197175160).testBit k = false) : rowK msg reg i k = rowK msg reg i (k + 1) := by
 rw [← rowK_step hr hb hk h, hp, Bool.xor_false]
 apply List.ext_getElem (by simp)
 intro j h1 h2
 rw [List.getElem_set]
 split
 ·rename_i e
  subst e
  have := rowK_at hr hk h
  rw [List.getElem?_eq_getElem h1] at this
  exact Option.some.inj this
 ·rfl
theorem rowK_end {msg : List Bool} {reg i : Nat} : rowK msg reg i 32 = rowF msg (XR reg (msg.getD i false)) (i + 1) := by
 unfold rowK rowF
 refine row_ext (fun j _ => ?_)
 by_cases h1 : j ≤ i
 ·rw [if_pos h1, if_pos (by omega)]
 ·rw [if_neg h1, if_neg (show ¬ j < i + 1 by omega)]
  by_cases h2 : j < i + 1 + 32
  ·rw [if_pos h2, if_pos h2, Nat.sub_sub]; rfl
  ·rw [if_neg h2, if_neg (by omega), if_neg h2]
theorem hstep_lt32 {x : Nat} (h : x < 4294967296) : YD x < 4294967296 := by
 unfold YD
 split
 ·exact Nat.xor_lt_two_pow (n := 32) (by omega) (by decide)
 ·omega
theorem bstep_lt {l : Nat} {b : Bool} (h : l < 4294967296) : XR l b < 4294967296 :=
 hstep_lt32 (Nat.xor_lt_two_pow (n := 32) h (by cases b <;> decide))
theorem bsteps_lt : ∀ (bs : List Bool) {l : Nat}, l < 4294967296 → bs.foldl XR l < 4294967296
 | [], _, h => h
 | _ :: r, _, h => bsteps_lt r (bstep_lt h)
theorem bb_get {sp : List Value} {row : List Bool} {j : Nat} {x : Bool} (h : row[j]? = some x) : (row.map bb ++ sp)[0 + j * 1]? = some (bb x) := by
 have hj := (List.getElem?_eq_some_iff.1 h).1
 rw [Nat.zero_add, Nat.mul_one, List.getElem?_append_left (by simpa using hj), List.getElem?_map, h]; rfl
theorem bb_set {sp : List Value} {row : List Bool} {j : Nat} {x : Bool} (y : Bool) (h : row[j]? = some x) : SetL (row.map bb ++ sp) (0 + j * 1) (.bool y) ((row.set j y).map bb ++ sp) := by
 have hj := (List.getElem?_eq_some_iff.1 h).1
 refine ⟨by simp; omega, ?_⟩
 show stc (row.map bb ++ sp) (0 + j * 1) [bb y] = _
 unfold stc
 rw [Nat.zero_add, Nat.mul_one]
 apply List.ext_getElem?
 intro k
 have hjl : j < (row.map bb).length := by simpa using hj
 rw [List.append_assoc]
 by_cases hk : k < j
 ·rw [List.getElem?_append_left (by simp; omega), List.getElem?_take_of_lt hk, List.getElem?_append_left (by omega), List.getElem?_append_left (by simp; omega), List.getElem?_map, List.getElem?_map, List.getElem?_set_ne (by omega)]
 ·rw [List.getElem?_append_right (by simp; omega)]
  have e1 : (List.take j (row.map bb ++ sp)).length = j := by simp; omega
  rw [e1]
  by_cases h2 : k = j
  ·subst h2
   rw [Nat.sub_self, List.getElem?_append_left (by simp), List.getElem?_append_left (by simp; omega), List.getElem?_map, List.getElem?_set_self hj]; rfl
  ·rw [List.getElem?_append_right (by simp; omega), List.getElem?_drop]
   have e2 : j + [bb y].length + (k - j - [bb y].length) = k := by simp; omega
   rw [e2]
   by_cases h3 : k < row.length
   ·rw [List.getElem?_append_left (by simpa using h3), List.getElem?_append_left (by simpa using h3), List.getElem?_map, List.getElem?_map, List.getElem?_set_ne (by omega)]
   ·rw [List.getElem?_append_right (by simp; omega), List.getElem?_append_right (by simp; omega)]; simp
theorem OwnS.blk1 {vv : Value} {n sz : Nat} {xs sp : List Value} (h : OwnS vv n xs sp sz) (hn : 0 < n) : ∃ b cap, vv = .slice (some ⟨b, 0, none⟩) n cap ∧ n ≤ cap := by
 rcases h.out with ⟨_, q1, _, _⟩ | ⟨b, cap, q1, _, _, q2⟩
 ·omega
 ·exact ⟨b, cap, q1, q2⟩
theorem bv_orQ {w m n : Nat} (hm : m < 2 ^ w) (hn : n < 2 ^ w) : (BitVec.ofInt w m ||| BitVec.ofInt w n).toNat = m ||| n := by
 rw [BitVec.toNat_or, BitVec.ofInt_natCast, BitVec.ofInt_natCast, BitVec.toNat_ofNat, BitVec.toNat_ofNat, Nat.mod_eq_of_lt hm, Nat.mod_eq_of_lt hn]
theorem y_or_natQ {x : Cx} {ty : Nat} {E : List (Nat × Value)} {ρ : Hp} {L : SH} {p q : Operand} {t t' : TypeId} {k : IntKind} {m n : Nat} (h1 : ev E p = some (.int k m)) (h2 : ev E q = some (.int k n)) (hk : bitsOk k = true) (hm : m < 2 ^ k.bits) (hn : n < 2 ^ k.bits) : Yl x (.binOp .or t p q t') ty E ρ L (.int k ((m ||| n : Nat) : Int)) := by
 unfold Yl
 intro a w _ _ _ _ ha _
 have hb : (Op.intBits .or k m n).run x.P w = .ok (.int k ((m ||| n : Nat) : Int)) w := by
  show (pure (.int k (k.wrap ((BitVec.ofInt k.bits m ||| BitVec.ofInt k.bits n).toNat : Int))) : Sem Value).run x.P w = _
  rw [bv_orQ hm hn, wrap_nat hk (Nat.or_lt_two_pow hm hn)]; rfl
 simp [execOp, ha.eval h1, ha.eval h2, eqGuard, binOp, hb]
theorem mod_succ_bit (C j : Nat) : C % 2 ^ (j + 1) = C % 2 ^ j + 2 ^ j * (C.testBit j).toNat := by
 rw [Nat.mod_pow_succ, Nat.testBit_eq_decide_div_mod_eq]
 rcases Nat.mod_two_eq_zero_or_one (C / 2 ^ j) with h | h <;> simp [h]
theorem or_bit {m j : Nat} (h : m < 2 ^ j) : m ||| 2 ^ j = m + 2 ^ j := by
 have := Nat.two_pow_add_eq_or_of_lt h 1
 rw [Nat.mul_one] at this
 rw [Nat.or_comm, ← this, Nat.add_comm]
theorem Sum32_spec (ρ : Hp) (a : Option Addr) (n c : Nat) (l : List UInt8) (h : SIn ρ Zs a n l) (hn : n ≤ 1000) :
  Spec Tryz.prog 39 [.slice a n c] ρ [] (fun z ρ' L' => z = .int .u32 (sumB l : Nat) ∧ ρ' = ρ ∧ L' = []) := by
 have hl := h.len
 have hB := bits_spec ρ a n c l h hn
 have hml := msgF_len l
 refine Zf Tryz.func39 rfl rfl rfl fun u R => ?_
 simp only [Zv, List.cons_append, List.nil_append]
 repeat' (first | (refine Zd (.func 65) ?_; refine qC rfl rfl (hB) ?_; rintro v ρ' L' hle ⟨rfl, va, vc, sp, rfl, hown, rfl⟩ <;> (try simp only [kM, kN, kO])) | (refine Zg ?_; first | (refine Ze ?_; refine qQ ?_) | refine Zj ?_ | refine qAn ?_ | refine qXo ?_ | refine qNt ?_) | refine Za ?_ | (refine Zh ?_; refine Zq ?_) | (refine Zi ?_; refine Zr ?_) | intro _)
 obtain ⟨b, cap, e0, hcap⟩ := hown.blk1 (by omega)
 cases e0
 generalize hmsg : msgF l = msg at *
 have hch : Ye (.slice (some ⟨b, 0, none⟩) (8 * n + 32) vc) (msg.map bb) sp 4 = [(b, .cells ⟨(invF msg 0).map bb ++ sp⟩ 4 (0, 0))] := by rw [invF_zero]; rfl
 rw [hch]
 refine ZB [(2, _), (3, _)] (fun (ζ : (Nat)) => [(4, .int .i64 ζ)]) (fun (ζ : (Nat)) => ρ') (fun (ζ : (Nat)) => [[(b, .cells ⟨(invF msg ζ).map bb ++ sp⟩ 4 (0, 0))]]) (fun (ζ : (Nat)) => ζ ≤ 32) (fun (ζ : (Nat)) => 32 - ζ) (0) (Nat.zero_le _) Zm Zm rfl tk ?_
 rintro k hI
 try simp only [List.cons_append, List.nil_append, List.append_assoc, List.append_eq] at hI ⊢
 try dsimp only at hI ⊢
 by_cases hk : k < 32
 ·have hld := bb_get (sp := sp) (invF_at (msg := msg) (k := k) (by omega))
  haveI hst := bb_set (sp := sp) (!msg.getD k false) (invF_at (msg := msg) (k := k) (by omega))
  rw [invF_step] at hst
  repeat' (first | (refine Zg ?_; first | (refine Ze ?_; refine qQ ?_) | refine Zj ?_ | refine qAn ?_ | refine qXo ?_ | refine qNt ?_) | refine Za ?_ | (refine Zh ?_; refine Zq ?_) | (refine Zi ?_; refine Zr ?_) | intro _)
  refine Zp (k + 1) (hk) Zm Zm rfl tk inferInstance (by first | omega | (dsimp only; omega))
 obtain rfl : k = 32 := by omega
 rw [invF_row]
 have hrow0 : rowF msg 4294967295 0 = rowF msg ((msg.take 0).foldl XR 4294967295) 0 := rfl
 rw [hrow0]
 repeat' (first | (refine Zg ?_; first | (refine Ze ?_; refine qQ ?_) | refine Zj ?_ | refine qAn ?_ | refine qXo ?_ | refine qNt ?_) | refine Za ?_ | (refine Zh ?_; refine Zq ?_) | (refine Zi ?_; refine Zr ?_) | intro _)
 refine ZB [(2, _), (3, _)] (fun (ζ : (Nat)) => [(5, .int .i64 ζ)]) (fun (ζ : (Nat)) => ρ') (fun (ζ : (Nat)) => [[(b, .cells ⟨(rowF msg ((msg.take ζ).foldl XR 4294967295) ζ).map bb ++ sp⟩ 4 (0, 0))]]) (fun (ζ : (Nat)) => ζ ≤ 8 * n) (fun (ζ : (Nat)) => 8 * n - ζ) (0) (Nat.zero_le _) Zm Zm rfl tk ?_
 rintro i hI
 try simp only [List.cons_append, List.nil_append, List.append_assoc, List.append_eq] at hI ⊢
 try dsimp only at hI ⊢
 by_cases hi : i < 8 * n
 ·have hts : (msg.take (i + 1)).foldl XR 4294967295 = XR ((msg.take i).foldl XR 4294967295) (msg.getD i false) := by
   rw [List.take_succ_eq_append_getElem (by omega), List.foldl_append]
   rw [List.getD_eq_getElem?_getD, List.getElem?_eq_getElem (by omega)]; rfl
  have hreg := bsteps_lt (msg.take i) (l := 4294967295) (by decide)
  generalize (msg.take i).foldl XR 4294967295 = reg at *
  have hld := bb_get (sp := sp) (rowF_top (msg := msg) (reg := reg) (i := i) (by omega))
  haveI hst := bb_set (sp := sp) false (rowF_top (msg := msg) (reg := reg) (i := i) (by omega))
  rw [rowK_zero] at hst
  cases hb : (reg.testBit 0 ^^ msg.getD i false)
  ·have hsk := rowF_skip hreg hb
   rw [← hts] at hsk
   rw [hb] at hld
   repeat' (first | (refine Zg ?_; first | (refine Ze ?_; refine qQ ?_) | refine Zj ?_ | refine qAn ?_ | refine qXo ?_ | refine qNt ?_) | refine Za ?_ | (refine Zh ?_; refine Zq ?_) | (refine Zi ?_; refine Zr ?_) | intro _)
   rw [hsk]
   refine Zp (i + 1) (hi) Zm Zm rfl tk inferInstance (by first | omega | (dsimp only; omega))
  ·rw [hb] at hld
   repeat' (first | (refine Zg ?_; first | (refine Ze ?_; refine qQ ?_) | refine Zj ?_ | refine qAn ?_ | refine qXo ?_ | refine qNt ?_) | refine Za ?_ | (refine Zh ?_; refine Zq ?_) | (refine Zi ?_; refine Zr ?_) | intro _)
   refine ZB [(2, _), (3, _), (5, _), (23, _), (24, _), (25, _), (26, _), (27, _), (30, _), (31, _), (32, _), (33, _), (34, _), (35, _), (36, _), (37, _)] (fun (ζ : (Nat)) => [(6, .int .i64 ζ)]) (fun (ζ : (Nat)) => ρ') (fun (ζ : (Nat)) => [[(b, .cells ⟨(rowK msg reg i ζ).map bb ++ sp⟩ 4 (0, 0))]]) (fun (ζ : (Nat)) => ζ ≤ 32) (fun (ζ : (Nat)) => 32 - ζ) (0) (Nat.zero_le _) Zm Zm rfl tk ?_
   rintro k hI
   try simp only [List.cons_append, List.nil_append, List.append_assoc, List.append_eq] at hI ⊢
   try dsimp only at hI ⊢
   by_cases hk : k < 32
   ·have hP := power_spec ρ' k hk
    have hat := rowK_at hreg hk (show i + 1 + k < msg.length by omega)
    have hldk := bb_get (sp := sp) hat
    have ek : ((i : Int) + 1 + (k : Int)).toNat = i + 1 + k := by omega
    cases hp : (2197175160).testBit k
    ·rw [hp] at hP
     repeat' (first | (refine Zd (.func 66) ?_; refine qC rfl rfl (hP) ?_; rintro v ρ' L' hle ⟨rfl, rfl, rfl⟩ <;> (try simp only [kM, kN, kO])) | (refine Zg ?_; first | (refine Ze ?_; refine qQ ?_) | refine Zj ?_ | refine qAn ?_ | refine qXo ?_ | refine qNt ?_) | refine Za ?_ | (refine Zh ?_; refine Zq ?_) | (refine Zi ?_; refine Zr ?_) | intro _)
     rw [rowK_keep hreg hb hk (by omega) hp]
     refine Zp (k + 1) (hk) Zm Zm rfl tk inferInstance (by first | omega | (dsimp only; omega))
    ·rw [hp] at hP
     haveI hstk := bb_set (sp := sp) (!(reg.testBit (k + 1) ^^ msg.getD (i + 1 + k) false)) hat
     have hsp := rowK_step (msg := msg) hreg hb hk (by omega)
     rw [hp, Bool.xor_true] at hsp
     rw [hsp] at hstk
     generalize (reg.testBit (k + 1) ^^ msg.getD (i + 1 + k) false) = xx at *
     clear hat hsp
     rw [← ek] at hldk
     rw [show 0 + (i + 1 + k) * 1 = 0 + ((i : Int) + 1 + (k : Int)).toNat * 1 by rw [ek]] at hstk
     repeat' (first | (refine Zd (.func 66) ?_; refine qC rfl rfl (hP) ?_; rintro v ρ' L' hle ⟨rfl, rfl, rfl⟩ <;> (try simp only [kM, kN, kO])) | (refine Zg ?_; first | (refine Ze ?_; refine qQ ?_) | refine Zj ?_ | refine qAn ?_ | refine qXo ?_ | refine qNt ?_) | refine Za ?_ | (refine Zh ?_; refine Zq ?_) | (refine Zi ?_; refine Zr ?_) | intro _)
     refine Zp (k + 1) (hk) Zm Zm rfl tk inferInstance (by first | omega | (dsimp only; omega))
   ·obtain rfl : k = 32 := by omega
    rw [rowK_end, ← hts]
    repeat' (first | (refine Zg ?_; first | (refine Ze ?_; refine qQ ?_) | refine Zj ?_ | refine qAn ?_ | refine qXo ?_ | refine qNt ?_) | refine Za ?_ | (refine Zh ?_; refine Zq ?_) | (refine Zi ?_; refine Zr ?_) | intro _)
    refine Zp (i + 1) (hi) Zm Zm rfl tk inferInstance (by first | omega | (dsimp only; omega))
 obtain rfl : i = 8 * n := by omega
 have hreg := bsteps_lt (msg.take (8 * n)) (l := 4294967295) (by decide)
 have hsum : 4294967295 ^^^ (msg.take (8 * n)).foldl XR 4294967295 = sumB l := by
  unfold sumB
  rw [goes_bits, ← hmsg]
  unfold msgF
  rw [List.take_left' (by rw [flat_bits_len, hl])]
 have hz : ∀ j, j < 32 → msg.getD (8 * n + j) false = false := fun j hj => by
  rw [← hmsg]
  unfold msgF
  rw [List.getD_eq_getElem?_getD, List.getElem?_append_right (by rw [flat_bits_len]; omega), List.getElem?_replicate]
  split <;> rfl
 generalize (msg.take (8 * n)).foldl XR 4294967295 = reg at *
 have hC : 4294967295 ^^^ reg < 4294967296 := Nat.xor_lt_two_pow (n := 32) (by decide) hreg
 generalize hCC : 4294967295 ^^^ reg = CC at *
 repeat' (first | (refine Zg ?_; first | (refine Ze ?_; refine qQ ?_) | refine Zj ?_ | refine qAn ?_ | refine qXo ?_ | refine qNt ?_) | refine Za ?_ | (refine Zh ?_; refine Zq ?_) | (refine Zi ?_; refine Zr ?_) | intro _)
 refine ZB [(2, _), (3, _)] (fun (ζ : (Nat) × (Nat)) => [(8, .int .i64 ζ.1), (7, .int .u32 ζ.2)]) (fun (ζ : (Nat) × (Nat)) => ρ') (fun (ζ : (Nat) × (Nat)) => [[(b, .cells ⟨(rowF msg reg (8 * n)).map bb ++ sp⟩ 4 (0, 0))]]) (fun (ζ : (Nat) × (Nat)) => ζ.1 ≤ 32 ∧ ζ.2 = CC % 2 ^ ζ.1) (fun (ζ : (Nat) × (Nat)) => 32 - ζ.1) ((0, 0)) (⟨Nat.zero_le _, by rw [Nat.pow_zero, Nat.mod_one]⟩) Zm Zm rfl tk ?_
 rintro ⟨j, m⟩ hI
 try simp only [List.cons_append, List.nil_append, List.append_assoc, List.append_eq] at hI ⊢
 try dsimp only at hI ⊢
 obtain ⟨hj32, hm⟩ := hI
 by_cases hj : j < 32
 ·have hat : (rowF msg reg (8 * n))[8 * n + j]? = some (reg.testBit j) := by
   rw [rowF_at (by omega), if_neg (by omega), if_pos (by omega), hz j hj, Bool.xor_false, Nat.add_sub_cancel_left]
  have hldj := bb_get (sp := sp) hat
  have ek : (((8 * n + 32 : Nat) : Int) - 32 + (j : Int)).toNat = 8 * n + j := by omega
  have hcb : CC.testBit j = !reg.testBit j := by rw [← hCC, Nat.testBit_xor, ones_bit j hj, Bool.true_xor]
  have hms := mod_succ_bit CC j
  rw [hcb, ← hm] at hms
  have h2j : (2 : Nat) ^ j < 4294967296 := by
   have : (2 : Nat) ^ j < 2 ^ 32 := Nat.pow_lt_pow_right (by decide) hj
   omega
  have hmlt : m < 2 ^ j := by rw [hm]; exact Nat.mod_lt _ (Nat.two_pow_pos j)
  generalize hxx : reg.testBit j = xx at *
  rw [← ek] at hldj
  cases xx
  ·have hshl : IntKind.u32.wrap (1 * 2 ^ min j 32) = ((2 ^ j : Nat) : Int) := by
    rw [show min j 32 = j by omega, Int.one_mul, show (2 : Int) ^ j = ((2 ^ j : Nat) : Int) by rw [Int.natCast_pow]; rfl]
    exact wrap_nat rfl h2j
   have hor := or_bit hmlt
   simp only [Bool.not_false, Bool.toNat_true, Nat.mul_one] at hms
   rw [← hor] at hms
   generalize (2 : Nat) ^ j = P at *
   repeat' (first | (refine Zg ?_; first | (refine Ze ?_; refine qQ ?_) | refine Zj ?_ | refine qAn ?_ | refine qXo ?_ | refine qNt ?_) | refine Za ?_ | (refine Zh ?_; refine Zq ?_) | (refine Zi ?_; refine Zr ?_) | intro _)
   simp only [hshl]
   repeat' (first | (refine Yb (y_or_natQ (m := m) (n := P) rfl rfl rfl (by show m < 4294967296; omega) (by show P < 4294967296; omega)) rfl rfl ?_) | (refine Zg ?_; first | (refine Ze ?_; refine qQ ?_) | refine Zj ?_ | refine qAn ?_ | refine qXo ?_ | refine qNt ?_) | refine Za ?_ | (refine Zh ?_; refine Zq ?_) | (refine Zi ?_; refine Zr ?_) | intro _)
   refine Zp (j + 1, _) (⟨hj, hms.symm⟩) Zm Zm rfl tk inferInstance (by first | omega | (dsimp only; omega))
  ·simp only [Bool.not_true, Bool.toNat_false, Nat.mul_zero, Nat.add_zero] at hms
   repeat' (first | (refine Zg ?_; first | (refine Ze ?_; refine qQ ?_) | refine Zj ?_ | refine qAn ?_ | refine qXo ?_ | refine qNt ?_) | refine Za ?_ | (refine Zh ?_; refine Zq ?_) | (refine Zi ?_; refine Zr ?_) | intro _)
   refine Zp (j + 1, m) (⟨hj, hms.symm⟩) Zm Zm rfl tk inferInstance (by first | omega | (dsimp only; omega))
 ·obtain rfl : j = 32 := by omega
  rw [Nat.mod_eq_of_lt hC, hsum] at hm
  subst hm
  repeat' (first | (refine Zg ?_; first | (refine Ze ?_; refine qQ ?_) | refine Zj ?_ | refine qAn ?_ | refine qXo ?_ | refine qNt ?_) | refine Za ?_ | (refine Zh ?_; refine Zq ?_) | (refine Zi ?_; refine Zr ?_) | intro _)
  exact qE (L' := []) ⟨rfl, rfl, rfl⟩
def be : Nat → Nat → List UInt8
 | 0, _ => []
 | n + 1, x => UInt8.ofNat (x / 256 ^ n) :: be n x
def ZP (l : List UInt8) : Nat := l.foldl (fun a b => a * 256 + b.toNat) 0
theorem ZJ (n x : Nat) : (be n x).length = n := by induction n <;> simp [be, *]
theorem foldl_be (l : List UInt8) (a : Nat) : l.foldl (fun a b => a * 256 + b.toNat) a = a * 256 ^ l.length + ZP l := by
 unfold ZP
 induction l generalizing a with
 | nil => simp
 | cons b l ih =>
  simp only [List.foldl_cons, List.length_cons]
  rw [ih (a * 256 + b.toNat), ih (0 * 256 + b.toNat)]
  rw [Nat.pow_succ]
  simp only [Nat.zero_mul, Nat.zero_add, Nat.add_mul, Nat.mul_assoc, Nat.mul_comm 256, Nat.add_assoc]
theorem unbe_cons (b : UInt8) (l : List UInt8) : ZP (b :: l) = b.toNat * 256 ^ l.length + ZP l := by
 have := foldl_be l (0 * 256 + b.toNat)
 simp only [Nat.zero_mul, Nat.zero_add] at this
 rw [← this]; simp [ZP]
theorem unbe_snoc (b : UInt8) (l : List UInt8) : ZP (l ++ [b]) = ZP l * 256 + b.toNat := by simp [ZP]
theorem WS (l : List UInt8) : ZP l < 256 ^ l.length := by
 induction l with
 | nil => simp [ZP]
 | cons b l ih =>
  rw [unbe_cons, List.length_cons, Nat.pow_succ]
  have hb : b.toNat < 256 := b.toNat_lt
  have : (b.toNat + 1) * 256 ^ l.length ≤ 256 * 256 ^ l.length := Nat.mul_le_mul_right _ (by omega)
  rw [Nat.add_mul] at this
  omega
theorem XP (n x : Nat) : ZP (be n x) = x % 256 ^ n := by
 induction n with
 | zero => simp [be, ZP, Nat.mod_one]
 | succ n ih =>
  rw [be, unbe_cons, ZJ, ih, UInt8.toNat_ofNat']
  have h1 := Nat.mod_mul (x := x) (a := 256 ^ n) (b := 256)
  have e : 256 ^ (n + 1) = 256 ^ n * 256 := by rw [Nat.pow_succ]
  have e2 : (2 : Nat) ^ 8 = 256 := by decide
  rw [e, h1, e2, Nat.mul_comm]
  omega
theorem be_mod (n x : Nat) : be n (x % 256 ^ n) = be n x := by
 have key : ∀ m, m ≤ n → be m (x % 256 ^ n) = be m x := by
  intro m
  induction m with
  | zero => intro _; rfl
  | succ m ih =>
   intro hm
   rw [be, be, ih (by omega)]
   congr 1
   apply UInt8.toNat_inj.1
   simp only [UInt8.toNat_ofNat']
   obtain ⟨k, rfl⟩ : ∃ k, n = m + 1 + k := ⟨n - (m + 1), by omega⟩
   have e : 256 ^ (m + 1 + k) = 256 ^ m * (256 * 256 ^ k) := by rw [Nat.pow_add, Nat.pow_succ, Nat.mul_assoc]
   rw [e, Nat.mod_mul_right_div_self, Nat.mod_mul_right_mod]
 exact key n (Nat.le_refl _)
theorem be_unbe (l : List UInt8) : be l.length (ZP l) = l := by
 induction l with
 | nil => rfl
 | cons b l ih =>
  rw [List.length_cons, be, unbe_cons]
  have hlt := WS l
  have hp : 0 < 256 ^ l.length := Nat.pow_pos (by decide)
  have h1 : (b.toNat * 256 ^ l.length + ZP l) / 256 ^ l.length = b.toNat := by
   rw [Nat.mul_comm, Nat.mul_add_div hp, Nat.div_eq_of_lt hlt]; simp
  have h2 : be l.length (b.toNat * 256 ^ l.length + ZP l) = l := by
   rw [← be_mod, Nat.mul_comm, Nat.mul_add_mod, Nat.mod_eq_of_lt hlt, ih]
  rw [h1, h2]; simp
def z8 (n : Nat) : List UInt8 := List.replicate n 0
theorem stc_mid (A B vs ws : List Value) (h : ws.length = vs.length) : stc (A ++ (vs ++ B)) A.length ws = A ++ (ws ++ B) := by
 unfold stc
 rw [List.take_left, h, ← List.drop_drop, List.drop_left, List.drop_left, List.append_assoc]
theorem u8_wrap (y : Nat) : Value.int .u8 (IntKind.u8.wrap (y : Int)) = Zs (UInt8.ofNat y) := by
 simp only [Zs, UInt8.toNat_ofNat', IntKind.wrap, IntKind.bits, IntKind.signed, Bool.false_and, Bool.false_eq_true, if_false]
 congr 1
theorem made_z8 (m : Nat) : madeCells (Value.int .u8 0).cells m = ⟨(z8 m).map Zs⟩ := by
 have hz : (Value.int IntKind.u8 0).cells = ⟨[Zs 0]⟩ := rfl
 rw [hz]
 apply Array.ext'
 apply List.ext_getElem?
 intro i
 by_cases hi : i < m
 ·simp [madeCells, z8, hi, Nat.mod_one]
 ·rw [List.getElem?_eq_none (by simp [madeCells]; omega), List.getElem?_eq_none (by simp [z8]; omega)]
theorem own_chunk (b n c : Nat) {xs : List Value} {T : TypeId} : [(b, Obj.cells ⟨xs⟩ T (0, 0))] = Ye (.slice (some ⟨b, 0, none⟩) n c) xs [] T := by simp [Ye]
theorem stand_spec (ρ : Hp) (a : Option Addr) (n c : Nat) (l : List UInt8) (h : SIn ρ Zs a n l) (x p : Nat) (hx : x < 18446744073709551616) (hp : p ≤ 8) (hp1 : 1 ≤ p) (hn : n ≤ 1000000) :
  Spec Tryz.prog 84 [.slice a n c, .int .u64 x, .int .i64 p] ρ [] (fun v ρ' L' => ρ' = ρ ∧ ∃ sp, OwnS v (n + p) ((l ++ be p x).map Zs) sp 1 ∧ L' = [Ye v ((l ++ be p x).map Zs) sp 5]) := by
 have hl := h.len
 refine Zf Tryz.func84 rfl rfl rfl fun u R => ?_
 simp only [Zv, List.cons_append, List.nil_append]
 repeat' (first | (refine tl_makeSlice rfl rfl (by omega) (by omega) (by omega) (by omega) rfl (fun hbn => ?_)) | (refine Zg ?_; first | (refine Ze ?_; refine qQ ?_) | refine Zj ?_) | refine Za ?_ | (refine Zh ?_; refine Zq ?_) | (refine Zi ?_; refine Zr ?_) | intro _)
 simp only [show ((n : Int) + (p : Int)).toNat = n + p by omega, Nat.mul_one, made_z8]
 have hinit : stc ((z8 (n + p)).map Zs) 0 ((l.map Zs).take (n + p)) = (l ++ (z8 (p - 0) ++ be 0 x)).map Zs := by
  rw [List.take_of_length_le (by simp; omega)]
  unfold stc
  have e : z8 (n + p) = z8 n ++ z8 p := by simp [z8, List.replicate_append_replicate]
  rw [e]
  simp [be, hl, z8]
 refine tl_copy (ys := l.map Zs) rfl rfl (SIn.srcV h) (by simpa using hl) (ZI l) (by simp [z8]) rfl ?_
 simp only [hinit]
 repeat' (first | (refine Zg ?_; first | (refine Ze ?_; refine qQ ?_) | refine Zj ?_) | refine Za ?_ | (refine Zh ?_; refine Zq ?_) | (refine Zi ?_; refine Zr ?_) | intro _)
 refine ZB [(6, _), (7, _), (17, _)] (fun (ζ : (Nat) × (Nat)) => [(18, .int .i64 ζ.1), (1, .int .u64 (ζ.2 : Nat))]) (fun (ζ : (Nat) × (Nat)) => ρ) (fun (ζ : (Nat) × (Nat)) => [[(hbn, .cells ⟨(l ++ (z8 (p - ζ.1) ++ be ζ.1 x)).map Zs⟩ 5 (0, 0))]]) (fun (ζ : (Nat) × (Nat)) => ζ.1 ≤ p ∧ ζ.2 = x / 256 ^ ζ.1) (fun (ζ : (Nat) × (Nat)) => p - ζ.1) ((0, x)) (⟨Nat.zero_le _, by simp⟩) Zm Zm rfl tk ?_
 rintro ⟨k, y⟩ hI
 try simp only [List.cons_append, List.nil_append, List.append_assoc, List.append_eq] at hI ⊢
 try dsimp only at hI ⊢
 obtain ⟨hk, hy⟩ := hI
 by_cases hlt : k < p
 ·have hlen : ((l ++ (z8 (p - k) ++ be k x)).map Zs).length = n + p := by simp [z8, ZJ, hl]; omega
  have hst : stc ((l ++ (z8 (p - k) ++ be k x)).map Zs) (0 + ((n : Int) + (p : Int) - 1 - k).toNat * 1) [Zs (UInt8.ofNat y)] = (l ++ (z8 (p - (k + 1)) ++ be (k + 1) x)).map Zs := by
   have e1 : z8 (p - k) = z8 (p - (k + 1)) ++ [0] := by
    rw [show p - k = (p - (k + 1)) + 1 by omega]; simp [z8, List.replicate_succ']
   have e2 : 0 + ((n : Int) + (p : Int) - 1 - k).toNat * 1 = ((l ++ z8 (p - (k + 1))).map Zs).length := by simp [z8, hl]; omega
   have e3 : (l ++ (z8 (p - k) ++ be k x)).map Zs = (l ++ z8 (p - (k + 1))).map Zs ++ ([Zs 0] ++ (be k x).map Zs) := by rw [e1]; simp
   rw [e2, e3, stc_mid _ _ [Zs 0] [Zs (UInt8.ofNat y)] rfl, be, ← hy]
   simp
  have hyy : y / 256 = x / 256 ^ (k + 1) := by rw [hy, Nat.div_div_eq_div_mul, Nat.pow_succ]
  repeat' (first | (refine Zg ?_; first | (refine Ze ?_; refine qQ ?_) | refine Zj ?_) | refine Za ?_ | (refine Zh ?_; refine Zq ?_) | (refine Zi ?_; refine Zr ?_) | intro _)
  have e8 : (y : Int) / 2 ^ 8 = ((x / 256 ^ (k + 1) : Nat) : Int) := by
   rw [← hyy]
   have : (2 : Int) ^ 8 = 256 := by decide
   omega
  rw [e8, u8_wrap, Int.natCast_add, hst]
  refine Zp (k + 1, x / 256 ^ (k + 1)) (⟨hlt, rfl⟩) Zm Zm rfl tk inferInstance (by first | omega | (dsimp only; omega))
 ·have hk2 : k = p := by omega
  subst hk2
  simp only [Nat.sub_self, z8, List.replicate_zero, List.nil_append]
  repeat' (first | (refine Zg ?_; first | (refine Ze ?_; refine qQ ?_) | refine Zj ?_) | refine Za ?_ | (refine Zh ?_; refine Zq ?_) | (refine Zi ?_; refine Zr ?_) | intro _)
  rw [own_chunk hbn (n + k) (n + k)]
  exact qE ⟨rfl, [], ⟨.inr ⟨hbn, n + k, rfl, by simp [ZJ, hl], by simp [ZJ, hl], Nat.le_refl _⟩⟩, rfl⟩
theorem put16_spec (ρ : Hp) (a : Option Addr) (n c : Nat) (l : List UInt8) (h : SIn ρ Zs a n l) (x : Nat) (hx : x < 65536) (hn : n ≤ 1000000) :
  Spec Tryz.prog 93 [.slice a n c, .int .u16 x] ρ [] (fun v ρ' L' => ρ' = ρ ∧ ∃ sp, OwnS v (n + 2) ((l ++ be 2 x).map Zs) sp 1 ∧ L' = [Ye v ((l ++ be 2 x).map Zs) sp 5]) := by
 have hw : IntKind.u64.wrap (x : Int) = x := Wo (by simp only [lo, hi]; omega)
 have hs := stand_spec ρ a n c l h x 2 (by omega) (by omega) (by omega) hn
 refine Zf Tryz.func93 rfl rfl rfl fun u R => ?_
 simp only [Zv, List.cons_append, List.nil_append]
 repeat' (first | (refine iCv ?_; refine Yb (y_conv rfl) rfl rfl ?_; rw [hw]) | (refine Zd (.func 84) ?_; refine qC rfl rfl (hs) ?_; rintro v ρ' L' hle ⟨rfl, sp, hown, rfl⟩ <;> (try simp only [kM, kN, kO])) | (refine Zg ?_; first | (refine Ze ?_; refine qQ ?_) | refine Zj ?_) | refine Za ?_ | (refine Zh ?_; refine Zq ?_) | (refine Zi ?_; refine Zr ?_) | intro _)
 exact qE ⟨rfl, sp, hown, rfl⟩
theorem put64_spec (ρ : Hp) (a : Option Addr) (n c : Nat) (l : List UInt8) (h : SIn ρ Zs a n l) (x : Nat) (hx : x < 18446744073709551616) (hn : n ≤ 1000000) :
  Spec Tryz.prog 58 [.slice a n c, .int .u64 x] ρ [] (fun v ρ' L' => ρ' = ρ ∧ ∃ sp, OwnS v (n + 8) ((l ++ be 8 x).map Zs) sp 1 ∧ L' = [Ye v ((l ++ be 8 x).map Zs) sp 5]) := by
 have hs := stand_spec ρ a n c l h x 8 (by omega) (by omega) (by omega) hn
 refine Zf Tryz.func58 rfl rfl rfl fun u R => ?_
 simp only [Zv, List.cons_append, List.nil_append]
 repeat' (first | (refine Zd (.func 84) ?_; refine qC rfl rfl (hs) ?_; rintro v ρ' L' hle ⟨rfl, sp, hown, rfl⟩ <;> (try simp only [kM, kN, kO])) | (refine Zg ?_; first | (refine Ze ?_; refine qQ ?_) | refine Zj ?_) | refine Za ?_ | (refine Zh ?_; refine Zq ?_) | (refine Zi ?_; refine Zr ?_) | intro _)
 exact qE ⟨rfl, sp, hown, rfl⟩
theorem OwnS.zero (b sz : Nat) : OwnS (.slice (some ⟨b, 0, none⟩) 0 0) 0 [] [] sz := ⟨.inr ⟨b, 0, rfl, by simp, by simp, Nat.le_refl _⟩⟩
abbrev rdC (br : Nat) (a : Option Addr) (n c : Nat) (st : Int) : List (Nat × Obj) := [(br, .cells ⟨[.slice a n c, .int .i64 st]⟩ 157 (0, 0))]
theorem bclone_spec (ρ : Hp) (a : Option Addr) (n c : Nat) (l : List UInt8) (h : SIn ρ Zs a n l) (hn : n ≤ 1000000) :
  Spec Tryz.prog 95 [.slice a n c] ρ [] (fun v ρ' L' => ρ.le ρ' ∧ ∃ a' c', v = .slice a' n c' ∧ n ≤ c' ∧ SIn ρ' Zs a' n l ∧ L' = []) := by
 refine Zf Tryz.func95 rfl rfl rfl fun u R => ?_
 simp only [Zv, List.cons_append, List.nil_append]
 cases a with
 | none =>
  have hn0 : n = 0 := by
   rcases h.out with h0 | ⟨b, off, C, T, fr, h1, _⟩
   ·exact h0
   ·cases h1
  subst hn0
  repeat' (first | (refine Zg ?_; first | (refine Ze ?_; refine qQ ?_) | refine Zj ?_) | refine Za ?_ | (refine Zh ?_; refine Zq ?_) | (refine Zi ?_; refine Zr ?_) | intro _)
  exact qE ⟨Hp.le_refl _, none, 0, rfl, Nat.le_refl _, ⟨h.len, .inl rfl⟩, rfl⟩
 | some a =>
  repeat' (first | (refine Zg ?_; first | (refine Ze ?_; refine qQ ?_) | refine Zj ?_) | refine Za ?_ | (refine Zh ?_; refine Zq ?_) | (refine Zi ?_; refine Zr ?_) | intro _)
  refine Yh (n := 0) (xs := []) (sp := []) (ys := l.map Zs) (sz := 1) rfl rfl (OwnS.zero _ 1) (hR := Yi) (SIn.srcV h) (by simpa using h.len) (ZI l) (by decide) rfl (by omega) (by omega) rfl (fun v' sp' hown' => ?_)
  simp only [Nat.zero_add, List.nil_append] at hown' ⊢
  repeat' (first | (refine Zg ?_; first | (refine Ze ?_; refine qQ ?_) | refine Zj ?_) | refine Za ?_ | (refine Zh ?_; refine Zq ?_) | (refine Zi ?_; refine Zr ?_) | intro _)
  refine Xd _ (h := Rem.here) (fun ρ' hle hfz => ?_)
  obtain ⟨a', c', rfl, hc, hs⟩ := hown'.sIn hfz
  exact qE ⟨hle, a', c', rfl, hc, hs, rfl⟩
theorem read_spec (ρ : Hp) (a : Option Addr) (n c : Nat) (l : List UInt8) (h : SIn ρ Zs a n l) (hn : n ≤ 1000000) :
  Spec Tryz.prog 88 [.slice a n c] ρ [] (fun v ρ' L' => ρ.le ρ' ∧ ∃ br a' c', v = .pointer (some ⟨br, 0, none⟩) ∧ n ≤ c' ∧ SIn ρ' Zs a' n l ∧ L' = [rdC br a' n c' 0]) := by
 have hc := bclone_spec ρ a n c l h hn
 refine Zf Tryz.func88 rfl rfl rfl fun u R => ?_
 simp only [Zv, List.cons_append, List.nil_append]
 repeat' (first | (refine Zd (.func 95) ?_; refine qC rfl rfl (hc) ?_; rintro v ρ' L' hle ⟨hle, a', c', rfl, hc', hs, rfl⟩ <;> (try simp only [kM, kN, kO])) | (refine Zg ?_; first | (refine Ze ?_; refine qQ ?_) | refine Zj ?_) | refine Za ?_ | (refine Zh ?_; refine Zq ?_) | (refine Zi ?_; refine Zr ?_) | intro _)
 exact qE ⟨hle, _, a', c', rfl, hc', hs, rfl⟩
theorem XS (ρ : Hp) (br : Nat) (a : Option Addr) (n c : Nat) (st : Int) :
  Spec Tryz.prog 107 [.pointer (some ⟨br, 0, none⟩)] ρ [rdC br a n c st] (fun v ρ' L' => v = .int .i64 st ∧ ρ' = ρ ∧ L' = [rdC br a n c st]) := by
 refine Zf Tryz.func107 rfl rfl rfl fun u R => ?_
 simp only [Zv, List.cons_append, List.nil_append]
 repeat' (first | (refine Zg ?_; first | (refine Ze ?_; refine qQ ?_) | refine Zj ?_) | refine Za ?_ | (refine Zh ?_; refine Zq ?_) | (refine Zi ?_; refine Zr ?_) | intro _)
 exact qE ⟨rfl, rfl, rfl⟩
theorem left_spec (ρ : Hp) (br : Nat) (a : Option Addr) (n c : Nat) (st : Int) :
  Spec Tryz.prog 108 [.pointer (some ⟨br, 0, none⟩)] ρ [rdC br a n c st] (fun v ρ' L' => v = .int .i64 n ∧ ρ' = ρ ∧ L' = [rdC br a n c st]) := by
 refine Zf Tryz.func108 rfl rfl rfl fun u R => ?_
 simp only [Zv, List.cons_append, List.nil_append]
 repeat' (first | (refine Zg ?_; first | (refine Ze ?_; refine qQ ?_) | refine Zj ?_) | refine Za ?_ | (refine Zh ?_; refine Zq ?_) | (refine Zi ?_; refine Zr ?_) | intro _)
 exact qE ⟨rfl, rfl, rfl⟩
theorem gives_stuck (ρ : Hp) (br : Nat) (a : Option Addr) (n c : Nat) (st : Int) (hst : st ≠ 0) (k : Int) (f : Value) :
  Spec Tryz.prog 105 [.pointer (some ⟨br, 0, none⟩), .int .i64 k, f] ρ [rdC br a n c st] (fun v ρ' L' => v = .tuple ⟨[]⟩ ∧ ρ' = ρ ∧ L' = [rdC br a n c st]) := by
 refine Zf Tryz.func105 rfl rfl rfl fun u R => ?_
 simp only [Zv, List.cons_append, List.nil_append]
 repeat' (first | (refine Zd (.func 107) ?_; refine qC rfl rfl (XS _ br a n c st) ?_; rintro v ρ' L' hle ⟨rfl, rfl, rfl⟩ <;> (try simp only [kM, kN, kO])) | (refine Zg ?_; first | (refine Ze ?_; refine qQ ?_) | refine Zj ?_) | refine Za ?_ | (refine Zh ?_; refine Zq ?_) | (refine Zi ?_; refine Zr ?_) | intro _)
 exact qE ⟨rfl, rfl, rfl⟩
theorem gives_short (ρ : Hp) (br : Nat) (a : Option Addr) (n c : Nat) (k : Int) (hk : (n : Int) < k) (f : Value) :
  Spec Tryz.prog 105 [.pointer (some ⟨br, 0, none⟩), .int .i64 k, f] ρ [rdC br a n c 0] (fun v ρ' L' => v = .tuple ⟨[]⟩ ∧ ρ' = ρ ∧ L' = [rdC br a n c 7]) := by
 refine Zf Tryz.func105 rfl rfl rfl fun u R => ?_
 simp only [Zv, List.cons_append, List.nil_append]
 repeat' (first | (refine Zd (.func 107) ?_; refine qC rfl rfl (XS _ br a n c 0) ?_; rintro v ρ' L' hle ⟨rfl, rfl, rfl⟩ <;> (try simp only [kM, kN, kO])) | (refine Zg ?_; first | (refine Ze ?_; refine qQ ?_) | refine Zj ?_) | refine Za ?_ | (refine Zh ?_; refine Zq ?_) | (refine Zi ?_; refine Zr ?_) | intro _)
 exact qE ⟨rfl, rfl, rfl⟩
theorem gives_ok (ρ : Hp) (br : Nat) (a : Option Addr) (n c : Nat) (l : List UInt8) (h : SIn ρ Zs a n l) (hc : n ≤ c) (k : Nat) (hk : k ≤ n) (g : Nat) (cs : List Value) (X X' : SH) [Fun Tryz.prog g]
  (hS : SIn ρ Zs a k (l.take k) → Spec Tryz.prog g ([.slice a k c] ++ cs) ρ X (fun v ρ' L' => v = .tuple ⟨[]⟩ ∧ ρ' = ρ ∧ L' = X')) :
  Spec Tryz.prog 105 [.pointer (some ⟨br, 0, none⟩), .int .i64 k, .func (.func g) ⟨[]⟩ ⟨cs⟩] ρ (rdC br a n c 0 :: X)
   (fun v ρ' L' => v = .tuple ⟨[]⟩ ∧ ρ' = ρ ∧ ∃ a' c', SIn ρ Zs a' (n - k) (l.drop k) ∧ n - k ≤ c' ∧ L' = rdC br a' (n - k) c' 0 :: X') := by
 replace hS := hS (h.take hk)
 have hl := h.len
 have hsub := h.sub (lo' := k) (hi' := n) (cap := c) hk (Nat.le_refl _) hc
 rw [List.take_of_length_le (by simp; omega)] at hsub
 refine Zf Tryz.func105 rfl rfl rfl fun u R => ?_
 simp only [Zv, List.cons_append, List.nil_append] at hS ⊢
 repeat' (first | (refine Zd (.func 107) ?_; refine qC rfl rfl (XS _ br a n c 0) ?_; rintro v ρ' L' hle ⟨rfl, rfl, rfl⟩ <;> (try simp only [kM, kN, kO])) | (refine Zd (.tmp 9) ?_; refine qC rfl rfl (hS) ?_; rintro v ρ' L' hle ⟨rfl, rfl, rfl⟩ <;> (try simp only [kM, kN, kO])) | (refine Zg ?_; first | (refine Ze ?_; refine qQ ?_) | refine Zj ?_) | refine Za ?_ | (refine Zh ?_; refine Zq ?_) | (refine Zi ?_; refine Zr ?_) | intro _)
 exact qE ⟨rfl, rfl, _, c - k, hsub, by omega, rfl⟩
end Go.Proofs.E
