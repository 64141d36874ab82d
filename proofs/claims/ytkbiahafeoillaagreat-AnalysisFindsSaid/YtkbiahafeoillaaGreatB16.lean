/- Laws of analysis. Part 16 of 37. -/
import Derived.Test.YtkbiahafeoillaaGreatB15
namespace Go.Proofs.E
open Go
set_option linter.unusedVariables false
set_option linter.unusedSimpArgs false
set_option linter.unusedSectionVars false
set_option maxRecDepth 4000
set_option maxHeartbeats 1000000
attribute [local irreducible] Yl TL TC TE Spec YY R1 Hp.le EnvLe TS TR YS Zq
def touchE (l : List Yp) (r : Rc) : Int := if YE l then (if ZZ r then 0 else 220) else 320
def touchR (l : List Yp) (r : Rc) : List Yp := if YE l = true ∧ (if ZZ r then (0 : Int) else 220) = 0 then (if ZZ r then Xd r l else l) else []
theorem touch_spec (ρ : Hp) (s : SV) (l : List Yp) (h : AS ρ 2 YM s l) (hb : l.length ≤ 1000) (v : RV) (r : Rc) (hr : RcIn ρ v r) (hi : v.i.n ≤ 1000) :
  Spec Tryz.prog 72 [.slice s.a s.n s.c, .agg ⟨YR v r⟩] ρ [] (fun z ρ' L' => ρ.le ρ' ∧ ∃ s' : SV, z = .tuple ⟨[.slice s'.a s'.n s'.c, .int .i64 (touchE l r)]⟩ ∧ AS ρ' 2 YM s' (touchR l r) ∧ L' = []) := by
 have hin := hr.i.at'.len
 have hlen : (if ZZ r then Xd r l else l).length ≤ 1000000 := by
  have := touchI_len (lsn := r.lsn) (xs := r.ims) (l := l)
  split
  ·unfold Xd; omega
  ·omega
 have hw := fun rb => with_spec ρ s l h 127 [.pointer (some ⟨rb, 0, none⟩)] [recC rb v r] (if ZZ r then 0 else 220) (if ZZ r then Xd r l else l) hlen (fun ht pb vv sp hown => touch1_spec ρ l hb ht v r hr hi pb rb vv sp hown)
 refine Zg Tryz.func72 rfl rfl rfl fun u R => ?_
 simp only [Zx, List.cons_append, List.nil_append]
 repeat' (first | (refine Ze (.func 126) ?_; refine qC rfl rfl (hw _) ?_; rintro v ρ' L' hle ⟨hle1, s', rfl, hs', rfl⟩ <;> (try simp only [kM, kN, kO])) | (refine Zz ?_; refine Zk (Zc rfl) rfl rfl ?_) | (refine Zh ?_; first | (refine Zf ?_; refine qQ ?_) | refine Zm ?_) | refine Zb ?_ | (refine Zi ?_; refine Zr ?_) | (refine Zj ?_; refine Zs ?_) | intro _)
 exact qE (L' := []) ⟨hle1, s', rfl, hs', rfl⟩
def cleanE1 (page : Int) (l : List Yp) : Int := if (XG page l).isSome then 0 else 4
theorem clean1_spec (ρ : Hp) (l : List Yp) (hl : l.length ≤ 1000) (ht : YE l = true) (page : Int) (pb nb : Nat) (vv : Value) (sp : List Value) (hown : OwnS vv l.length (Ya l) sp 2) :
  Spec Tryz.prog 130 [.pointer (some ⟨pb, 0, none⟩), .pointer (some ⟨nb, 0, none⟩)] ρ ([pC pb vv, ZN vv (Ya l) sp 92] ++ numC nb page)
   (fun z ρ' L' => z = .int .i64 (cleanE1 page l) ∧ ρ' = ρ ∧ ∃ v' sp', OwnS v' (delP page l).length (Ya (delP page l)) sp' 2 ∧ L' = [pC pb v', ZN v' (Ya (delP page l)) sp' 92] ++ numC nb page) := by
 have hat := at_own ρ vv sp l (by omega) hown page
 obtain ⟨va, vc, rfl, hvc⟩ := hown.slice
 refine Zg Tryz.func130 rfl rfl rfl fun u R => ?_
 simp only [Zx, List.cons_append, List.nil_append]
 repeat' (first | (refine Zz ?_; refine Zk (Zc rfl) rfl rfl ?_) | (refine Zh ?_; first | (refine Zf ?_; refine qQ ?_) | refine Zm ?_) | refine Zb ?_ | (refine Zi ?_; refine Zr ?_) | (refine Zj ?_; refine Zs ?_) | intro _)
 refine ZB (Zq _ _ ([pC pb (.slice va l.length vc), [(nb, .cells ⟨[.int .i64 page]⟩ 3 (0, 0))]])) (ZG (hT := tk) (Hp.le_refl _)) ?_
 all_goals (refine ZI 0 ?_; refine rNc 1 ?_; refine ZU 2 ?_; refine ZU 3 ?_)
 all_goals (refine Zt (i := 4) ?_; ((try refine Zn ?_); (first | (refine Ze (.func 128) ?_; refine qC rfl rfl (hat) ?_; rintro v ρ' L' hle ⟨rfl, i, there, rfl, hAt, rfl⟩ <;> (try simp only [kM, kN, kO])) | (refine Zm ?_; try intro _)) <;> ((try simp only [kM, kN, kO]); refine Zb ?_; refine Zo ?_)))
 all_goals (refine ZK ?_; refine ZI 5 ?_; refine rEx 6 ?_; refine rEx 7 ?_; refine rAs 8 ?_; refine rAs 9 ?_; refine ZE ?_)
 have hrec := hAt.rec' ht
 unfold cleanE1
 cases there
 ·rw [if_neg (by simp)] at hrec
  rw [hrec]
  have hd : delP page l = l := by
   unfold delP
   rw [List.filter_eq_self]
   intro p hp
   have := List.find?_eq_none.1 hrec p hp
   simpa using this
  rw [hd]
  repeat' (first | (refine Zz ?_; refine Zk (Zc rfl) rfl rfl ?_) | (refine Zh ?_; first | (refine Zf ?_; refine qQ ?_) | refine Zm ?_) | refine Zb ?_ | (refine Zi ?_; refine Zr ?_) | (refine Zj ?_; refine Zs ?_) | intro _)
  exact qE (L' := [pC pb (.slice va l.length vc), ZN (.slice va l.length vc) (Ya l) sp 92, [(nb, .cells ⟨[.int .i64 page]⟩ 3 (0, 0))]]) ⟨rfl, rfl, _, sp, hown, rfl⟩
 ·rw [if_pos rfl] at hrec
  obtain ⟨h1, h2⟩ := hAt.hit rfl
  rw [hrec, List.getElem?_eq_getElem h1]
  have hdel := hAt.del ht
  have hdl : l.length - 1 = (delP page l).length := by rw [hdel]; simp; omega
  repeat' (first | (refine Ze (.func 131) ?_; refine qC rfl rfl (delete_spec _ _ sp l (by omega) hown i h1) ?_; rintro v ρ' L' hle ⟨rfl, sp2, hown2, rfl⟩ <;> (try simp only [kM, kN, kO])) | (obtain ⟨va2, vc2, rfl, hvc2⟩ := hown2.slice; refine Zm ?_) | (refine Zz ?_; refine Zk (Zc rfl) rfl rfl ?_) | (refine Zh ?_; first | (refine Zf ?_; refine qQ ?_) | refine Zm ?_) | refine Zb ?_ | (refine Zi ?_; refine Zr ?_) | (refine Zj ?_; refine Zs ?_) | intro _)
  rw [← hdel, hdl] at hown2
  rw [← hdel, hdl]
  exact qE (L' := [pC pb (.slice va2 (delP page l).length vc2), ZN (.slice va2 (delP page l).length vc2) (Ya (delP page l)) sp2 92, [(nb, .cells ⟨[.int .i64 page]⟩ 3 (0, 0))]]) ⟨rfl, rfl, _, sp2, hown2, rfl⟩
def cleanE (page : Int) (l : List Yp) : Int := if YE l then cleanE1 page l else 320
def cleanR (page : Int) (l : List Yp) : List Yp := if YE l = true ∧ cleanE1 page l = 0 then delP page l else []
theorem clean_spec (ρ : Hp) (s : SV) (l : List Yp) (h : AS ρ 2 YM s l) (hb : l.length ≤ 1000) (page : Int) :
  Spec Tryz.prog 73 [.slice s.a s.n s.c, .int .i64 page] ρ [] (fun z ρ' L' => ρ.le ρ' ∧ ∃ s' : SV, z = .tuple ⟨[.slice s'.a s'.n s'.c, .int .i64 (cleanE page l)]⟩ ∧ AS ρ' 2 YM s' (cleanR page l) ∧ L' = []) := by
 have hlen : (delP page l).length ≤ 1000000 := by have := List.length_filter_le (fun p : Yp => decide (p.page ≠ page)) l; unfold delP; omega
 have hw := fun nb => with_spec ρ s l h 130 [.pointer (some ⟨nb, 0, none⟩)] (numC nb page) (cleanE1 page l) (delP page l) hlen (fun ht pb vv sp hown => clean1_spec ρ l hb ht page pb nb vv sp hown)
 refine Zg Tryz.func73 rfl rfl rfl fun u R => ?_
 simp only [Zx, List.cons_append, List.nil_append]
 repeat' (first | (refine Ze (.func 126) ?_; refine qC rfl rfl (hw _) ?_; rintro v ρ' L' hle ⟨hle1, s', rfl, hs', rfl⟩ <;> (try simp only [kM, kN, kO])) | (refine Zz ?_; refine Zk (Zc rfl) rfl rfl ?_) | (refine Zh ?_; first | (refine Zf ?_; refine qQ ?_) | refine Zm ?_) | refine Zb ?_ | (refine Zi ?_; refine Zr ?_) | (refine Zj ?_; refine Zs ?_) | intro _)
 exact qE (L' := []) ⟨hle1, s', rfl, hs', rfl⟩
def Xy (r : Ros) (l : List Yp) (lsn : Nat) : Rc := ⟨9, lsn, 0, 0, 0, [], [], r.next, r.txns.map ckOf, l⟩
def zRc : Rc := ⟨0, 0, 0, 0, 0, [], [], 0, [], []⟩
def zRV : RV := ⟨Yz, Yz, Yz, Yz⟩
theorem RcIn.zero {ρ : Hp} : RcIn ρ zRV zRc := ⟨AS.nil, by simp [zRc], AS.nil, AS.nil, AS.nil, by simp [zRc]⟩
def makeE (r : Ros) (l : List Yp) (lsn : Nat) : Int := if YE l then (if XD r then (if ZZ (Xy r l lsn) then 0 else 2) else 280) else 320
def makeR (r : Ros) (l : List Yp) (lsn : Nat) : Rc := if makeE r l lsn = 0 then Xy r l lsn else zRc
abbrev rosC (rb : Nat) (v : SV) (r : Ros) : List (Nat × Obj) := [(rb, .cells ⟨XI v r⟩ 26 (0, 0))]
theorem make1_spec (ρ : Hp) (l : List Yp) (v : SV) (r : Ros) (h : RosIn ρ v r) (pb rb : Nat) (vv : Value) (sp : List Value) (hown : OwnS vv l.length (Ya l) sp 2) :
  Spec Tryz.prog 132 [.pointer (some ⟨pb, 0, none⟩), .pointer (some ⟨rb, 0, none⟩)] ρ ([pC pb vv, ZN vv (Ya l) sp 92] ++ [rosC rb v r])
   (fun z ρ' L' => z = .int .i64 (if XD r then 0 else 280) ∧ ρ' = ρ ∧ ∃ v' sp', OwnS v' l.length (Ya l) sp' 2 ∧ L' = [pC pb v', ZN v' (Ya l) sp' 92] ++ [rosC rb v r]) := by
 have hck := XL ρ v r h
 refine Zg Tryz.func132 rfl rfl rfl fun u R => ?_
 simp only [Zx, List.cons_append, List.nil_append]
 repeat' (first | (refine Ze (.func 55) ?_; refine qC rfl rfl (hck) ?_; rintro v ρ' L' hle ⟨rfl, rfl, rfl⟩ <;> (try simp only [kM, kN, kO])) | (refine Zz ?_; refine Zk (Zc rfl) rfl rfl ?_) | (refine Zh ?_; first | (refine Zf ?_; refine qQ ?_) | refine Zm ?_) | refine Zb ?_ | (refine Zi ?_; refine Zr ?_) | (refine Zj ?_; refine Zs ?_) | intro _)
 exact qE (L' := [pC pb vv, ZN vv (Ya l) sp 92, rosC rb v r]) ⟨rfl, rfl, vv, sp, hown, rfl⟩
theorem make_spec (ρ : Hp) (v : SV) (r : Ros) (hr : RosIn ρ v r) (s : SV) (l : List Yp) (h : AS ρ 2 YM s l) (lsn : Nat) :
  Spec Tryz.prog 74 [.agg ⟨XI v r⟩, .slice s.a s.n s.c, .int .u64 lsn] ρ [] (fun z ρ' L' => ρ.le ρ' ∧ ∃ v', z = .tuple ⟨[.agg ⟨YR v' (makeR r l lsn)⟩, .int .i64 (makeE r l lsn)]⟩ ∧ RcIn ρ' v' (makeR r l lsn) ∧ L' = []) := by
 have hl := h.at'.len
 have hn := h.big
 have hw := fun rb => with_spec ρ s l h 132 [.pointer (some ⟨rb, 0, none⟩)] [rosC rb v r] (if XD r then 0 else 280) l (by omega) (fun ht pb vv sp hown => make1_spec ρ l v r hr pb rb vv sp hown)
 unfold makeR makeE
 refine Zg Tryz.func74 rfl rfl rfl fun u R => ?_
 simp only [Zx, List.cons_append, List.nil_append]
 cases ht : YE l
 ·simp only [ht, Bool.false_eq_true, if_false, false_and] at hw ⊢
  repeat' (first | (refine Ze (.func 126) ?_; refine qC rfl rfl (hw _) ?_; rintro v ρ' L' hle ⟨hle1, s', rfl, hs', rfl⟩ <;> (try simp only [kM, kN, kO])) | (refine Zz ?_; refine Zk (Zc rfl) rfl rfl ?_) | (refine Zh ?_; first | (refine Zf ?_; refine qQ ?_) | refine Zm ?_) | refine Zb ?_ | (refine Zi ?_; refine Zr ?_) | (refine Zj ?_; refine Zs ?_) | intro _)
  exact qE (L' := []) ⟨hle1, zRV, rfl, RcIn.zero, rfl⟩
 ·cases hro : XD r
  ·simp only [ht, hro, if_true, Bool.false_eq_true, if_false] at hw ⊢
   repeat' (first | (refine Ze (.func 126) ?_; refine qC rfl rfl (hw _) ?_; rintro v ρ' L' hle ⟨hle1, s', rfl, hs', rfl⟩ <;> (try simp only [kM, kN, kO])) | (refine Zz ?_; refine Zk (Zc rfl) rfl rfl ?_) | (refine Zh ?_; first | (refine Zf ?_; refine qQ ?_) | refine Zm ?_) | refine Zb ?_ | (refine Zi ?_; refine Zr ?_) | (refine Zj ?_; refine Zs ?_) | intro _)
   exact qE (L' := []) ⟨hle1, zRV, rfl, RcIn.zero, rfl⟩
  ·simp only [ht, hro, if_true, and_self] at hw ⊢
   have hckpt := fun ρ1 (h : RosIn ρ1 v r) => rosckpt_spec ρ1 v r h
   simp only [hro, if_true] at hckpt
   repeat' (first | (refine Ze (.func 126) ?_; refine qC rfl rfl (hw _) ?_; rintro v ρ' L' hle ⟨hle1, s', rfl, hs', rfl⟩ <;> (try simp only [kM, kN, kO])) | (refine Zz ?_; refine Zk (Zc rfl) rfl rfl ?_) | (refine Zh ?_; first | (refine Zf ?_; refine qQ ?_) | refine Zm ?_) | refine Zb ?_ | (refine Zi ?_; refine Zr ?_) | (refine Zj ?_; refine Zs ?_) | intro _)
   rename_i rb cb
   have hr1 := hr.mono hle1
   refine ZB (Zq _ _ ([rosC rb v r])) (ZG (hT := tk) (Hp.le_refl _)) ?_
   all_goals (refine ZI 0 ?_; refine ZO 1 ?_; refine ZU 2 ?_; refine ZU 3 ?_; refine ZI 5 ?_)
   all_goals (refine YG (i := 4) (j := 7) ?_ ?_ <;> ((try refine Zn ?_); (first | (refine Ze (.func 116) ?_; refine qC rfl rfl (hckpt _ hr1) ?_; rintro v ρ' L' hle ⟨hle2, s2, rfl, hs2, rfl⟩ <;> (try simp only [kM, kN, kO])) | (refine Zm ?_; try intro _)) <;> ((try simp only [kM, kN, kO]); refine Zb ?_; refine Zo ?_)))
   all_goals (first | refine rBu 6 ?_ (y := fun _ _ => Zc rfl) | (refine Zt (i := 4) ?_; ((try refine Zn ?_); (first | (refine Ze (.func 116) ?_; refine qC rfl rfl (hckpt _ hr1) ?_; rintro v ρ' L' hle ⟨hle2, s2, rfl, hs2, rfl⟩ <;> (try simp only [kM, kN, kO])) | (refine Zm ?_; try intro _)) <;> ((try simp only [kM, kN, kO]); refine Zb ?_; refine Zo ?_))))
   all_goals (first | refine rBu 6 ?_ (y := fun _ _ => Zc rfl) | (refine Zt (i := 7) ?_; ((try refine Zn ?_); (first | (refine Zm ?_; try intro _)) <;> ((try simp only [kM, kN, kO]); refine Zb ?_; refine Zo ?_))))
   all_goals (refine Zt (i := 8) ?_; ((try refine Zn ?_); (first | (refine Zm ?_; try intro _)) <;> ((try simp only [kM, kN, kO]); refine Zb ?_; refine Zo ?_)))
   all_goals refine ZE ?_
   all_goals (
    have hX : RcIn ρ' ⟨Yz, Yz, s2, s'⟩ (Xy r l lsn) := ⟨AS.nil, by simp [Xy], AS.nil, hs2, hs'.mono hle2, by simp [Xy]⟩
    have hck := XC _ _ _ hX
    cases hok : ZZ (Xy r l lsn)
    ·simp only [hok, Bool.false_eq_true, if_false] at hck ⊢
     repeat' (first | (refine Ze (.func 52) ?_; refine qC rfl rfl (hck) ?_; rintro v ρ' L' hle ⟨rfl, rfl, rfl⟩ <;> (try simp only [kM, kN, kO])) | (refine Zz ?_; refine Zk (Zc rfl) rfl rfl ?_) | (refine Zh ?_; first | (refine Zf ?_; refine qQ ?_) | refine Zm ?_) | refine Zb ?_ | (refine Zi ?_; refine Zr ?_) | (refine Zj ?_; refine Zs ?_) | intro _)
     exact qE (L' := []) ⟨Hp.le_trans hle1 hle2, zRV, rfl, RcIn.zero, rfl⟩
    ·simp only [hok, if_true] at hck ⊢
     repeat' (first | (refine Ze (.func 52) ?_; refine qC rfl rfl (hck) ?_; rintro v ρ' L' hle ⟨rfl, rfl, rfl⟩ <;> (try simp only [kM, kN, kO])) | (refine Zz ?_; refine Zk (Zc rfl) rfl rfl ?_) | (refine Zh ?_; first | (refine Zf ?_; refine qQ ?_) | refine Zm ?_) | refine Zb ?_ | (refine Zi ?_; refine Zr ?_) | (refine Zj ?_; refine Zs ?_) | intro _)
     exact qE (L' := []) ⟨Hp.le_trans hle1 hle2, _, rfl, hX, rfl⟩)
def isE (x : Rc) : Int := if ZZ x then (if x.kind = 9 then 0 else 2) else 220
theorem is_spec (ρ : Hp) (v : RV) (r : Rc) (h : RcIn ρ v r) : Spec Tryz.prog 75 [.agg ⟨YR v r⟩] ρ [] (fun z ρ' L' => z = .int .i64 (isE r) ∧ ρ' = ρ ∧ L' = []) := by
 have hck := XC ρ v r h
 unfold isE
 refine Zg Tryz.func75 rfl rfl rfl fun u R => ?_
 simp only [Zx, List.cons_append, List.nil_append]
 cases hok : ZZ r
 ·rw [hok] at hck
  repeat' (first | (refine Ze (.func 52) ?_; refine qC rfl rfl (hck) ?_; rintro v ρ' L' hle ⟨rfl, rfl, rfl⟩ <;> (try simp only [kM, kN, kO, if_false, Bool.false_eq_true])) | (refine Zz ?_; refine Zk (Zc rfl) rfl rfl ?_) | (refine Zh ?_; first | (refine Zf ?_; refine qQ ?_) | refine Zm ?_) | refine Zb ?_ | (refine Zi ?_; refine Zr ?_) | (refine Zj ?_; refine Zs ?_) | intro _)
  exact qE ⟨rfl, rfl, rfl⟩
 ·rw [hok] at hck
  by_cases h9 : r.kind = 9
  ·rw [if_pos h9]
   repeat' (first | (refine Ze (.func 52) ?_; refine qC rfl rfl (hck) ?_; rintro v ρ' L' hle ⟨rfl, rfl, rfl⟩ <;> (try simp only [kM, kN, kO, if_true])) | (refine Zz ?_; refine Zk (Zc rfl) rfl rfl ?_) | (refine Zh ?_; first | (refine Zf ?_; refine qQ ?_) | refine Zm ?_) | refine Zb ?_ | (refine Zi ?_; refine Zr ?_) | (refine Zj ?_; refine Zs ?_) | intro _)
   exact qE ⟨rfl, rfl, rfl⟩
  ·rw [if_neg h9]
   repeat' (first | (refine Ze (.func 52) ?_; refine qC rfl rfl (hck) ?_; rintro v ρ' L' hle ⟨rfl, rfl, rfl⟩ <;> (try simp only [kM, kN, kO, if_true])) | (refine Zz ?_; refine Zk (Zc rfl) rfl rfl ?_) | (refine Zh ?_; first | (refine Zf ?_; refine qQ ?_) | refine Zm ?_) | refine Zb ?_ | (refine Zi ?_; refine Zr ?_) | (refine Zj ?_; refine Zs ?_) | intro _)
   exact qE ⟨rfl, rfl, rfl⟩
def pRight (p : Yp) : Bool := decide (0 ≤ p.page ∧ p.page < 64 ∧ 1 ≤ p.since ∧ p.since ≤ 1099511627776)
theorem tblOk_up {l : List Yp} : YE l = upB pRight Yp.page l l.length := by
 have key : ∀ (l : List Yp) (last : Int), Wn last l = true ↔ (∀ i (h : i < l.length), last < l[i].page ∧ l[i].page < 64 ∧ 1 ≤ l[i].since ∧ l[i].since ≤ 1099511627776) ∧ ∀ i (h : i < l.length), 0 < i → (l[i - 1]'(by omega)).page < l[i].page := by
  intro l
  induction l with
  | nil => intro last; simp [Wn]
  | cons p r ih =>
   intro last
   rw [Wn, Bool.and_eq_true, decide_eq_true_eq, ih p.page]
   constructor
   ·rintro ⟨h0, h1, h2⟩
    refine ⟨fun i hi => ?_, fun i hi h0i => ?_⟩
    ·cases i with
     | zero => exact h0
     | succ i => have := h1 i (by simpa using hi); simp only [List.getElem_cons_succ]; omega
    ·cases i with
     | zero => omega
     | succ i =>
      cases i with
      | zero => have := h1 0 (by simpa using hi); simpa using this.1
      | succ i => have := h2 (i + 1) (by simpa using hi) (by omega); simpa using this
   ·rintro ⟨h1, h2⟩
    have h0 := h1 0 (by simp)
    have hup : ∀ i (hi : i < r.length), p.page < r[i].page := by
     intro i hi
     induction i with
     | zero => have := h2 1 (by simp only [List.length_cons]; omega) (by omega); simpa using this
     | succ i ihi =>
      have e1 := ihi (by omega)
      have := h2 (i + 2) (by simp only [List.length_cons]; omega) (by omega)
      simp only [List.getElem_cons_succ, show i + 2 - 1 = i + 1 by omega] at this
      omega
    refine ⟨by simpa using h0, fun i hi => ?_, fun i hi h0i => ?_⟩
    ·have := h1 (i + 1) (by simp only [List.length_cons]; omega)
     simp only [List.getElem_cons_succ] at this
     exact ⟨hup i hi, this.2⟩
    ·have := h2 (i + 1) (by simp only [List.length_cons]; omega) (by omega)
     obtain ⟨j, rfl⟩ : ∃ j, i = j + 1 := ⟨i - 1, by omega⟩
     simpa using this
 have key2 : ∀ (k : Nat), k ≤ l.length → (ZW l.length (fun _ x => pRight x) (fun y x => decide (y.page < x.page)) l k = true ↔ (∀ i (h : i < l.length), i < k → pRight l[i] = true) ∧ ∀ i (h : i < l.length), i < k → 0 < i → (l[i - 1]'(by omega)).page < l[i].page) := by
  intro k
  induction k with
  | zero => intro _; rw [ZW]; simp
  | succ k ih =>
   intro hk
   rw [Xt (show k < l.length by omega), Bool.and_eq_true, ih (by omega), Bool.and_eq_true]
   constructor
   ·rintro ⟨⟨h1, h2⟩, h3, h4⟩
    refine ⟨fun i hi hik => ?_, fun i hi hik h0 => ?_⟩
    ·by_cases e : i = k
     ·subst e; exact h3
     ·exact h1 i hi (by omega)
    ·by_cases e : i = k
     ·subst e
      rw [decide_eq_false (by omega), Bool.false_or, decide_eq_true_eq] at h4
      exact h4
     ·exact h2 i hi (by omega) h0
   ·rintro ⟨h1, h2⟩
    refine ⟨⟨fun i hi hik => h1 i hi (by omega), fun i hi hik h0 => h2 i hi (by omega) h0⟩, h1 k (by omega) (by omega), ?_⟩
    by_cases e : k = 0
    ·rw [decide_eq_true e, Bool.true_or]
    ·rw [decide_eq_false e, Bool.false_or, decide_eq_true_eq]
     exact h2 k (by omega) (by omega) (by omega)
 rw [Bool.eq_iff_iff]
 unfold YE upB
 rw [key, key2 _ (Nat.le_refl _)]
 unfold pRight
 constructor
 ·rintro ⟨h1, h2⟩
  exact ⟨fun i hi _ => by have := h1 i hi; rw [decide_eq_true_eq]; omega, fun i hi _ h0 => h2 i hi h0⟩
 ·rintro ⟨h1, h2⟩
  refine ⟨fun i hi => ?_, fun i hi h0 => h2 i hi hi h0⟩
  have := h1 i hi hi
  rw [decide_eq_true_eq] at this
  omega
theorem right22_spec (ρ : Hp) (s : SV) (l : List Yp) (h : AS ρ 2 YM s l)   :
  Spec Tryz.prog 60 [.slice s.a s.n s.c] ρ [] (fun z ρ' L' => z = .bool (upB pRight Yp.page l l.length) ∧ ρ' = ρ ∧ L' = []) := by
 have hl := h.at'.len
 have hn := h.big
 have hA := h.at'
 generalize hR : pRight = rt
 unfold upB
 generalize hm : l.length = mo
 have hrt : ∀ x, rt x = pRight x := fun x => by rw [hR]
 refine Zg Tryz.func60 rfl rfl rfl fun u R => ?_
 simp only [Zx, List.cons_append, List.nil_append]
 repeat' (first | (refine Zz ?_; refine Zk (Zc rfl) rfl rfl ?_) | (refine Zh ?_; first | (refine Zf ?_; refine qQ ?_) | refine Zm ?_) | refine Zb ?_ | (refine Zi ?_; refine Zr ?_) | (refine Zj ?_; refine Zs ?_) | intro _)
 refine ZC [(0, _), (5, _), (6, _)] (fun (ζ : (Nat)) => [(7, .int .i64 ζ), (2, .bool false)]) (fun (ζ : (Nat)) => ρ) (fun (ζ : (Nat)) => []) (fun (ζ : (Nat)) => ζ ≤ s.n ∧ ZW mo (fun _ x => rt x) (fun y x => decide (Yp.page y < Yp.page x)) l ζ = true) (fun (ζ : (Nat)) => s.n - ζ) (0) (⟨Nat.zero_le _, by rw [ZW]; simp [hm]⟩) Zl Zl rfl tk ?_
 rintro k hI
 try simp only [List.cons_append, List.nil_append, List.append_assoc, List.append_eq] at hI ⊢
 try dsimp only at hI ⊢
 obtain ⟨hk, hok⟩ := hI
 by_cases hlt : k < s.n
 ·obtain ⟨b, off, C, T, fr, e1, hb0, hfit, hc⟩ := hA.get (show k < l.length by omega)
  have hs := Xt (most := mo) (right := fun _ x => rt x) (lt := fun y x => decide (Yp.page y < Yp.page x)) (show k < l.length by omega)
  have hfin0 := fun (e : ZW mo (fun _ x => rt x) (fun y x => decide (Yp.page y < Yp.page x)) l (k + 1) = false) => XK e (show k + 1 ≤ mo by omega)
  rw [hok, Bool.true_and] at hs
  have hw := hrt l[k]
  skip
  rw [e1]
  by_cases hk0 : k = 0
  ·have hfin : (rt l[k] && (decide (k = 0) || decide (Yp.page (l[k - 1]'(by omega)) < Yp.page l[k]))) = false → ZW mo (fun _ x => rt x) (fun y x => decide (Yp.page y < Yp.page x)) l mo = false := fun e => hfin0 (by rw [hs]; exact e)
   rw [decide_eq_true hk0, Bool.true_or, Bool.and_true] at hs hfin
   generalize l[k] = x at *
   unfold pRight at hw
   generalize hQQ : ZW mo (fun _ x => rt x) (fun y x => decide (Yp.page y < Yp.page x)) l mo = q at *
   clear hfin0 hrt hR
   repeat' (first | (refine Zz ?_; refine Zk (Zc rfl) rfl rfl ?_) | (refine Zh ?_; first | (refine Zf ?_; refine qQ ?_) | refine Zm ?_) | refine Zb ?_ | (refine Zi ?_; refine Zr ?_) | (refine Zj ?_; refine Zs ?_) | intro _)
   refine ZB (Zq _ _ _) Zy ?_
   all_goals (refine ZO 0 ?_; refine ZK ?_; refine ZU 1 ?_; refine rCm 2 ?_; refine ZI 3 ?_)
   all_goals (first | refine Zd 4 ?_ | refine Za 4 ?_ | refine Yc 4 ?_ | (refine ZA (t := 15) rfl (fun hb => ?_) (fun hb => ?_) <;> (try simp only [kk] at hb) <;> first | refine Zd 4 ?_ | refine Za 4 ?_ | refine Yc 4 ?_))
   all_goals ((first | refine Zd 5 ?_ | refine Za 5 ?_ | refine Yf 5 ?_); (first | refine Zd 6 ?_ | refine Za 6 ?_ | refine wCm 6 ?_); refine rPk 7 ?_; refine ZI 8 ?_)
   all_goals (first | refine Zd 9 ?_ | refine Za 9 ?_ | refine Yc 9 ?_ | (refine ZA (t := 20) rfl (fun hb => ?_) (fun hb => ?_) <;> (try simp only [kk] at hb) <;> first | refine Zd 9 ?_ | refine Za 9 ?_ | refine Yc 9 ?_))
   all_goals ((first | refine Zd 10 ?_ | refine Za 10 ?_ | refine Yf 10 ?_); (first | refine Zd 11 ?_ | refine Za 11 ?_ | refine wCm 11 ?_); refine rPk 12 ?_; refine ZI 13 ?_)
   all_goals (first | refine Zd 14 ?_ | refine Za 14 ?_ | refine Yc 14 ?_ | (refine ZA (t := 25) rfl (fun hb => ?_) (fun hb => ?_) <;> (try simp only [kk] at hb) <;> first | refine Zd 14 ?_ | refine Za 14 ?_ | refine Yc 14 ?_))
   all_goals ((first | refine Zd 15 ?_ | refine Za 15 ?_ | refine Yf 15 ?_); (first | refine Zd 16 ?_ | refine Za 16 ?_ | refine wCm 16 ?_); refine rPk 17 ?_; refine ZI 18 ?_)
   all_goals (first | refine Zd 19 ?_ | refine Za 19 ?_ | refine ZY 19 ?_ | (refine ZA (t := 30) rfl (fun hb => ?_) (fun hb => ?_) <;> (try simp only [kk] at hb) <;> first | refine Zd 19 ?_ | refine Za 19 ?_ | refine ZY 19 ?_))
   all_goals ((first | refine Zd 20 ?_ | refine Za 20 ?_ | refine wCm 20 ?_); (first | refine Zd 21 ?_ | refine Za 21 ?_ | refine ZY 21 ?_))
   all_goals (first | refine Zd 22 ?_ | refine Za 22 ?_ | refine ZY 22 ?_ | (refine ZA (t := 33) rfl (fun hb => ?_) (fun hb => ?_) <;> (try simp only [kk] at hb) <;> first | refine Zd 22 ?_ | refine Za 22 ?_ | refine ZY 22 ?_))
   all_goals ((first | refine Zd 23 ?_ | refine Za 23 ?_ | refine ZY 23 ?_); (first | refine Zd 24 ?_ | refine Za 24 ?_ | refine wSb 24 ?_); (first | refine Zd 25 ?_ | refine Za 25 ?_ | refine wIa 25 ?_); (first | refine Zd 26 ?_ | refine Za 26 ?_ | refine Yc 26 ?_); (first | refine Zd 27 ?_ | refine Za 27 ?_ | refine Yf 27 ?_); (first | refine Zd 28 ?_ | refine Za 28 ?_ | refine Yc 28 ?_); (first | refine Zd 29 ?_ | refine Za 29 ?_ | refine Yf 29 ?_); (first | refine Zd 30 ?_ | refine Za 30 ?_ | refine wCm 30 ?_); (first | refine Zd 31 ?_ | refine Za 31 ?_ | refine wPk 31 ?_); refine rPk 32 ?_; refine ZE ?_)
   all_goals (repeat' (first | (refine Zz ?_; refine Zk (Zc rfl) rfl rfl ?_) | (refine Zh ?_; first | (refine Zf ?_; refine qQ ?_) | refine Zm ?_) | refine Zb ?_ | (refine Zi ?_; refine Zr ?_) | (refine Zj ?_; refine Zs ?_) | (refine Xw ?_; refine ZR rfl rfl (fun hb => ?_) (fun hb => ?_) <;> (try simp only [decide_eq_true_eq, decide_eq_false_iff_not, Bool.not_eq_true, Bool.not_eq_false, beq_iff_eq, bne_iff_ne, ne_eq, decide_eq_decide, Bool.not_eq_eq_eq_not, Bool.not_true, Bool.not_false, beq_eq_false_iff_ne, bne_eq_false_iff_eq, Bool.and_eq_true, Bool.or_eq_true, Bool.and_eq_false_imp, Bool.or_eq_false_iff, bq2, bqt, bqf] at hb)) | (refine Ym ?_; refine Yb rfl (fun hb => ?_) (fun hb => ?_) <;> (try simp only [decide_eq_true_eq, decide_eq_false_iff_not, Bool.not_eq_true, Bool.not_eq_false, beq_iff_eq, bne_iff_ne, ne_eq, decide_eq_decide, Bool.not_eq_eq_eq_not, Bool.not_true, Bool.not_false, beq_eq_false_iff_ne, bne_eq_false_iff_eq, Bool.and_eq_true, Bool.or_eq_true, Bool.and_eq_false_imp, Bool.or_eq_false_iff, bq2, bqt, bqf] at hb)) | intro _))
   all_goals (try (rw [hfin (by rw [hw]; (first | (simp [*]; done) | (simp [*]; omega) | (simp_all; done) | (simp_all; omega)))]; refine qF (L' := []) ?_; exact ⟨by first | rfl | rw [Bool.and_false], rfl, rfl⟩))
   all_goals rw [← e1]
   all_goals refine Zp (k + 1) (⟨hlt, by rw [hs, hw]; (first | (simp [*]; done) | (simp [*]; omega) | (simp_all; done) | (simp_all; omega))⟩) Zl Zl rfl tk inferInstance (by first | omega | (dsimp only; omega))
  ·have hd : decide (k = 0) = false := decide_eq_false hk0
   obtain ⟨b2, off2, C2, T2, fr2, f1, hb2, hfit2, hc2⟩ := hA.get (show k - 1 < l.length by omega)
   rw [e1] at f1
   cases f1
   rw [hb0] at hb2
   cases hb2
   have ek : ((k : Int) - 1).toNat = k - 1 := by omega
   have hfin : (rt l[k] && (decide (k = 0) || decide (Yp.page (l[k - 1]'(by omega)) < Yp.page l[k]))) = false → ZW mo (fun _ x => rt x) (fun y x => decide (Yp.page y < Yp.page x)) l mo = false := fun e => hfin0 (by rw [hs]; exact e)
   rw [hd, Bool.false_or] at hs hfin
   have hcy : C[off + ((k : Int) - 1).toNat * 2]? = some (.int .i64 (Yp.page (l[k - 1]'(by omega)))) := by
    have := congrArg (fun l => l[0]?) hc2
    rw [ek]
    simp only [List.getElem?_take, List.getElem?_drop] at this
    simpa using this
   clear hc2 hfit2
   generalize l[k] = x at *
   generalize l[k - 1]'(by omega) = y at *
   unfold pRight at hw
   generalize hQQ : ZW mo (fun _ x => rt x) (fun y x => decide (Yp.page y < Yp.page x)) l mo = q at *
   clear hfin0 hrt hR
   repeat' (first | (refine Zz ?_; refine Zk (Zc rfl) rfl rfl ?_) | (refine Zh ?_; first | (refine Zf ?_; refine qQ ?_) | refine Zm ?_) | refine Zb ?_ | (refine Zi ?_; refine Zr ?_) | (refine Zj ?_; refine Zs ?_) | intro _)
   refine ZB (Zq _ _ _) Zy ?_
   all_goals (refine ZO 0 ?_; refine ZK ?_; refine ZU 1 ?_; refine rCm 2 ?_; refine ZI 3 ?_)
   all_goals (first | refine Zd 4 ?_ | refine Za 4 ?_ | refine Yc 4 ?_ | (refine ZA (t := 15) rfl (fun hb => ?_) (fun hb => ?_) <;> (try simp only [kk] at hb) <;> first | refine Zd 4 ?_ | refine Za 4 ?_ | refine Yc 4 ?_))
   all_goals ((first | refine Zd 5 ?_ | refine Za 5 ?_ | refine Yf 5 ?_); (first | refine Zd 6 ?_ | refine Za 6 ?_ | refine wCm 6 ?_); refine rPk 7 ?_; refine ZI 8 ?_)
   all_goals (first | refine Zd 9 ?_ | refine Za 9 ?_ | refine Yc 9 ?_ | (refine ZA (t := 20) rfl (fun hb => ?_) (fun hb => ?_) <;> (try simp only [kk] at hb) <;> first | refine Zd 9 ?_ | refine Za 9 ?_ | refine Yc 9 ?_))
   all_goals ((first | refine Zd 10 ?_ | refine Za 10 ?_ | refine Yf 10 ?_); (first | refine Zd 11 ?_ | refine Za 11 ?_ | refine wCm 11 ?_); refine rPk 12 ?_; refine ZI 13 ?_)
   all_goals (first | refine Zd 14 ?_ | refine Za 14 ?_ | refine Yc 14 ?_ | (refine ZA (t := 25) rfl (fun hb => ?_) (fun hb => ?_) <;> (try simp only [kk] at hb) <;> first | refine Zd 14 ?_ | refine Za 14 ?_ | refine Yc 14 ?_))
   all_goals ((first | refine Zd 15 ?_ | refine Za 15 ?_ | refine Yf 15 ?_); (first | refine Zd 16 ?_ | refine Za 16 ?_ | refine wCm 16 ?_); refine rPk 17 ?_; refine ZI 18 ?_)
   all_goals (first | refine Zd 19 ?_ | refine Za 19 ?_ | refine ZY 19 ?_ | (refine ZA (t := 30) rfl (fun hb => ?_) (fun hb => ?_) <;> (try simp only [kk] at hb) <;> first | refine Zd 19 ?_ | refine Za 19 ?_ | refine ZY 19 ?_))
   all_goals ((first | refine Zd 20 ?_ | refine Za 20 ?_ | refine wCm 20 ?_); (first | refine Zd 21 ?_ | refine Za 21 ?_ | refine ZY 21 ?_))
   all_goals (first | refine Zd 22 ?_ | refine Za 22 ?_ | refine ZY 22 ?_ | (refine ZA (t := 33) rfl (fun hb => ?_) (fun hb => ?_) <;> (try simp only [kk] at hb) <;> first | refine Zd 22 ?_ | refine Za 22 ?_ | refine ZY 22 ?_))
   all_goals ((first | refine Zd 23 ?_ | refine Za 23 ?_ | refine ZY 23 ?_); (first | refine Zd 24 ?_ | refine Za 24 ?_ | refine wSb 24 ?_); (first | refine Zd 25 ?_ | refine Za 25 ?_ | refine wIa 25 ?_); (first | refine Zd 26 ?_ | refine Za 26 ?_ | refine Yc 26 ?_); (first | refine Zd 27 ?_ | refine Za 27 ?_ | refine Yf 27 ?_); (first | refine Zd 28 ?_ | refine Za 28 ?_ | refine Yc 28 ?_); (first | refine Zd 29 ?_ | refine Za 29 ?_ | refine Yf 29 ?_); (first | refine Zd 30 ?_ | refine Za 30 ?_ | refine wCm 30 ?_); (first | refine Zd 31 ?_ | refine Za 31 ?_ | refine wPk 31 ?_); refine rPk 32 ?_; refine ZE ?_)
   all_goals (repeat' (first | (refine Zz ?_; refine Zk (Zc rfl) rfl rfl ?_) | (refine Zh ?_; first | (refine Zf ?_; refine qQ ?_) | refine Zm ?_) | refine Zb ?_ | (refine Zi ?_; refine Zr ?_) | (refine Zj ?_; refine Zs ?_) | (refine Xw ?_; refine ZR rfl rfl (fun hb => ?_) (fun hb => ?_) <;> (try simp only [decide_eq_true_eq, decide_eq_false_iff_not, Bool.not_eq_true, Bool.not_eq_false, beq_iff_eq, bne_iff_ne, ne_eq, decide_eq_decide, Bool.not_eq_eq_eq_not, Bool.not_true, Bool.not_false, beq_eq_false_iff_ne, bne_eq_false_iff_eq, Bool.and_eq_true, Bool.or_eq_true, Bool.and_eq_false_imp, Bool.or_eq_false_iff, bq2, bqt, bqf] at hb)) | (refine Ym ?_; refine Yb rfl (fun hb => ?_) (fun hb => ?_) <;> (try simp only [decide_eq_true_eq, decide_eq_false_iff_not, Bool.not_eq_true, Bool.not_eq_false, beq_iff_eq, bne_iff_ne, ne_eq, decide_eq_decide, Bool.not_eq_eq_eq_not, Bool.not_true, Bool.not_false, beq_eq_false_iff_ne, bne_eq_false_iff_eq, Bool.and_eq_true, Bool.or_eq_true, Bool.and_eq_false_imp, Bool.or_eq_false_iff, bq2, bqt, bqf] at hb)) | intro _))
   all_goals (try (rw [hfin (by rw [hw]; (first | (simp [*]; done) | (simp [*]; omega) | (simp_all; done) | (simp_all; omega)))]; refine qF (L' := []) ?_; exact ⟨by first | rfl | rw [Bool.and_false], rfl, rfl⟩))
   all_goals rw [← e1]
   all_goals refine Zp (k + 1) (⟨hlt, by rw [hs, hw]; (first | (simp [*]; done) | (simp [*]; omega) | (simp_all; done) | (simp_all; omega))⟩) Zl Zl rfl tk inferInstance (by first | omega | (dsimp only; omega))
 ·have hk2 : k = mo := by omega
  rw [hk2] at hok
  rw [hok]
  repeat' (first | (refine Zz ?_; refine Zk (Zc rfl) rfl rfl ?_) | (refine Zh ?_; first | (refine Zf ?_; refine qQ ?_) | refine Zm ?_) | refine Zb ?_ | (refine Zi ?_; refine Zr ?_) | (refine Zj ?_; refine Zs ?_) | (refine Xw ?_; refine ZR rfl rfl (fun hb => ?_) (fun hb => ?_) <;> (try simp only [decide_eq_true_eq, decide_eq_false_iff_not, Bool.not_eq_true, Bool.not_eq_false, beq_iff_eq, bne_iff_ne, ne_eq, decide_eq_decide, Bool.not_eq_eq_eq_not, Bool.not_true, Bool.not_false, beq_eq_false_iff_ne, bne_eq_false_iff_eq, Bool.and_eq_true, Bool.or_eq_true, Bool.and_eq_false_imp, Bool.or_eq_false_iff, bq2, bqt, bqf] at hb)) | (refine Ym ?_; refine Yb rfl (fun hb => ?_) (fun hb => ?_) <;> (try simp only [decide_eq_true_eq, decide_eq_false_iff_not, Bool.not_eq_true, Bool.not_eq_false, beq_iff_eq, bne_iff_ne, ne_eq, decide_eq_decide, Bool.not_eq_eq_eq_not, Bool.not_true, Bool.not_false, beq_eq_false_iff_ne, bne_eq_false_iff_eq, Bool.and_eq_true, Bool.or_eq_true, Bool.and_eq_false_imp, Bool.or_eq_false_iff, bq2, bqt, bqf] at hb)) | intro _)
  all_goals (refine qF (L' := []) ?_; exact ⟨rfl, rfl, rfl⟩)
def leastN (n : Nat) (l : List Nat) : Nat := l.foldl min n
theorem least_spec (ρ : Hp) (n0 : Nat) (a : Option Addr) (n c : Nat) (l : List Nat) (h : SIn ρ Yw a n l) (hn : n ≤ 10000000) :
  Spec Tryz.prog 77 [.int .u64 n0, .slice a n c] ρ [] (fun z ρ' L' => z = .int .u64 (leastN n0 l) ∧ ρ' = ρ ∧ L' = []) := by
 have hl := h.len
 generalize hq : leastN n0 l = q
 unfold leastN at hq
 refine Zg Tryz.func77 rfl rfl rfl fun u R => ?_
 simp only [Zx, List.cons_append, List.nil_append]
 repeat' (first | (refine Zz ?_; refine Zk (Zc rfl) rfl rfl ?_) | (refine Zh ?_; first | (refine Zf ?_; refine qQ ?_) | refine Zm ?_) | refine Zb ?_ | (refine Zi ?_; refine Zr ?_) | (refine Zj ?_; refine Zs ?_) | intro _)
 refine ZC [(4, _), (7, _), (8, _)] (fun (ζ : (Nat) × (Nat)) => [(9, .int .i64 ζ.1), (0, .int .u64 ζ.2)]) (fun (ζ : (Nat) × (Nat)) => ρ) (fun (ζ : (Nat) × (Nat)) => []) (fun (ζ : (Nat) × (Nat)) => ζ.1 ≤ n ∧ (l.drop ζ.1).foldl min ζ.2 = q) (fun (ζ : (Nat) × (Nat)) => n - ζ.1) ((0, n0)) (⟨Nat.zero_le _, hq⟩) Zl Zl rfl tk ?_
 rintro ⟨k, m⟩ hI
 try simp only [List.cons_append, List.nil_append, List.append_assoc, List.append_eq] at hI ⊢
 try dsimp only at hI ⊢
 obtain ⟨hk, hok⟩ := hI
 by_cases hlt : k < n
 ·obtain ⟨b, off, C, T, fr, e1, hb, hc⟩ := h.get (show k < l.length by omega)
  rw [List.drop_eq_getElem_cons (show k < l.length by omega), List.foldl_cons] at hok
  generalize l[k]'(by omega) = y at *
  rw [e1]
  have hmin : min (m : Int) (y : Int) = ((min m y : Nat) : Int) := by omega
  repeat' (first | (refine Zz ?_; refine Zk (Zc rfl) rfl rfl ?_) | (refine Zh ?_; first | (refine Zf ?_; refine qQ ?_) | refine Zm ?_) | refine Zb ?_ | (refine Zi ?_; refine Zr ?_) | (refine Zj ?_; refine Zs ?_) | intro _)
  rw [← e1]
  try simp only [hmin]
  refine Zp (k + 1, min m y) (⟨hlt, hok⟩) Zl Zl rfl tk inferInstance (by first | omega | (dsimp only; omega))
 ·have hk2 : k = l.length := by omega
  rw [hk2, List.drop_length, List.foldl_nil] at hok
  subst hok
  repeat' (first | (refine Zz ?_; refine Zk (Zc rfl) rfl rfl ?_) | (refine Zh ?_; first | (refine Zf ?_; refine qQ ?_) | refine Zm ?_) | refine Zb ?_ | (refine Zi ?_; refine Zr ?_) | (refine Zj ?_; refine Zs ?_) | intro _)
  exact qE ⟨rfl, rfl, rfl⟩
def Xf (r : Rc) : List Nat := r.txns.map CkT.first ++ r.dirty.map Yp.since
theorem pre_of {α : Type} {l : List α} {k : Nat} {y : α} (h : l[k]? = some y) : (l.take k ++ [y]) <+: l ∧ l.take (k + 1) = l.take k ++ [y] := by
 have hk : k < l.length := by
  rcases Nat.lt_or_ge k l.length with h1 | h1
  ·exact h1
  ·rw [List.getElem?_eq_none h1] at h; cases h
 have e : l.take (k + 1) = l.take k ++ [y] := by
  rw [List.take_succ_eq_append_getElem hk]
  rw [List.getElem?_eq_getElem hk] at h
  cases h; rfl
 exact ⟨by rw [← e]; exact List.take_prefix _ _, e⟩
theorem needed1_iter (ρ0 : Hp) (xb : Nat) (v : RV) (r : Rc) (h : RcIn ρ0 v r) : Iter Tryz.prog 133 [] [.pointer (some ⟨xb, 0, none⟩)] (fun n : Nat => [.int .u64 (n : Int)]) ρ0 [recC xb v r] (Xf r) := by
 intro l J Jx hY ρ Lj hl0 hJ
 have lt := h.t.at'.len
 have ld := h.d.at'.len
 have bt := h.t.big
 have bd := h.d.big
 refine Zg Tryz.func133 rfl rfl rfl fun u R => ?_
 simp only [Zx, List.cons_append, List.nil_append, List.append_assoc]
 repeat' (first | (refine Zz ?_; refine Zk (Zc rfl) rfl rfl ?_) | (refine Zh ?_; first | (refine Zf ?_; refine qQ ?_) | refine Zm ?_) | refine Zb ?_ | (refine Zi ?_; refine Zr ?_) | (refine Zj ?_; refine Zs ?_) | intro _)
 refine ZC [(0, _), (1, _), (8, _), (9, _)] (fun (ζ : (Nat) × (Hp) × (SH)) => [(10, .int .i64 ζ.1)]) (fun (ζ : (Nat) × (Hp) × (SH)) => ζ.2.1) (fun (ζ : (Nat) × (Hp) × (SH)) => recC xb v r :: ζ.2.2) (fun (ζ : (Nat) × (Hp) × (SH)) => ζ.1 ≤ v.t.n ∧ ρ.le ζ.2.1 ∧ J ((Xf r).take ζ.1) ζ.2.1 ζ.2.2) (fun (ζ : (Nat) × (Hp) × (SH)) => v.t.n - ζ.1) ((0, ρ, Lj)) (⟨Nat.zero_le _, Hp.le_refl _, hJ⟩) Zl Zl rfl tk ?_
 rintro ⟨k, ρ1, L1⟩ hI
 try simp only [List.cons_append, List.nil_append, List.append_assoc, List.append_eq] at hI ⊢
 try dsimp only at hI ⊢
 obtain ⟨hk, hle1, hj⟩ := hI
 by_cases hlt : k < v.t.n
 ·obtain ⟨b, off, C, T, fr, e1, hb, hfit, hc⟩ := (h.t.at'.mono (Hp.le_trans hl0 hle1)).get (show k < r.txns.length by omega)
  have hg : (Xf r)[k]? = some (r.txns[k]'(by omega)).first := by
   unfold Xf
   rw [List.getElem?_append_left (by simp; omega), List.getElem?_map, List.getElem?_eq_getElem (by omega)]; rfl
  generalize r.txns[k]'(by omega) = x at *
  obtain ⟨hpre, hts⟩ := pre_of hg
  have hy := hY _ _ ρ1 L1 hpre (Hp.le_trans hl0 hle1) hj
  rw [e1]
  repeat' (first | (refine Ze (.tmp 14) ?_; refine qY rfl rfl (hy) ?_; rintro v ρ' L' hle ⟨Lj', rfl, ⟨rfl, hj'⟩ | ⟨rfl, hj'⟩⟩ <;> (try simp only [kM, kN, kO])) | (refine Zz ?_; refine Zk (Zc rfl) rfl rfl ?_) | (refine Zh ?_; first | (refine Zf ?_; refine qQ ?_) | refine Zm ?_) | refine Zb ?_ | (refine Zi ?_; refine Zr ?_) | (refine Zj ?_; refine Zs ?_) | intro _)
  ·repeat' (first | (refine Zz ?_; refine Zk (Zc rfl) rfl rfl ?_) | (refine Zh ?_; first | (refine Zf ?_; refine qQ ?_) | refine Zm ?_) | refine Zb ?_ | (refine Zi ?_; refine Zr ?_) | (refine Zj ?_; refine Zs ?_) | intro _)
   rw [← e1]
   refine Zp (k + 1, ρ', Lj') (⟨hlt, Hp.le_trans hle1 hle, by dsimp only; rw [hts]; exact hj'⟩) Zl Zl rfl tk inferInstance (by first | omega | (dsimp only; omega))
  ·repeat' (first | (refine Zz ?_; refine Zk (Zc rfl) rfl rfl ?_) | (refine Zh ?_; first | (refine Zf ?_; refine qQ ?_) | refine Zm ?_) | refine Zb ?_ | (refine Zi ?_; refine Zr ?_) | (refine Zj ?_; refine Zs ?_) | intro _)
   exact qE (L' := recC xb v r :: Lj') ⟨Lj', rfl, .inr hj'⟩
 ·obtain rfl : k = v.t.n := by omega
  repeat' (first | (refine Zz ?_; refine Zk (Zc rfl) rfl rfl ?_) | (refine Zh ?_; first | (refine Zf ?_; refine qQ ?_) | refine Zm ?_) | refine Zb ?_ | (refine Zi ?_; refine Zr ?_) | (refine Zj ?_; refine Zs ?_) | intro _)
  refine ZC [(0, _), (21, _), (22, _)] (fun (ζ : (Nat) × (Hp) × (SH)) => [(23, .int .i64 ζ.1)]) (fun (ζ : (Nat) × (Hp) × (SH)) => ζ.2.1) (fun (ζ : (Nat) × (Hp) × (SH)) => recC xb v r :: ζ.2.2) (fun (ζ : (Nat) × (Hp) × (SH)) => ζ.1 ≤ v.d.n ∧ ρ.le ζ.2.1 ∧ J ((Xf r).take (v.t.n + ζ.1)) ζ.2.1 ζ.2.2) (fun (ζ : (Nat) × (Hp) × (SH)) => v.d.n - ζ.1) ((0, ρ1, L1)) (⟨Nat.zero_le _, hle1, hj⟩) Zl Zl rfl tk ?_
  rintro ⟨j, ρ2, L2⟩ hI
  try simp only [List.cons_append, List.nil_append, List.append_assoc, List.append_eq] at hI ⊢
  try dsimp only at hI ⊢
  obtain ⟨hj0, hle2, hj2⟩ := hI
  by_cases hlt2 : j < v.d.n
  ·obtain ⟨b, off, C, T, fr, e1, hb, hfit, hc⟩ := (h.d.at'.mono (Hp.le_trans hl0 hle2)).get (show j < r.dirty.length by omega)
   have hg : (Xf r)[v.t.n + j]? = some (r.dirty[j]'(by omega)).since := by
    unfold Xf
    rw [List.getElem?_append_right (by simp; omega), List.getElem?_map]
    simp only [List.length_map]
    rw [show v.t.n + j - r.txns.length = j by omega, List.getElem?_eq_getElem (by omega)]; rfl
   generalize r.dirty[j]'(by omega) = x at *
   obtain ⟨hpre, hts⟩ := pre_of hg
   have hy := hY _ _ ρ2 L2 hpre (Hp.le_trans hl0 hle2) hj2
   rw [e1]
   repeat' (first | (refine Ze (.tmp 27) ?_; refine qY rfl rfl (hy) ?_; rintro v ρ' L' hle ⟨Lj', rfl, ⟨rfl, hj'⟩ | ⟨rfl, hj'⟩⟩ <;> (try simp only [kM, kN, kO])) | (refine Zz ?_; refine Zk (Zc rfl) rfl rfl ?_) | (refine Zh ?_; first | (refine Zf ?_; refine qQ ?_) | refine Zm ?_) | refine Zb ?_ | (refine Zi ?_; refine Zr ?_) | (refine Zj ?_; refine Zs ?_) | intro _)
   ·repeat' (first | (refine Zz ?_; refine Zk (Zc rfl) rfl rfl ?_) | (refine Zh ?_; first | (refine Zf ?_; refine qQ ?_) | refine Zm ?_) | refine Zb ?_ | (refine Zi ?_; refine Zr ?_) | (refine Zj ?_; refine Zs ?_) | intro _)
    rw [← e1]
    refine Zp (j + 1, ρ', Lj') (⟨hlt2, Hp.le_trans hle2 hle, by dsimp only; rw [← Nat.add_assoc, hts]; exact hj'⟩) Zl Zl rfl tk inferInstance (by first | omega | (dsimp only; omega))
   ·repeat' (first | (refine Zz ?_; refine Zk (Zc rfl) rfl rfl ?_) | (refine Zh ?_; first | (refine Zf ?_; refine qQ ?_) | refine Zm ?_) | refine Zb ?_ | (refine Zi ?_; refine Zr ?_) | (refine Zj ?_; refine Zs ?_) | intro _)
    exact qE (L' := recC xb v r :: Lj') ⟨Lj', rfl, .inr hj'⟩
  ·have hk2 : v.t.n + j = (Xf r).length := by unfold Xf; simp; omega
   rw [hk2, List.take_length] at hj2
   repeat' (first | (refine Zz ?_; refine Zk (Zc rfl) rfl rfl ?_) | (refine Zh ?_; first | (refine Zf ?_; refine qQ ?_) | refine Zm ?_) | refine Zb ?_ | (refine Zi ?_; refine Zr ?_) | (refine Zj ?_; refine Zs ?_) | intro _)
   exact qE (L' := recC xb v r :: L2) ⟨L2, rfl, .inl hj2⟩
theorem needed_spec (ρ : Hp) (v : RV) (r : Rc) : Spec Tryz.prog 76 [.agg ⟨YR v r⟩] ρ [] (fun z ρ' L' => ρ' = ρ ∧ ∃ xb, z = .func (.func 133) ⟨[]⟩ ⟨[.pointer (some ⟨xb, 0, none⟩)]⟩ ∧ L' = [recC xb v r]) := by
 refine Zg Tryz.func76 rfl rfl rfl fun u R => ?_
 simp only [Zx, List.cons_append, List.nil_append]
 repeat' (first | (refine Zz ?_; refine Zk (Zc rfl) rfl rfl ?_) | (refine Zh ?_; first | (refine Zf ?_; refine qQ ?_) | refine Zm ?_) | refine Zb ?_ | (refine Zi ?_; refine Zr ?_) | (refine Zj ?_; refine Zs ?_) | intro _)
 rename_i xb
 exact qE (L' := [recC xb v r]) ⟨rfl, xb, rfl, rfl⟩
def cutN (r : Rc) : Nat := if isE r = 0 then leastN r.lsn (Xf r) else 0
theorem cut_spec (ρ : Hp) (v : RV) (r : Rc) (h : RcIn ρ v r) : Spec Tryz.prog 38 [.agg ⟨YR v r⟩] ρ [] (fun z ρ' L' => ρ.le ρ' ∧ z = .tuple ⟨[.int .u64 (cutN r), .int .i64 (isE r)]⟩ ∧ L' = []) := by
 have his := is_spec ρ v r h
 have lt := h.t.at'.len
 have ld := h.d.at'.len
 have bt := h.t.big
 have bd := h.d.big
 have hnl : (Xf r).length = r.txns.length + r.dirty.length := by unfold Xf; simp
 unfold cutN
 refine Zg Tryz.func38 rfl rfl rfl fun u R => ?_
 simp only [Zx, List.cons_append, List.nil_append]
 by_cases h0 : isE r = 0
 ·rw [if_pos h0, h0]
  rw [h0] at his
  repeat' (first | (refine Ze (.func 75) ?_; refine qC rfl rfl (his) ?_; rintro v ρ' L' hle ⟨rfl, rfl, rfl⟩ <;> (try simp only [kM, kN, kO])) | (refine Ze (.func 76) ?_; refine qC rfl rfl (needed_spec _ v r) ?_; rintro v ρ' L' hle ⟨rfl, xb, rfl, rfl⟩ <;> (try simp only [kM, kN, kO])) | (refine Zz ?_; refine Zk (Zc rfl) rfl rfl ?_) | (refine Zh ?_; first | (refine Zf ?_; refine qQ ?_) | refine Zm ?_) | refine Zb ?_ | (refine Zi ?_; refine Zr ?_) | (refine Zj ?_; refine Zs ?_) | intro _)
  rename_i rb sb x1
  have hI := needed1_iter ρ' xb v r h
  refine tc_rangeFunc (S := [recC xb v r]) (L0 := [[(sb, .cells ⟨[.slice none 0 0]⟩ 43 (0, 0))], ZN (.slice none 0 0) [] [] 28]) (R := recC rb v r :: R) (R0 := [(sb, .cells ⟨[.slice none 0 0]⟩ 43 (0, 0))] :: recC rb v r :: R) rfl rfl hI (Hp.le_refl _) (fun _ => rfl) rfl
   (fun pre ρ2 Lu => ρ'.le ρ2 ∧ ∃ v sp, OwnS v pre.length (pre.map Yw) sp 1 ∧ Lu = [[(sb, .cells ⟨[v]⟩ 43 (0, 0))], ZN v (pre.map Yw) sp 28]) (fun _ _ _ => False) ?k1 ?k2 ⟨Hp.le_refl _, _, [], OwnS.nil 1, rfl⟩ ?round ?done ?stop
  case k1 => exact tk
  case k2 => exact take_cons' Yj (take_cons' rem_nil' take_nil')
  case stop => rintro D0 c ρ' Lu _ hf; exact hf.elim
  case round =>
   rintro l tm r' pre y ρ2 Lu u R' hpre hle' ⟨hle2, v', sp, hown, rfl⟩ hr hrec
   simp only [envP, List.cons_append, List.nil_append]
   have hlen := hpre.length_le
   simp only [List.length_append, List.length_singleton] at hlen
   repeat' (first | (refine Zz ?_; refine Zk (Zc rfl) rfl rfl ?_) | (refine Zh ?_; first | (refine Zf ?_; refine qQ ?_) | refine Zm ?_) | refine Zb ?_ | (refine Zi ?_; refine Zr ?_) | (refine Zj ?_; refine Zs ?_) | intro _)
   refine te_begin rfl hr (fun r' hb hrec' => ?_)
   repeat' (first | (refine ZF rfl rfl rfl rfl (by simp) rfl rfl (fun _ => ?_)) | (refine tl_append (ys := [Yw y]) rfl rfl hown (Src.find (n := 1) rfl) rfl rfl (by decide) rfl (by omega) (by omega) rfl (fun v' sp' hown' => ?_); obtain ⟨a', cap', rfl, hvl⟩ := hown'.len) | (refine Zz ?_; refine Zk (Zc rfl) rfl rfl ?_) | (refine Zh ?_; first | (refine Zf ?_; refine qQ ?_) | refine Zm ?_) | refine Zb ?_ | (refine Zi ?_; refine Zr ?_) | (refine Zj ?_; refine Zs ?_) | intro _)
   refine te_front [(l, .loop r')] ?_
   have hm : pre.map Yw ++ [Yw y] = (pre ++ [y]).map Yw := by simp
   rw [hm] at hown' ⊢
   refine te_next (Lu := [[(sb, .cells ⟨[.slice a' (pre.length + 1) cap']⟩ 43 (0, 0))], ZN (.slice a' (pre.length + 1) cap') ((pre ++ [y]).map Yw) sp' 28]) rfl (Hp.le_refl _) ⟨hrec'.tmps.trans hrec.tmps, hrec'.params.trans hrec.params, hrec'.assign.trans hrec.assign, hrec'.body.trans hrec.body⟩ tk tk inferInstance ?_
   exact ⟨hle2, .slice a' (pre.length + 1) cap', sp', by simpa using hown', rfl⟩
  case done =>
   rintro D0 ρ2 Lu hle' ⟨hle2, v', sp, hown, rfl⟩
   simp only [List.cons_append, List.nil_append]
   obtain ⟨a', cap', rfl, hvl⟩ := hown.slice
   refine XX (ZN (.slice a' (Xf r).length cap') ((Xf r).map Yw) sp 28) (fun ρ3 hle3 hfz => ?_)
   obtain ⟨sa, sc, f1, hsc, hS⟩ := hown.sIn hfz
   cases f1
   repeat' (first | (refine Ze (.func 77) ?_; refine qC rfl rfl (least_spec _ r.lsn _ _ _ (Xf r) hS (by omega)) ?_; rintro v ρ' L' hle ⟨rfl, rfl, rfl⟩ <;> (try simp only [kM, kN, kO])) | (refine Zz ?_; refine Zk (Zc rfl) rfl rfl ?_) | (refine Zh ?_; first | (refine Zf ?_; refine qQ ?_) | refine Zm ?_) | refine Zb ?_ | (refine Zi ?_; refine Zr ?_) | (refine Zj ?_; refine Zs ?_) | intro _)
   exact te_end_d rfl rfl rfl inferInstance (res2 rfl (Yu rfl) (Yu rfl)) (Hp.le_trans hle2 hle3) tk (by infer_instance) ⟨Hp.le_trans hle2 hle3, rfl, rfl⟩
 ·rw [if_neg h0]
  repeat' (first | (refine Ze (.func 75) ?_; refine qC rfl rfl (his) ?_; rintro v ρ' L' hle ⟨rfl, rfl, rfl⟩ <;> (try simp only [kM, kN, kO])) | (refine Zz ?_; refine Zk (Zc rfl) rfl rfl ?_) | (refine Zh ?_; first | (refine Zf ?_; refine qQ ?_) | refine Zm ?_) | refine Zb ?_ | (refine Zi ?_; refine Zr ?_) | (refine Zj ?_; refine Zs ?_) | intro _)
  exact qE ⟨Hp.le_refl _, rfl, rfl⟩
structure CW (ρ : Hp) (v : CV) (c : Cont) : Prop where
 r : AIn ρ 4 rowV v.ra v.rn c.rows
 k : AIn ρ 3 kidV v.ka v.kn c.kids
 rb : v.rn ≤ 140737488355328
 kb : v.kn ≤ 140737488355328
 rc : v.rn ≤ v.rc
 kc : v.kn ≤ v.kc
 row : ∀ r ∈ c.rows, RowFit r
 kid : ∀ k ∈ c.kids, k.id < 65536
structure AW (ρ : Hp) (sz : Nat) {α : Type} (g : α → List Value) (s : SV) (l : List α) : Prop where
 at' : AIn ρ sz g s.a s.n l
 big : s.n ≤ 140737488355328
 cap : s.n ≤ s.c
structure RcW (ρ : Hp) (v : RV) (r : Rc) : Prop where
 i : AW ρ 7 imV v.i r.ims
 im : ∀ x ∈ r.ims, CW ρ x.bv x.b ∧ CW ρ x.av x.a
 s : AW ρ 6 stpV v.s r.steps
 t : AW ρ 5 ckTV v.t r.txns
 d : AW ρ 2 YM v.d r.dirty
 sf : ∀ s ∈ r.steps, RowFit s.row
theorem CW.mono {ρ ρ' v c} (h : CW ρ v c) (hle : ρ.le ρ') : CW ρ' v c := ⟨h.r.mono hle, h.k.mono hle, h.rb, h.kb, h.rc, h.kc, h.row, h.kid⟩
theorem AW.mono {ρ ρ' : Hp} {sz : Nat} {α : Type} {g : α → List Value} {s : SV} {l : List α} (h : AW ρ sz g s l) (hle : ρ.le ρ') : AW ρ' sz g s l := ⟨h.at'.mono hle, h.big, h.cap⟩
theorem RcW.mono {ρ ρ' v r} (h : RcW ρ v r) (hle : ρ.le ρ') : RcW ρ' v r := ⟨h.i.mono hle, fun x hx => ⟨(h.im x hx).1.mono hle, (h.im x hx).2.mono hle⟩, h.s.mono hle, h.t.mono hle, h.d.mono hle, h.sf⟩
def imN (x : Im) : Nat := x.b.rows.length + x.b.kids.length + x.a.rows.length + x.a.kids.length
def overB (r : Rc) : Bool := decide (17 < r.ims.length ∨ 3 < r.steps.length ∨ 9 < r.txns.length ∨ 65 < r.dirty.length) || r.ims.any (fun x => decide (30 < imN x))
theorem RcW.in' {ρ v r} (h : RcW ρ v r) (ho : overB r = false) : RcIn ρ v r ∧ v.i.n ≤ 17 ∧ v.d.n ≤ 65 := by
 unfold overB at ho
 rw [Bool.or_eq_false_iff, decide_eq_false_iff_not, List.any_eq_false] at ho
 obtain ⟨h1, h2⟩ := ho
 have li := h.i.at'.len
 have ls := h.s.at'.len
 have lt := h.t.at'.len
 have ld := h.d.at'.len
 refine ⟨⟨⟨h.i.at', by omega, h.i.cap⟩, fun x hx => ?_, ⟨h.s.at', by omega, h.s.cap⟩, ⟨h.t.at', by omega, h.t.cap⟩, ⟨h.d.at', by omega, h.d.cap⟩, h.sf⟩, by omega, by omega⟩
 have h3 := h2 x hx
 simp only [decide_eq_true_eq] at h3
 unfold imN at h3
 obtain ⟨hb, ha⟩ := h.im x hx
 have e1 := hb.r.len
 have e2 := hb.k.len
 have e3 := ha.r.len
 have e4 := ha.k.len
 exact ⟨⟨⟨hb.r, hb.k, by omega, by omega, hb.rc, hb.kc⟩, hb.row, hb.kid⟩, ⟨⟨ha.r, ha.k, by omega, by omega, ha.rc, ha.kc⟩, ha.row, ha.kid⟩⟩
end Go.Proofs.E
