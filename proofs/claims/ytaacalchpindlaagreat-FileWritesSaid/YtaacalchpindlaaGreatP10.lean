/- The law FileWrites. Part 10 of 17. -/
import Derived.Test.YtaacalchpindlaaGreatP9
namespace Go.Proofs.E
open Go
set_option linter.unusedVariables false
set_option linter.unusedSimpArgs false
set_option linter.unusedSectionVars false
set_option maxRecDepth 4000
set_option maxHeartbeats 1000000
attribute [local irreducible] Yl TL TC TE Spec XM R1 Hp.le EnvLe TS TR YS Zo
theorem XW {k : Nat} {x rest : List UInt8} (h : x.length = k) : Yg k (x ++ rest) 0 = (ZP x, rest, 0) := by
 unfold Yg
 rw [if_neg (by simp), if_neg (by simp; omega), List.take_left' h, List.drop_left' h]
theorem unbe_one (b : UInt8) : ZP [b] = b.toNat := by simp [ZP]
theorem tB_toNat {t : Int} (h0 : 0 ≤ t) (h1 : t < 256) : ((tB t).toNat : Int) = t := by
 obtain ⟨n, rfl⟩ : ∃ n : Nat, t = n := ⟨t.toNat, by omega⟩
 simp only [tB, Int.toNat_natCast, UInt8.toNat_ofNat']
 have e : (2 : Nat) ^ 8 = 256 := by decide
 rw [e]; omega
theorem rowR_back {r : Row} (hr : YI r = true) (hf : XC r) (rest : List UInt8) : XY (ZL r ++ rest) 0 false = (r, rest, 0, false) := by
 obtain ⟨h0, h3, h8⟩ := rowOk_iff hr
 obtain ⟨hid, hval⟩ := hf
 obtain ⟨t, id, val, note⟩ := r
 dsimp only at h0 h3 h8 hid hval
 have e0 : ZL ⟨t, id, val, note⟩ ++ rest = [tB t] ++ (be 2 id ++ (be 8 (vN val) ++ ([UInt8.ofNat note.length] ++ (note ++ rest)))) := by simp [ZL, Xf]
 have e1 : Yg 1 (ZL ⟨t, id, val, note⟩ ++ rest) 0 = ((tB t).toNat, be 2 id ++ (be 8 (vN val) ++ ([UInt8.ofNat note.length] ++ (note ++ rest))), 0) := by rw [e0, XW (k := 1) (x := [tB t]) rfl, unbe_one]
 have e2 := XW (k := 2) (x := be 2 id) (rest := be 8 (vN val) ++ ([UInt8.ofNat note.length] ++ (note ++ rest))) (ZJ _ _)
 have e3 := XW (k := 8) (x := be 8 (vN val)) (rest := [UInt8.ofNat note.length] ++ (note ++ rest)) (ZJ _ _)
 have e4 := XW (k := 1) (x := [UInt8.ofNat note.length]) (rest := note ++ rest) rfl
 rw [XP, Nat.mod_eq_of_lt (by omega)] at e2
 rw [XP, Nat.mod_eq_of_lt (by have := vN_lt val; omega)] at e3
 have hlen : (UInt8.ofNat note.length).toNat = note.length := by
  rw [UInt8.toNat_ofNat']
  have e : (2 : Nat) ^ 8 = 256 := by decide
  rw [e]; omega
 rw [unbe_one, hlen] at e4
 have e5 : rawR note.length (note ++ rest) 0 = (note, rest, 0) := by
  unfold rawR
  rw [if_neg (by simp), if_neg (by simp), List.take_left' rfl, List.drop_left' rfl]
 have ht := tB_toNat h0 (by omega : t < 256)
 unfold XY
 simp only [e1, e2, e3, e4, e5]
 have hb1 : Xi false 0 (decide (((tB t).toNat : Int) < 3)) = false := by rw [ht, decide_eq_true h3]; rfl
 have hb2 : Xi false 0 (decide ((note.length : Int) ≤ 8)) = false := by rw [decide_eq_true (by omega)]; rfl
 simp only [hb1, hb2, Bool.not_false, decide_true, Bool.and_self, if_true]
 rw [ht, i64N_vN hval]
theorem kidRB_back {k : Kid} (hid : k.id < 65536) (ht : 0 ≤ k.t ∧ k.t < 3) (hp : 0 < k.page ∧ k.page < 64) (rest : List UInt8) : Xv (Yj k ++ rest) 0 false = (k, rest, 0, false) := by
 obtain ⟨t, id, page⟩ := k
 dsimp only at hid ht hp
 have e0 : Yj ⟨t, id, page⟩ ++ rest = [tB t] ++ (be 2 id ++ ([tB page] ++ rest)) := by simp [Yj, Xf]
 have e1 : Yg 1 (Yj ⟨t, id, page⟩ ++ rest) 0 = ((tB t).toNat, be 2 id ++ ([tB page] ++ rest), 0) := by rw [e0, XW (k := 1) (x := [tB t]) rfl, unbe_one]
 have e2 := XW (k := 2) (x := be 2 id) (rest := [tB page] ++ rest) (ZJ _ _)
 have e3 := XW (k := 1) (x := [tB page]) (rest := rest) rfl
 rw [XP, Nat.mod_eq_of_lt (by omega)] at e2
 rw [unbe_one] at e3
 unfold Xv kidR
 simp only [e1, e2, e3, tB_toNat ht.1 (by omega : t < 256), tB_toNat (by omega : 0 ≤ page) (by omega : page < 256)]
theorem manyTo_back {α : Type} {f : List UInt8 → Int → Bool → α × RS3} {enc : α → List UInt8} : ∀ (xs : List α), (∀ x ∈ xs, ∀ rest, f (enc x ++ rest) 0 false = (x, rest, 0, false)) → ∀ rest, Xo f xs.length (xs.flatMap enc ++ rest) 0 false = (xs, rest, 0, false)
 | [], _, rest => rfl
 | x :: xs, h, rest => by
  rw [List.length_cons, Xo, if_pos (by decide), List.flatMap_cons, List.append_assoc, h x (by simp)]
  dsimp only
  rw [manyTo_back xs (fun y hy => h y (by simp [hy]))]
theorem manyR_back {α : Type} {f : List UInt8 → Int → Bool → α × RS3} {enc : α → List UInt8} {xs : List α} (hl : xs.length ≤ 4) (h : ∀ x ∈ xs, ∀ rest, f (enc x ++ rest) 0 false = (x, rest, 0, false)) (rest : List UInt8) :
  YT f (UInt8.ofNat xs.length :: (xs.flatMap enc ++ rest)) 0 false = (xs, rest, 0, false) := by
 have hlen : (UInt8.ofNat xs.length).toNat = xs.length := by
  rw [UInt8.toNat_ofNat']
  have e : (2 : Nat) ^ 8 = 256 := by decide
  rw [e]; omega
 have e1 : Yg 1 (UInt8.ofNat xs.length :: (xs.flatMap enc ++ rest)) 0 = (xs.length, xs.flatMap enc ++ rest, 0) := by
  have := XW (k := 1) (x := [UInt8.ofNat xs.length]) (rest := xs.flatMap enc ++ rest) rfl
  rw [unbe_one, hlen] at this
  exact this
 unfold YT
 simp only [e1]
 have hb : Xi false 0 (decide ((xs.length : Int) ≤ 4)) = false := by rw [decide_eq_true (by omega)]; rfl
 rw [hb]
 exact manyTo_back xs h rest
structure IdFit (c : Yr) : Prop where
 row : ∀ r ∈ c.rows, XC r
 kid : ∀ k ∈ c.kids, k.id < 65536
theorem contB_form {c : Yr} (h : ZN c = true) : (c.kind = 0 ∧ c = ⟨0, [], []⟩ ∧ Yk c = [0]) ∨ (c.kind = 1 ∧ c.kids = [] ∧ Yk c = 1 :: (UInt8.ofNat c.rows.length :: c.rows.flatMap ZL)) ∨ (c.kind = 2 ∧ c.rows = [] ∧ Yk c = 2 :: (UInt8.ofNat c.kids.length :: c.kids.flatMap Yj)) := by
 have hF := (XE h).kind
 obtain ⟨kind, rows, kids⟩ := c
 dsimp only at hF ⊢
 rcases hF with ⟨rfl, rfl, rfl⟩ | ⟨rfl, rfl⟩ | ⟨rfl, rfl, _⟩
 ·exact .inl ⟨rfl, rfl, by simp [Yk, cntB]; rfl⟩
 ·exact .inr (.inl ⟨rfl, rfl, by simp [Yk, cntB]; rfl⟩)
 ·exact .inr (.inr ⟨rfl, rfl, by simp [Yk, cntB]; rfl⟩)
theorem contentR_back {c : Yr} (h : ZN c = true) (hf : IdFit c) (rest : List UInt8) : YC (Yk c ++ rest) = (c, rest, 0, false) := by
 have hF := XE h
 have hrb : ∀ r ∈ c.rows, ∀ rest, XY (ZL r ++ rest) 0 false = (r, rest, 0, false) := fun r hr rest => rowR_back (hF.row r hr) (hf.row r hr) rest
 have hkb : ∀ k ∈ c.kids, ∀ rest, Xv (Yj k ++ rest) 0 false = (k, rest, 0, false) := fun k hk rest => kidRB_back (hf.kid k hk) (hF.kid k hk).1 (hF.kid k hk).2 rest
 have hrl := hF.rl
 have hkl := hF.kl
 rcases contB_form h with ⟨hk, rfl, e⟩ | ⟨hk, hks, e⟩ | ⟨hk, hrs, e⟩
 ·rw [e]
  have e1 : Yg 1 ([0] ++ rest) 0 = (0, rest, 0) := by rw [XW (k := 1) (x := [0]) rfl]; rfl
  unfold YC contE
  simp only [e1]
  rfl
 ·obtain ⟨kind, rows, kids⟩ := c
  dsimp only at hk hks
  subst hk; subst hks
  rw [e]
  have e1 : Yg 1 (1 :: (UInt8.ofNat rows.length :: rows.flatMap ZL) ++ rest) 0 = (1, UInt8.ofNat rows.length :: (rows.flatMap ZL ++ rest), 0) := by
   have := XW (k := 1) (x := [1]) (rest := UInt8.ofNat rows.length :: (rows.flatMap ZL ++ rest)) rfl
   exact this
  have hb : Xi false 0 (decide (((1 : Nat) : Int) ≤ 2)) = false := rfl
  unfold YC contE
  simp only [e1, hb, WI, manyR_back hrl hrb rest, Bool.not_false, decide_true, Bool.and_self, if_true]
  have hn : Xi false 0 (ZN ⟨((1 : Nat) : Int), rows, []⟩) = false := by rw [show ZN ⟨((1 : Nat) : Int), rows, []⟩ = true from h]; rfl
  rw [hn]; rfl
 ·obtain ⟨kind, rows, kids⟩ := c
  dsimp only at hk hrs
  subst hk; subst hrs
  rw [e]
  have e1 : Yg 1 (2 :: (UInt8.ofNat kids.length :: kids.flatMap Yj) ++ rest) 0 = (2, UInt8.ofNat kids.length :: (kids.flatMap Yj ++ rest), 0) := by
   have := XW (k := 1) (x := [2]) (rest := UInt8.ofNat kids.length :: (kids.flatMap Yj ++ rest)) rfl
   exact this
  have hb : Xi false 0 (decide (((2 : Nat) : Int) ≤ 2)) = false := rfl
  unfold YC contE
  simp only [e1, hb, WI, manyR_back hkl hkb rest, Bool.not_false, decide_true, Bool.and_self, if_true, show ¬ ((2 : Nat) = 1) by decide, if_false]
  have hn : Xi false 0 (ZN ⟨((2 : Nat) : Int), [], kids⟩) = false := by rw [show ZN ⟨((2 : Nat) : Int), [], kids⟩ = true from h]; rfl
  rw [hn]; rfl
theorem takeCont_back {c : Yr} (h : ZN c = true) (hf : IdFit c) (rest : List UInt8) : Zz (Yk c ++ rest) = (c, (((Yk c).length : Nat) : Int), 0) := by
 unfold Zz
 simp only [contentR_back h hf rest]
 simp [takenN, Wk]
theorem takeRow_back {r : Row} (h : YI r = true) (hf : XC r) (rest : List UInt8) : Wa (ZL r ++ rest) = (r, (((ZL r).length : Nat) : Int), 0) := by
 unfold Wa
 simp only [rowR_back h hf rest]
 simp [takenN, Wk]
theorem isP_empty {s : YO} (h : YX s) (j : Nat) : isP s j = false := by
 unfold isP
 cases hs : s[j]? with
 | none => rfl
 | some p =>
  have := h p (List.mem_of_getElem? hs)
  simp [this]
theorem DS.Calm.read_eq {D : DS} {i : Nat} (h : D.Calm) (hi : i < D.secs.length) : D.read i = (⟨D.secs, IntKind.i64.wrap (D.ops + 1), -1, -1, false⟩, says1 D.secs[i], 0) := by
 obtain ⟨s, o, a, f, d⟩ := D
 obtain ⟨h1, h2, h3⟩ := h
 simp only at h1 h2 h3
 subst h1; subst h2; subst h3
 simp only at hi
 have hn : ¬ ((i : Int) < 0 ∨ (s.length : Int) ≤ i) := by omega
 have hc : cnt (-1) = -1 := by decide
 unfold DS.read
 simp only [hn, if_false, Bool.false_eq_true, DS.tick, hc, show ¬ ((-1 : Int) = 0) by decide, Int.toNat_natCast, List.getElem?_eq_getElem hi, Option.getD_some]
theorem DS.Calm.write_eq {D : DS} {i : Nat} {b : Blk} (h : D.Calm) (hi : i < D.secs.length) : D.write i b = (⟨putC D.secs i b, IntKind.i64.wrap (D.ops + 1), -1, -1, false⟩, 0) := by
 obtain ⟨s, o, a, f, d⟩ := D
 obtain ⟨h1, h2, h3⟩ := h
 simp only at h1 h2 h3
 subst h1; subst h2; subst h3
 simp only at hi
 have hn : ¬ ((i : Int) < 0 ∨ (s.length : Int) ≤ i) := by omega
 have hc : cnt (-1) = -1 := by decide
 unfold DS.write
 simp only [hn, if_false, Bool.false_eq_true, DS.tick, hc, show ¬ ((-1 : Int) = 0) by decide, Int.toNat_natCast]
theorem DS.Calm.mk' {s o} : (⟨s, o, -1, -1, false⟩ : DS).Calm := ⟨rfl, rfl, rfl⟩
theorem DS.Ok.mk' {s o} (h : SecsOk s) : (⟨s, o, -1, -1, false⟩ : DS).Ok := ⟨h, by simp, by simp, by simp, by simp⟩
theorem settled_at {keep : Nat → Bool} {s : YO} {i : Nat} (hi : i < s.length) (h' : i < (settled keep s).length) :
  (settled keep s)[i] = (if isP s i && keep (YB s i).length then (s[i].2.getD s[i].1, none) else (s[i].1, none)) := by
 have hlt : isP s i = true → (YB s i).length < (pend s).length := fun hp => by
  have := (pendTo_pre (s := s) (k := i + 1) (m := s.length) (by omega)).length_le
  rw [pendTo_succ_t hp] at this
  simp only [List.length_append, List.length_singleton] at this
  unfold pend; omega
 simp only [settled, setAfter, List.getElem_map, List.getElem_mapIdx]
 cases hp : isP s i with
 | false => simp
 | true =>
  have := hlt hp
  simp only [this, decide_true, Bool.true_and]
  cases keep (YB s i).length <;> simp
theorem settled_empty {f : Nat → Bool} {s : YO} (h : YX s) : settled f s = s := by
 apply List.ext_getElem (by rw [Yn])
 intro i h1 h2
 rw [settled_at h2, isP_empty h]
 have := h s[i] (List.getElem_mem h2)
 simp only [Bool.false_and, Bool.false_eq_true, if_false]
 cases hs : s[i] with
 | mk x y => rw [hs] at this; simp only at this; rw [this]
theorem pend_empty {s : YO} (h : YX s) : pend s = [] := by
 unfold pend YB
 rw [List.filter_eq_nil_iff]
 intro a _
 rw [isP_empty h]; simp
abbrev Bs := List UInt8
def pad (l : Bs) : Blk := (l ++ z8 64).take 64
theorem pad_len (l : Bs) : (pad l).length = 64 := by simp [pad, z8]
theorem pad_of {l : Bs} (h : l.length ≤ 64) : pad l = l ++ z8 (64 - l.length) := by
 unfold pad z8
 rw [List.take_append, List.take_of_length_le h, List.take_replicate, Nat.min_eq_left (by omega)]
structure Hd where
 turn : Nat
 first : Nat
 size : Nat
 place : Nat
 note : Bs
deriving DecidableEq
def YG (n : Nat) : Nat := max 1 ((n + 51) / 52)
theorem sects_pos (n : Nat) : 1 ≤ YG n := by unfold YG; omega
def letB : Bs := [98, 117, 114, 115, 114, 105, 110, 103]
def Xz (turn n : Nat) (b : Bs) (k : Nat) : Blk := pad (be 4 turn ++ (be 5 n ++ (be 2 b.length ++ (UInt8.ofNat k :: (b.drop (52 * k)).take 52))))
def headB (h : Hd) : Blk := pad (letB ++ (be 4 h.turn ++ (be 2 h.size ++ (be 5 h.first ++ (be 2 h.place ++ (UInt8.ofNat h.note.length :: h.note))))))
theorem partB_len (t n : Nat) (b : Bs) (k : Nat) : (Xz t n b k).length = 64 := pad_len _
theorem headB_len (h : Hd) : (headB h).length = 64 := pad_len _
def headOf (s : Blk) : Hd := ⟨ZP ((s.drop 8).take 4), ZP ((s.drop 14).take 5), ZP ((s.drop 12).take 2), ZP ((s.drop 19).take 2), (s.drop 22).take (s.getD 21 0).toNat⟩
def zHd : Hd := ⟨0, 0, 0, 0, []⟩
def Hd.Right (h : Hd) (n : Nat) : Prop := 1 ≤ h.turn ∧ h.turn ≤ 1073741824 ∧ 4 ≤ h.size ∧ h.size ≤ 1000 ∧ 1 ≤ h.first ∧ h.first ≤ 1099511627776 ∧ h.place < h.size ∧ n ≤ 32
instance (h : Hd) (n : Nat) : Decidable (h.Right n) := by unfold Hd.Right; infer_instance
def readB (s : Blk) : Hd × Bool := if (headOf s).Right (s.getD 21 0).toNat then (headOf s, decide (headB (headOf s) = s)) else (zHd, false)
def countsB (a b : Blk) : Hd × Bool := if (readB a).2 && (!(readB b).2 || decide ((readB b).1.turn ≤ (readB a).1.turn)) then ((readB a).1, true) else readB b
def DS.lays : List (Nat × Blk) → DS → DS × Int
 | [], D => D.sync
 | p :: r, D => if (D.write (p.1 : Int) p.2).2 = 0 then DS.lays r (D.write (p.1 : Int) p.2).1 else D.write (p.1 : Int) p.2
def partsL (h : Hd) (n : Nat) (b : Bs) (at' : Nat) : List (Nat × Blk) := (List.range (YG b.length)).map fun k => (2 + (at' + k) % h.size, Xz h.turn n b k)
theorem DS.Ok.lays : ∀ {l : List (Nat × Blk)} {D : DS}, D.Ok → (∀ p ∈ l, p.2.length = 64) → (DS.lays l D).1.Ok
 | [], D, h, _ => h.sync
 | p :: r, D, h, hl => by
  have h1 := hl p (by simp)
  unfold DS.lays
  split
  ·exact DS.Ok.lays (h.write h1) (fun q hq => hl q (by simp [hq]))
  ·exact h.write h1
theorem write_length (D : DS) (i : Int) (b : Blk) : (D.write i b).1.secs.length = D.secs.length := by
 unfold DS.write
 split
 ·rfl
 ·split
  ·rfl
  ·split
   ·simp [YZ]
   ·split
    ·rfl
    ·simp [YZ]
theorem sync_length (D : DS) : D.sync.1.secs.length = D.secs.length := by
 unfold DS.sync
 split
 ·rfl
 ·split
  ·rfl
  ·split
   ·rfl
   ·simp [Yn]
theorem XT : ∀ (l : List (Nat × Blk)) (D : DS), (DS.lays l D).1.secs.length = D.secs.length
 | [], D => sync_length D
 | p :: r, D => by
  unfold DS.lays
  split
  ·rw [XT, write_length]
  ·exact write_length _ _ _
structure Rd (ρ : Hp) (X : SH) (a : Option Addr) (n : Nat) (l : Bs) : Prop where
 len : l.length = n
 src : ∀ (x : Cx) (ρ' : Hp) (L R : SH), ρ.le ρ' → Xa L X R → SrcV x ρ' L a (l.map Zs)
theorem Rd.mono {ρ ρ' : Hp} {X : SH} {a : Option Addr} {n : Nat} {l : Bs} (h : Rd ρ X a n l) (hle : ρ.le ρ') : Rd ρ' X a n l := ⟨h.len, fun x ρ2 L R h2 hT => h.src x ρ2 L R (Hp.le_trans hle h2) hT⟩
theorem SIn.rd {ρ : Hp} {a : Option Addr} {n : Nat} {l : Bs} (h : SIn ρ Zs a n l) : Rd ρ [] a n l := ⟨h.len, fun x ρ' L R hle _ => (h.mono hle).srcV⟩
theorem OwnS.rd {ρ : Hp} {a : Option Addr} {n c : Nat} {l : Bs} {sp : List Value} {T : TypeId} (h : OwnS (.slice a n c) n (l.map Zs) sp 1) : Rd ρ [Ye (.slice a n c) (l.map Zs) sp T] a n l := by
 refine ⟨?_, fun x ρ' L R hle hT => ?_⟩
 ·obtain ⟨_, _, _, h2⟩ := h.len
  simpa using h2
 ·rcases h.out with ⟨e1, h1, h2, h3⟩ | ⟨b, c', e1, h2, h3, h4⟩
  ·exact .inl h2
  ·cases e1
   refine .inr ⟨b, 0, rfl, fun w hw j c hj => ?_⟩
   have hw' := hw.perm hT.out
   have hb : w.heap[b]? = some (.cells ⟨l.map Zs ++ sp⟩ T (0, 0)) := hw'.here (b, .cells ⟨l.map Zs ++ sp⟩ T (0, 0)) (by simp [Ye])
   simp only [World.cell?, hb, Option.isSome_none, Bool.false_eq_true, if_false, Nat.zero_add]
   simp only [List.getElem?_toArray]
   rw [List.getElem?_append_left (List.getElem?_eq_some_iff.1 hj).1]; exact hj
theorem SrcV.sub {x : Cx} {ρ : Hp} {L : SH} {a : Option Addr} {ys : List Value} (h : SrcV x ρ L a ys) {lo' k cap : Nat} (hk : lo' + k ≤ ys.length) (hc : ys.length ≤ cap) : SrcV x ρ L (if cap = lo' then a else a.map (·.add (lo' * 1))) ((ys.drop lo').take k) := by
 rcases h with rfl | ⟨b, off, rfl, hs⟩
 ·left; simp
 ·by_cases h0 : k = 0
  ·left; simp [h0]
  ·right
   rw [if_neg (by omega)]
   refine ⟨b, off + lo', by simp [Xm], fun w hw j c hj => ?_⟩
   have hlt : j < k := by
    have := (List.getElem?_eq_some_iff.1 hj).1
    simp at this; omega
   rw [List.getElem?_take_of_lt hlt, List.getElem?_drop] at hj
   have := hs w hw (lo' + j) c hj
   rw [Nat.add_assoc]; exact this
structure DK where
 hb : HB
 mb : Nat
 es : List MapEntry
 ck : Nat
abbrev ZF (b : Nat) (k : DK) (D : DS) : SH := Xy b k.hb k.mb k.es k.ck D
structure DOk (k : DK) (D : DS) : Prop where
 ok : D.Ok
 map : MapOk D.secs k.es
structure RgS where
 h : Hd
 ents : List Bs
 used : Nat
 broken : Bool
def Wi (l : List Bs) : Nat := (l.map fun b => YG b.length).sum
theorem usedL_cons (b : Bs) (l : List Bs) : Wi (b :: l) = YG b.length + Wi l := by simp [Wi]
theorem usedL_len (l : List Bs) : l.length ≤ Wi l := by
 induction l with
 | nil => simp [Wi]
 | cons b r ih => have := sects_pos b.length; rw [usedL_cons]; simp; omega
def RgS.next (R : RgS) : Nat := R.h.first + R.ents.length
structure RgS.Ok (R : RgS) : Prop where
 turn : 1 ≤ R.h.turn ∧ R.h.turn ≤ 1073741824
 size : 4 ≤ R.h.size ∧ R.h.size ≤ 1000
 first : 1 ≤ R.h.first
 next : R.next ≤ 1099511627776
 place : R.h.place < R.h.size
 note : R.h.note.length ≤ 32
 used : R.used = Wi R.ents
 fit : R.used ≤ R.h.size
 long : ∀ b ∈ R.ents, b.length ≤ 8000
def headL (h : Hd) : List (Nat × Blk) := [(h.turn % 2, headB h)]
def Hd.cut (h : Hd) (n gone : Nat) (note : Bs) : Hd := ⟨h.turn + 1, h.first + n, h.size, (h.place + gone) % h.size, note⟩
def RgS.append (R : RgS) (b : Bs) (D : DS) : RgS × DS × Int :=
 if R.broken then (R, D, 8)
 else if 8000 < b.length then (R, D, 3)
 else if R.h.size - R.used < YG b.length ∨ 1099511627776 ≤ R.next then (R, D, 6)
 else if (DS.lays (partsL R.h R.next b (R.h.place + R.used)) D).2 = 0 then (⟨R.h, R.ents ++ [b], R.used + YG b.length, false⟩, DS.lays (partsL R.h R.next b (R.h.place + R.used)) D)
 else ({ R with broken := true }, DS.lays (partsL R.h R.next b (R.h.place + R.used)) D)
def RgS.cutH (R : RgS) (n : Nat) (note : Bs) : Hd := R.h.cut n (Wi (R.ents.take n)) note
def RgS.cut (R : RgS) (n : Int) (note : Bs) (D : DS) : RgS × DS × Int :=
 if R.broken then (R, D, 8)
 else if n < 0 ∨ (R.ents.length : Int) < n ∨ R.h.turn = 1073741824 then (R, D, 2)
 else if 32 < note.length then (R, D, 3)
 else if (DS.lays (headL (R.cutH n.toNat note)) D).2 = 0 then (⟨R.cutH n.toNat note, R.ents.drop n.toNat, R.used - Wi (R.ents.take n.toNat), false⟩, DS.lays (headL (R.cutH n.toNat note)) D)
 else ({ R with broken := true }, DS.lays (headL (R.cutH n.toNat note)) D)
def fitB (n : Nat) (l : Bs) : Bs := (l ++ z8 n).take n
theorem fitB_len (n : Nat) (l : Bs) : (fitB n l).length = n := by simp [fitB, z8]
def entGo (h : Hd) (n at' turn size : Nat) : Nat → Nat → Bs → DS → Option Bs × DS × Int
 | 0, _, acc, D => (some (fitB size acc), D, 0)
 | j + 1, k, acc, D =>
  if (D.read ((2 + (at' + k) % h.size : Nat) : Int)).2.2 ≠ 0 then (none, (D.read ((2 + (at' + k) % h.size : Nat) : Int)).1, (D.read ((2 + (at' + k) % h.size : Nat) : Int)).2.2)
  else if Xz turn n (fitB size (acc ++ (D.read ((2 + (at' + k) % h.size : Nat) : Int)).2.1.drop 12)) k = (D.read ((2 + (at' + k) % h.size : Nat) : Int)).2.1 then
   entGo h n at' turn size j (k + 1) (acc ++ (D.read ((2 + (at' + k) % h.size : Nat) : Int)).2.1.drop 12) (D.read ((2 + (at' + k) % h.size : Nat) : Int)).1
  else (none, (D.read ((2 + (at' + k) % h.size : Nat) : Int)).1, 0)
def turnOf (s : Blk) : Nat := ZP (s.take 4)
def numOf (s : Blk) : Nat := ZP ((s.drop 4).take 5)
def Xx (s : Blk) : Nat := ZP ((s.drop 9).take 2)
def entGo0 (h : Hd) (n at' left : Nat) (s : Blk) (D : DS) : Option Bs × DS × Int :=
 if turnOf s < 1 ∨ h.turn < turnOf s ∨ 8000 < Xx s ∨ left < YG (Xx s) then (none, D, 0)
 else if Xz (turnOf s) n (fitB (Xx s) (s.drop 12)) 0 = s then entGo h n at' (turnOf s) (Xx s) (YG (Xx s) - 1) 1 (s.drop 12) D
 else (none, D, 0)
def entryR (h : Hd) (n at' left : Nat) (D : DS) : Option Bs × DS × Int :=
 if left = 0 then (none, D, 0)
 else if (D.read ((2 + at' % h.size : Nat) : Int)).2.2 ≠ 0 then (none, (D.read ((2 + at' % h.size : Nat) : Int)).1, (D.read ((2 + at' % h.size : Nat) : Int)).2.2)
 else entGo0 h n at' left (D.read ((2 + at' % h.size : Nat) : Int)).2.1 (D.read ((2 + at' % h.size : Nat) : Int)).1
def RgS.adds (R : RgS) (b : Bs) : RgS := { R with ents := R.ents ++ [b], used := R.used + YG b.length }
def WL : Nat → RgS → DS → RgS × DS × Int
 | 0, R, D => (R, D, 0)
 | f + 1, R, D =>
  if R.next < 1099511627776 then
   match entryR R.h R.next (R.h.place + R.used) (R.h.size - R.used) D with
   | (some b, D', e) => if e = 0 then WL f (R.adds b) D' else (R, D', e)
   | (none, D', e) => (R, D', e)
  else (R, D, 0)
def openH (h : Hd) (D : DS) : Option RgS × DS × Int :=
 if D.secs.length < h.size + 2 then (none, D, 140)
 else if (WL (h.size + 1) ⟨h, [], 0, false⟩ D).2.2 ≠ 0 then (none, (WL (h.size + 1) ⟨h, [], 0, false⟩ D).2)
 else if h.turn = 1073741824 then (none, (WL (h.size + 1) ⟨h, [], 0, false⟩ D).2.1, 140)
 else if (DS.lays (headL { h with turn := h.turn + 1 }) (WL (h.size + 1) ⟨h, [], 0, false⟩ D).2.1).2 = 0 then
  (some { (WL (h.size + 1) ⟨h, [], 0, false⟩ D).1 with h := { h with turn := h.turn + 1 } }, DS.lays (headL { h with turn := h.turn + 1 }) (WL (h.size + 1) ⟨h, [], 0, false⟩ D).2.1)
 else (none, DS.lays (headL { h with turn := h.turn + 1 }) (WL (h.size + 1) ⟨h, [], 0, false⟩ D).2.1)
def openR (D : DS) : Option RgS × DS × Int :=
 if (D.read 0).2.2 ≠ 0 then (none, (D.read 0).1, (D.read 0).2.2)
 else if ((D.read 0).1.read 1).2.2 ≠ 0 then (none, ((D.read 0).1.read 1).1, ((D.read 0).1.read 1).2.2)
 else if (countsB (D.read 0).2.1 ((D.read 0).1.read 1).2.1).2 = false then (none, ((D.read 0).1.read 1).1, 140)
 else openH (countsB (D.read 0).2.1 ((D.read 0).1.read 1).2.1).1 ((D.read 0).1.read 1).1
abbrev pencV (p : Nat × Blk) : List Value := [.int .i64 p.1, bv p.2]
theorem take_succ_pre {α : Type} (l : List α) (k : Nat) (h : k < l.length) : l.take k ++ [l[k]] <+: l := by
 rw [← List.take_succ_eq_append_getElem h]; exact List.take_prefix _ _
theorem kwrite (ρ : Hp) (b : Nat) (k : DK) (D : DS) (i : Int) (blk : Blk) (h64 : blk.length = 64) (h : DOk k D) :
  Spec Tryz.prog 22 [.pointer (some ⟨b, 0, none⟩), .int .i64 i, bv blk] ρ (ZF b k D) (fun v ρ' L' => v = .int .i64 (D.write i blk).2 ∧ ρ' = ρ ∧ ∃ k', DOk k' (D.write i blk).1 ∧ L' = ZF b k' (D.write i blk).1) :=
 (dwrite_spec ρ b k.hb k.mb k.es k.ck D i blk h64 h.ok h.map).mono (fun v ρ' L' _ ⟨h1, h2, es', ck', h3, h4⟩ => ⟨h1, h2, ⟨k.hb, k.mb, es', ck'⟩, ⟨h.ok.write h64, h3⟩, h4⟩)
theorem ksync (ρ : Hp) (b : Nat) (k : DK) (D : DS) (h : DOk k D) :
  Spec Tryz.prog 24 [.pointer (some ⟨b, 0, none⟩)] ρ (ZF b k D) (fun v ρ' L' => v = .int .i64 D.sync.2 ∧ ρ.le ρ' ∧ ∃ k', DOk k' D.sync.1 ∧ L' = ZF b k' D.sync.1) :=
 (dsync_spec ρ b k.hb k.mb k.es k.ck D h.ok h.map).mono (fun v ρ' L' _ ⟨h1, h2, mb', es', ck', h3, h4⟩ => ⟨h1, h2, ⟨k.hb, mb', es', ck'⟩, ⟨h.ok.sync, h3⟩, h4⟩)
theorem kread (ρ : Hp) (b : Nat) (k : DK) (D : DS) (i : Int) (h : DOk k D) :
  Spec Tryz.prog 37 [.pointer (some ⟨b, 0, none⟩), .int .i64 i] ρ (ZF b k D) (fun v ρ' L' => v = .tuple ⟨[bv (D.read i).2.1, .int .i64 (D.read i).2.2]⟩ ∧ ρ' = ρ ∧ DOk k (D.read i).1 ∧ L' = ZF b k (D.read i).1) :=
 (dread_spec ρ b k.hb k.mb k.es k.ck D i h.ok h.map).mono (fun v ρ' L' _ ⟨h1, h2, h4⟩ => ⟨h1, h2, ⟨h.ok.read, h.map.read⟩, h4⟩)
inductive Wr (D : DS) : List (Nat × Blk) → DS → Prop
 | nil : Wr D [] D
 | snoc {l : List (Nat × Blk)} {D1 : DS} {p : Nat × Blk} : Wr D l D1 → (D1.write (p.1 : Int) p.2).2 = 0 → Wr D (l ++ [p]) (D1.write (p.1 : Int) p.2).1
theorem Wr.lays {D D1 : DS} {l : List (Nat × Blk)} (h : Wr D l D1) : ∀ r, DS.lays (l ++ r) D = DS.lays r D1 := by
 induction h with
 | nil => intro r; rfl
 | snoc h1 h2 ih =>
  intro r
  rw [List.append_assoc, ih]
  simp only [List.cons_append, List.nil_append]
  rw [DS.lays, if_pos h2]
theorem Wr.stop {D D1 : DS} {l xs : List (Nat × Blk)} {p : Nat × Blk} (h : Wr D l D1) (hp : l ++ [p] <+: xs) (hc : (D1.write (p.1 : Int) p.2).2 ≠ 0) : DS.lays xs D = D1.write (p.1 : Int) p.2 := by
 obtain ⟨t, rfl⟩ := hp
 rw [List.append_assoc, h.lays]
 simp only [List.cons_append, List.nil_append]
 rw [DS.lays, if_neg hc]
def YM (s : YO) (l : List (Nat × Blk)) : YO := l.foldl (fun s p => putC s p.1 p.2) s
theorem YW (l : List (Nat × Blk)) : ∀ (s : YO), (YM s l).length = s.length := by
 induction l with
 | nil => intro s; rfl
 | cons p r ih => intro s; simp only [YM, List.foldl_cons] at ih ⊢; rw [ih, YZ]
theorem putC_at {s : YO} {j i : Nat} {b : Blk} (hi : i < s.length) (h' : i < (putC s j b).length) : (putC s j b)[i] = if j = i then (s[i].1, some b) else s[i] := by
 simp only [putC, List.getElem_set]
 by_cases e : j = i
 ·subst e; simp [hi]
 ·simp [e]
theorem putAll_at : ∀ (l : List (Nat × Blk)) (s : YO) (i : Nat) (hi : i < s.length) (h' : i < (YM s l).length), (YM s l)[i] = s[i] ∧ (∀ p ∈ l, p.1 ≠ i) ∨ ∃ p ∈ l, p.1 = i ∧ (YM s l)[i] = (s[i].1, some p.2)
 | [], s, i, hi, h' => .inl ⟨rfl, by simp⟩
 | p :: r, s, i, hi, h' => by
  have h1 : i < (putC s p.1 p.2).length := by rw [YZ]; exact hi
  have hat := putC_at hi h1
  rcases putAll_at r (putC s p.1 p.2) i h1 (by rw [YW]; exact h1) with ⟨e1, e2⟩ | ⟨q, hq, e1, e2⟩
  ·by_cases hp : p.1 = i
   ·rw [if_pos hp] at hat
    exact .inr ⟨p, by simp, hp, by rw [← hat, ← e1]; rfl⟩
   ·rw [if_neg hp] at hat
    refine .inl ⟨by rw [← hat, ← e1]; rfl, fun q hq => ?_⟩
    rcases List.mem_cons.1 hq with rfl | hq
    ·exact hp
    ·exact e2 q hq
  ·refine .inr ⟨q, by simp [hq], e1, ?_⟩
   have : (putC s p.1 p.2)[i].1 = s[i].1 := by rw [hat]; split <;> rfl
   rw [← this, ← e2]; rfl
theorem lays_out : ∀ (l : List (Nat × Blk)) (D : DS), D.dead = false → (∀ p ∈ l, p.1 < D.secs.length) →
  (∃ l', l' <+: l ∧ (DS.lays l D).1.secs = YM D.secs l' ∧ (DS.lays l D).2 ≠ 0) ∨
  ((DS.lays l D).1.secs = settled (fun _ => true) (YM D.secs l) ∧ (DS.lays l D).2 = 0 ∧ (DS.lays l D).1.dead = false)
 | [], D, hd, _ => by
  simp only [DS.lays, DS.sync, hd, Bool.false_eq_true, if_false]
  split
  ·exact .inl ⟨[], List.prefix_refl _, rfl, by simp⟩
  ·split
   ·exact .inl ⟨[], List.prefix_refl _, rfl, by simp⟩
   ·exact .inr ⟨rfl, rfl, hd⟩
 | p :: r, D, hd, hl => by
  have hp := hl p (by simp)
  have hlt : ¬ ((p.1 : Int) < 0 ∨ (D.secs.length : Int) ≤ p.1) := by omega
  unfold DS.lays
  by_cases ha : D.armed = 0
  ·have hw : D.write p.1 p.2 = ({ D.tick with dead := true, secs := putC D.secs p.1 p.2 }, 9) := by
    unfold DS.write
    rw [if_neg (by simp [hd]), if_neg hlt, if_pos ha]; rfl
   rw [hw]
   rw [if_neg (by simp)]
   exact .inl ⟨[p], ⟨r, rfl⟩, rfl, by simp⟩
  ·by_cases hf : D.failing = 0
   ·have hw : D.write p.1 p.2 = (D.tick, 8) := by
     unfold DS.write
     rw [if_neg (by simp [hd]), if_neg hlt, if_neg ha, if_pos hf]
    rw [hw]
    rw [if_neg (by simp)]
    exact .inl ⟨[], ⟨p :: r, rfl⟩, rfl, by simp⟩
   ·have hw : D.write p.1 p.2 = ({ D.tick with armed := cnt D.armed, secs := putC D.secs p.1 p.2 }, 0) := by
     unfold DS.write
     rw [if_neg (by simp [hd]), if_neg hlt, if_neg ha, if_neg hf]; rfl
    rw [hw, if_pos rfl]
    have ih := lays_out r { D.tick with armed := cnt D.armed, secs := putC D.secs p.1 p.2 } hd (fun q hq => by simp only [YZ]; exact hl q (by simp [hq]))
    rcases ih with ⟨l', ⟨t, ht⟩, h2, h3⟩ | h
    ·exact .inl ⟨p :: l', ⟨t, by rw [← ht]; rfl⟩, h2, h3⟩
    ·exact .inr h
theorem Calm_lays : ∀ (l : List (Nat × Blk)) (D : DS), D.Calm → (∀ p ∈ l, p.1 < D.secs.length) → (DS.lays l D).2 = 0 ∧ (DS.lays l D).1.Calm ∧ (DS.lays l D).1.secs = settled (fun _ => true) (YM D.secs l)
 | [], D, h, _ => by
  rw [DS.lays, h.sync_eq]
  exact ⟨rfl, ⟨rfl, rfl, rfl⟩, rfl⟩
 | p :: r, D, h, hl => by
  have hp := hl p (by simp)
  unfold DS.lays
  rw [h.write_eq hp, if_pos rfl]
  exact Calm_lays r _ ⟨rfl, rfl, rfl⟩ (fun q hq => by simp only [YZ]; exact hl q (by simp [hq]))
theorem settled_one {keep : Nat → Bool} {s : YO} {i : Nat} (he : YX s) (l : List (Nat × Blk)) (hi : i < s.length) (h' : i < (settled keep (YM s l)).length) :
  (settled keep (YM s l))[i] = s[i] ∨ ∃ p ∈ l, p.1 = i ∧ (settled keep (YM s l))[i] = (p.2, none) := by
 have hp : i < (YM s l).length := by rw [YW]; exact hi
 have hn := he s[i] (List.getElem_mem hi)
 rw [settled_at hp h']
 rcases putAll_at l s i hi hp with ⟨e, _⟩ | ⟨p, hm, e1, e2⟩
 ·left
  have hip : isP (YM s l) i = false := by simp [isP, hp, e, hn]
  rw [hip, e]
  simp only [Bool.false_and, Bool.false_eq_true, if_false]
  rw [← hn]
 ·have hip : isP (YM s l) i = true := by simp [isP, hp, e2]
  rw [hip, e2]
  cases hk : keep (YB (YM s l) i).length with
  | false => left; simp [← hn]
  | true => right; exact ⟨p, hm, e1, by simp⟩
theorem settled_all {s : YO} {i : Nat} (he : YX s) (l : List (Nat × Blk)) (hi : i < s.length) (h' : i < (settled (fun _ => true) (YM s l)).length) :
  (settled (fun _ => true) (YM s l))[i] = s[i] ∧ (∀ p ∈ l, p.1 ≠ i) ∨ ∃ p ∈ l, p.1 = i ∧ (settled (fun _ => true) (YM s l))[i] = (p.2, none) := by
 have hp : i < (YM s l).length := by rw [YW]; exact hi
 have hn := he s[i] (List.getElem_mem hi)
 rw [settled_at hp h']
 rcases putAll_at l s i hi hp with ⟨e, h2⟩ | ⟨p, hm, e1, e2⟩
 ·left
  have hip : isP (YM s l) i = false := by simp [isP, hp, e, hn]
  rw [hip, e]
  simp only [Bool.false_and, Bool.false_eq_true, if_false]
  exact ⟨by rw [← hn], h2⟩
 ·have hip : isP (YM s l) i = true := by simp [isP, hp, e2]
  rw [hip, e2]
  right; exact ⟨p, hm, e1, by simp⟩
theorem mid {A B C : Bs} {n m : Nat} (hA : A.length = n) (hB : B.length = m) : ((A ++ (B ++ C)).drop n).take m = B := by
 subst hA; subst hB; rw [List.drop_left, List.take_left]
theorem fit52 (l : Bs) : fitB 52 l = l.take 52 ++ z8 (52 - l.length) := by
 unfold fitB z8
 rw [List.take_append, List.take_replicate]
 congr 2; omega
theorem pad_drop {x l : Bs} (hx : x.length = 12) (hl : l.length ≤ 52) : (pad (x ++ l)).drop 12 = fitB 52 l := by
 rw [pad_of (by simp; omega), ← hx, List.append_assoc, List.drop_left, fit52, List.take_of_length_le hl]
 congr 2; simp; omega
theorem partB_eq (t n : Nat) (b : Bs) (k : Nat) : Xz t n b k = pad ((be 4 t ++ (be 5 n ++ (be 2 b.length ++ [UInt8.ofNat k]))) ++ (b.drop (52 * k)).take 52) := by
 unfold Xz; simp
theorem partB_drop (t n : Nat) (b : Bs) (k : Nat) : (Xz t n b k).drop 12 = fitB 52 (b.drop (52 * k)) := by
 rw [partB_eq, pad_drop (by simp [ZJ]) (by simp; omega), fit52, fit52, List.take_take]
 congr 2
 simp; omega
theorem partB_congr {t n : Nat} {b c : Bs} {k : Nat} (hl : b.length = c.length) (h : (b.drop (52 * k)).take 52 = (c.drop (52 * k)).take 52) : Xz t n b k = Xz t n c k := by
 unfold Xz; rw [hl, h]
theorem partB_turn {t n : Nat} {b : Bs} {k : Nat} (ht : t < 4294967296) : turnOf (Xz t n b k) = t := by
 have h : (Xz t n b k).take 4 = be 4 t := by
  unfold Xz pad
  rw [List.append_assoc, List.take_take, Nat.min_eq_left (by omega), List.take_left' (ZJ 4 t)]
 unfold turnOf
 rw [h, XP, Nat.mod_eq_of_lt (by simpa using ht)]
theorem partB_size {t n : Nat} {b : Bs} {k : Nat} (hn : b.length < 65536) : Xx (Xz t n b k) = b.length := by
 have h : ((Xz t n b k).drop 9).take 2 = be 2 b.length := by
  unfold Xz pad
  rw [List.drop_take, List.take_take, Nat.min_eq_left (by omega)]
  simp only [List.append_assoc]
  rw [← List.append_assoc (be 4 t)]
  exact mid (by simp [ZJ]) (ZJ 2 _)
 unfold Xx
 rw [h, XP, Nat.mod_eq_of_lt (by simpa using hn)]
theorem sects_mul {n k : Nat} (h : k < YG n) : 52 * k < n ∨ (k = 0 ∧ n = 0) := by unfold YG at h; omega
theorem sects_end (n : Nat) : n ≤ 52 * YG n := by unfold YG; omega
theorem fit_step {size k : Nat} {b acc : Bs} (hb : b.length = size) (hk : k < YG size) (hl : acc.length = 52 * k) (h : acc.take size = b.take (52 * k)) :
  (acc ++ fitB 52 (b.drop (52 * k))).take size = b.take (52 * (k + 1)) := by
 have hm : 52 * k ≤ size := by rcases sects_mul hk with h | h <;> omega
 have ha : acc = b.take (52 * k) := by rw [← h, List.take_of_length_le (by omega)]
 rw [List.take_append, List.take_of_length_le (by omega), hl, ha]
 by_cases h52 : 52 * (k + 1) ≤ size
 ·have e : fitB 52 (b.drop (52 * k)) = (b.drop (52 * k)).take 52 := by
   rw [fit52]
   have : 52 - (b.drop (52 * k)).length = 0 := by simp; omega
   rw [this]; simp [z8]
  rw [e, List.take_take, Nat.min_eq_right (by omega), Nat.mul_add, Nat.mul_one, List.take_add]
 ·have e : (fitB 52 (b.drop (52 * k))).take (size - 52 * k) = b.drop (52 * k) := by
   rw [fit52, List.take_of_length_le (l := b.drop (52 * k)) (by simp; omega), List.take_append_of_le_length (by simp; omega), List.take_of_length_le (by simp; omega)]
  rw [e, List.take_append_drop, List.take_of_length_le (by omega)]
theorem fit_of {size k : Nat} {b acc : Bs} (hb : b.length = size) (hl : acc.length = 52 * k) (h : acc.take size = b.take (52 * k)) : fitB size acc = b.take (52 * k) ++ z8 (size - 52 * k) := by
 unfold fitB z8
 rw [List.take_append, h, List.take_replicate, hl]
 congr 2; omega
theorem part_fit {t n size k : Nat} {b acc : Bs} (hb : b.length = size) (hl : acc.length = 52 * (k + 1)) (h : acc.take size = b.take (52 * (k + 1))) : Xz t n (fitB size acc) k = Xz t n b k := by
 refine partB_congr (by rw [fitB_len, hb]) ?_
 rw [fit_of hb hl h]
 by_cases h52 : 52 * (k + 1) ≤ size
 ·rw [List.drop_append_of_le_length (by simp; omega), List.take_append_of_le_length (by simp; omega), List.drop_take, List.take_take]
  congr 1; omega
 ·have e : size - 52 * (k + 1) = 0 := by omega
  rw [e]
  simp only [z8, List.replicate_zero, List.append_nil]
  rw [List.drop_take, List.take_take]
  congr 1; omega
def entP (g : Nat → Blk) (m n at' turn size : Nat) : Nat → Nat → Bs → Option Bs
 | 0, _, acc => some (fitB size acc)
 | j + 1, k, acc => if Xz turn n (fitB size (acc ++ (g (2 + (at' + k) % m)).drop 12)) k = g (2 + (at' + k) % m) then entP g m n at' turn size j (k + 1) (acc ++ (g (2 + (at' + k) % m)).drop 12) else none
theorem entP_some {g : Nat → Blk} {m n at' t size : Nat} {b : Bs} (hb : b.length = size) (hg : ∀ k, k < YG size → g (2 + (at' + k) % m) = Xz t n b k) :
  ∀ (j k : Nat) (acc : Bs), j + k = YG size → acc.length = 52 * k → acc.take size = b.take (52 * k) → entP g m n at' t size j k acc = some b
 | 0, k, acc, hjk, hl, h => by
  have hk : k = YG size := by omega
  have he := sects_end size
  subst hk
  rw [entP, fit_of hb hl h, List.take_of_length_le (by omega)]
  have e : size - 52 * YG size = 0 := by omega
  rw [e]; simp [z8]
 | j + 1, k, acc, hjk, hl, h => by
  have hk : k < YG size := by omega
  have hgk := hg k hk
  have hst := fit_step hb hk hl h
  have hl2 : (acc ++ (Xz t n b k).drop 12).length = 52 * (k + 1) := by simp [partB_len, hl]; omega
  rw [entP, hgk, if_pos]
  ·exact entP_some hb hg j (k + 1) _ (by omega) hl2 (by rw [partB_drop]; exact hst)
  ·exact part_fit hb hl2 (by rw [partB_drop]; exact hst)
theorem entP_inv {g : Nat → Blk} {m n at' t size : Nat} {b : Bs} (hg64 : ∀ q, (g (2 + q % m)).length = 64) : ∀ (j k : Nat) (acc : Bs), j + k = YG size → acc.length = 52 * k → entP g m n at' t size j k acc = some b →
  b.length = size ∧ acc.take size = b.take (52 * k) ∧ ∀ i, k ≤ i → i < YG size → g (2 + (at' + i) % m) = Xz t n b i
 | 0, k, acc, hjk, hl, h => by
  have hk : k = YG size := by omega
  have he := sects_end size
  subst hk
  simp only [entP, Option.some.injEq] at h
  subst h
  refine ⟨fitB_len _ _, ?_, fun i h1 h2 => by omega⟩
  have : fitB size acc = acc.take size := by
   unfold fitB; rw [List.take_append_of_le_length (by omega)]
  rw [this, List.take_take, Nat.min_eq_right (by omega)]
 | j + 1, k, acc, hjk, hl, h => by
  have hk : k < YG size := by omega
  rw [entP] at h
  split at h
  ·rename_i hp
   have hl2 : (acc ++ (g (2 + (at' + k) % m)).drop 12).length = 52 * (k + 1) := by simp [hg64, hl]; omega
   obtain ⟨h1, h2, h3⟩ := entP_inv hg64 j (k + 1) _ (by omega) hl2 h
   have hm : 52 * k ≤ size := by rcases sects_mul hk with h | h <;> omega
   refine ⟨h1, ?_, fun i hi1 hi2 => ?_⟩
   ·have := congrArg (fun l : Bs => l.take (52 * k)) h2
    simp only [List.take_take] at this
    rw [Nat.min_eq_left hm, Nat.min_eq_left (by omega), List.take_append_of_le_length (by omega)] at this
    rw [← this, List.take_of_length_le (by omega), List.take_of_length_le (by omega)]
   ·by_cases e : i = k
    ·subst e; rw [← hp, part_fit h1 hl2 h2]
    ·exact h3 i (by omega) hi2
  ·cases h
def entP0 (g : Nat → Blk) (m T n at' left : Nat) : Option Bs :=
 if left = 0 then none
 else if turnOf (g (2 + at' % m)) < 1 ∨ T < turnOf (g (2 + at' % m)) ∨ 8000 < Xx (g (2 + at' % m)) ∨ left < YG (Xx (g (2 + at' % m))) then none
 else entP g m n at' (turnOf (g (2 + at' % m))) (Xx (g (2 + at' % m))) (YG (Xx (g (2 + at' % m)))) 0 []
theorem entP0_some {g : Nat → Blk} {m T n at' left t : Nat} {b : Bs} (ht : 1 ≤ t ∧ t ≤ T) (hT : T < 4294967296) (hb : b.length ≤ 8000) (hleft : YG b.length ≤ left) (hg : ∀ k, k < YG b.length → g (2 + (at' + k) % m) = Xz t n b k) :
  entP0 g m T n at' left = some b := by
 have hp := sects_pos b.length
 have h0 := hg 0 (by omega)
 rw [Nat.add_zero] at h0
 unfold entP0
 rw [h0, partB_turn (by omega), partB_size (by omega), if_neg (by omega), if_neg (by omega)]
 exact entP_some rfl hg _ 0 [] (by omega) rfl (by simp)
theorem entP0_inv {g : Nat → Blk} {m T n at' left : Nat} {b : Bs} (hg64 : ∀ q, (g (2 + q % m)).length = 64) (h : entP0 g m T n at' left = some b) :
  ∃ t, 1 ≤ t ∧ t ≤ T ∧ b.length ≤ 8000 ∧ YG b.length ≤ left ∧ ∀ k, k < YG b.length → g (2 + (at' + k) % m) = Xz t n b k := by
 unfold entP0 at h
 split at h
 ·cases h
 ·split at h
  ·cases h
  ·rename_i h1 h2
   obtain ⟨g1, g2, g3⟩ := entP_inv hg64 _ 0 [] (by omega) rfl h
   exact ⟨_, by omega, by omega, by omega, by rw [g1]; omega, fun k hk => g3 k (by omega) (by rw [← g1]; exact hk)⟩
def NoAt (g : Nat → Blk) (m pos n : Nat) : Prop := ∀ t b, 1 ≤ t → t ≤ 1073741824 → b.length ≤ 8000 → YG b.length ≤ m → ∃ k, k < YG b.length ∧ g (2 + (pos + k) % m) ≠ Xz t n b k
theorem NoAt.scan {g : Nat → Blk} {m T n pos left : Nat} (h : NoAt g m pos n) (hg64 : ∀ q, (g (2 + q % m)).length = 64) (hl : left ≤ m) (hT : T ≤ 1073741824) : entP0 g m T n pos left = none := by
 cases he : entP0 g m T n pos left with
 | none => rfl
 | some b =>
  obtain ⟨t, h1, h2, h3, h4, h5⟩ := entP0_inv hg64 he
  obtain ⟨k, hk, hne⟩ := h t b h1 (by omega) h3 (by omega)
  exact absurd (h5 k hk) hne
def Has (g : Nat → Blk) (m T : Nat) : Nat → Nat → List Bs → Prop
 | _, _, [] => True
 | n, pos, b :: r => (∃ t, 1 ≤ t ∧ t ≤ T ∧ ∀ k, k < YG b.length → g (2 + (pos + k) % m) = Xz t n b k) ∧ Has g m T (n + 1) (pos + YG b.length) r
theorem Has.frame {g g' : Nat → Blk} {m T : Nat} : ∀ {l : List Bs} {n pos pos' : Nat}, Has g m T n pos l → pos % m = pos' % m → (∀ j, j < Wi l → g' (2 + (pos + j) % m) = g (2 + (pos + j) % m)) → Has g' m T n pos' l
 | [], n, pos, pos', _, _, _ => trivial
 | b :: r, n, pos, pos', ⟨⟨t, h1, h2, h3⟩, h4⟩, hp, hg => by
  rw [usedL_cons] at hg
  refine ⟨⟨t, h1, h2, fun k hk => ?_⟩, ?_⟩
  ·have e : (pos' + k) % m = (pos + k) % m := by rw [Nat.add_mod, ← hp, ← Nat.add_mod]
   rw [e, hg k (by omega), h3 k hk]
  ·refine h4.frame (by rw [Nat.add_mod, hp, ← Nat.add_mod]) (fun j hj => ?_)
   have := hg (YG b.length + j) (by omega)
   rw [← Nat.add_assoc] at this; exact this
theorem Has.le {g : Nat → Blk} {m T T' : Nat} (hT : T ≤ T') : ∀ {l : List Bs} {n pos : Nat}, Has g m T n pos l → Has g m T' n pos l
 | [], _, _, _ => trivial
 | b :: r, n, pos, ⟨⟨t, h1, h2, h3⟩, h4⟩ => ⟨⟨t, h1, by omega, h3⟩, h4.le hT⟩
theorem Has.append {g : Nat → Blk} {m T : Nat} : ∀ {l l' : List Bs} {n pos : Nat}, Has g m T n pos l → Has g m T (n + l.length) (pos + Wi l) l' → Has g m T n pos (l ++ l')
 | [], l', n, pos, _, h => by simpa [Wi] using h
 | b :: r, l', n, pos, ⟨h1, h2⟩, h => by
  refine ⟨h1, h2.append ?_⟩
  rw [usedL_cons] at h
  rw [show n + 1 + r.length = n + (b :: r).length by simp; omega, Nat.add_assoc]; exact h
theorem Has.drop {g : Nat → Blk} {m T : Nat} : ∀ {l : List Bs} {n pos : Nat} (i : Nat), Has g m T n pos l → i ≤ l.length → Has g m T (n + i) (pos + Wi (l.take i)) (l.drop i)
 | l, n, pos, 0, h, _ => by simpa [Wi] using h
 | [], n, pos, i + 1, h, hi => by simp at hi
 | b :: r, n, pos, i + 1, ⟨h1, h2⟩, hi => by
  have := h2.drop i (by simpa using hi)
  simp only [List.take_succ_cons, List.drop_succ_cons, usedL_cons]
  rw [show n + (i + 1) = n + 1 + i by omega, ← Nat.add_assoc]; exact this
def img (D : DS) (i : Nat) : Blk := (D.secs[i]?.map (·.1)).getD (z8 64)
theorem img_at {D : DS} {i : Nat} (hi : i < D.secs.length) : img D i = D.secs[i].1 := by simp [img, hi]
theorem img_len {D : DS} (h : D.Ok) (i : Nat) : (img D i).length = 64 := by
 unfold img
 cases hs : D.secs[i]? with
 | none => simp [z8]
 | some p => simpa using h.secs.held p (List.mem_of_getElem? hs)
theorem Xl {D D' : DS} (h : D'.secs = D.secs) : img D' = img D := by funext i; simp [img, h]
structure DS.Clean (D : DS) : Prop where
 ok : D.Ok
 calm : D.Calm
 empty : YX D.secs
theorem DS.Clean.read {D : DS} (h : D.Clean) {i : Nat} (hi : i < D.secs.length) : ∃ D', D.read (i : Int) = (D', img D i, 0) ∧ D'.Clean ∧ D'.secs = D.secs := by
 refine ⟨⟨D.secs, IntKind.i64.wrap (D.ops + 1), -1, -1, false⟩, ?_, ⟨DS.Ok.mk' h.ok.secs, DS.Calm.mk', h.empty⟩, rfl⟩
 ·rw [h.calm.read_eq hi, img_at hi]
  simp [says1, h.empty _ (List.getElem_mem hi)]
theorem entGo_clean {h : Hd} {n at' t size : Nat} (hm : 0 < h.size) : ∀ (j k : Nat) (acc : Bs) (D : DS), D.Clean → h.size + 2 ≤ D.secs.length →
  ∃ D', entGo h n at' t size j k acc D = (entP (img D) h.size n at' t size j k acc, D', 0) ∧ D'.Clean ∧ D'.secs = D.secs
 | 0, k, acc, D, hD, hl => ⟨D, rfl, hD, rfl⟩
 | j + 1, k, acc, D, hD, hl => by
  have hlt : 2 + (at' + k) % h.size < D.secs.length := by have := Nat.mod_lt (at' + k) hm; omega
  obtain ⟨D1, e1, h1, h2⟩ := hD.read hlt
  unfold entGo entP
  rw [e1]
  rw [if_neg (by simp)]
  by_cases hp : Xz t n (fitB size (acc ++ (img D (2 + (at' + k) % h.size)).drop 12)) k = img D (2 + (at' + k) % h.size)
  ·rw [if_pos hp, if_pos hp]
   obtain ⟨D2, e2, h3, h4⟩ := entGo_clean hm j (k + 1) (acc ++ (img D (2 + (at' + k) % h.size)).drop 12) D1 h1 (by rw [h2]; exact hl)
   rw [Xl h2] at e2
   exact ⟨D2, e2, h3, h4.trans h2⟩
  ·rw [if_neg hp, if_neg hp]
   exact ⟨D1, rfl, h1, h2⟩
theorem entryR_clean {h : Hd} {n at' left : Nat} (hm : 0 < h.size) {D : DS} (hD : D.Clean) (hl : h.size + 2 ≤ D.secs.length) :
  ∃ D', entryR h n at' left D = (entP0 (img D) h.size h.turn n at' left, D', 0) ∧ D'.Clean ∧ D'.secs = D.secs := by
 unfold entryR entP0
 split
 ·exact ⟨D, rfl, hD, rfl⟩
 ·have hlt : 2 + at' % h.size < D.secs.length := by have := Nat.mod_lt at' hm; omega
  obtain ⟨D1, e1, h1, h2⟩ := hD.read hlt
  rw [e1, if_neg (by simp)]
  unfold entGo0
  split
  ·exact ⟨D1, rfl, h1, h2⟩
  ·have hs := sects_pos (Xx (img D (2 + at' % h.size)))
   have e : YG (Xx (img D (2 + at' % h.size))) = (YG (Xx (img D (2 + at' % h.size))) - 1) + 1 := by omega
   rw [e, entP]
   simp only [Nat.add_zero, List.nil_append, Nat.zero_add, Nat.add_sub_cancel]
   split
   ·obtain ⟨D2, e2, h3, h4⟩ := entGo_clean (n := n) (at' := at') (t := turnOf (img D (2 + at' % h.size))) (size := Xx (img D (2 + at' % h.size))) hm (YG (Xx (img D (2 + at' % h.size))) - 1) 1 ((img D (2 + at' % h.size)).drop 12) D1 h1 (by rw [h2]; exact hl)
    rw [Xl h2] at e2
    exact ⟨D2, e2, h3, h4.trans h2⟩
   ·exact ⟨D1, rfl, h1, h2⟩
theorem found_clean : ∀ (l : List Bs) (f : Nat) (R : RgS) (D : DS), D.Clean → 0 < R.h.size → R.h.size + 2 ≤ D.secs.length → R.h.turn ≤ 1073741824 → Has (img D) R.h.size R.h.turn R.next (R.h.place + R.used) l → (∀ b ∈ l, b.length ≤ 8000) →
  R.used + Wi l ≤ R.h.size → (R.next + l.length < 1099511627776 → NoAt (img D) R.h.size (R.h.place + R.used + Wi l) (R.next + l.length)) → R.next + l.length ≤ 1099511627776 → l.length < f →
  ∃ D', WL f R D = ({ R with ents := R.ents ++ l, used := R.used + Wi l }, D', 0) ∧ D'.Clean ∧ D'.secs = D.secs
 | _, 0, _, _, _, _, _, _, _, _, _, _, _, h => by omega
 | [], f + 1, R, D, hD, hm, hl, hT, _, _, hfit, hno, hn, hf => by
  unfold WL
  have hR : ({ R with ents := R.ents ++ [], used := R.used + Wi [] } : RgS) = R := by simp [Wi]
  rw [hR]
  by_cases hlt : R.next < 1099511627776
  ·rw [if_pos hlt]
   obtain ⟨D', e1, h1, h2⟩ := entryR_clean (h := R.h) (n := R.next) (at' := R.h.place + R.used) (left := R.h.size - R.used) hm hD hl
   have := (hno (by simpa using hlt)).scan (T := R.h.turn) (left := R.h.size - R.used) (fun q => img_len hD.ok _) (by omega) hT
   simp only [Wi, List.map_nil, List.sum_nil, Nat.add_zero, List.length_nil] at this
   rw [e1, this]
   exact ⟨D', rfl, h1, h2⟩
  ·rw [if_neg hlt]
   exact ⟨D, rfl, hD, rfl⟩
 | b :: r, f + 1, R, D, hD, hm, hl, hT, hhas, hlong, hfit, hno, hn, hf => by
  obtain ⟨⟨t, h1, h2, h3⟩, h4⟩ := hhas
  simp only [usedL_cons] at hfit hno
  simp only [List.length_cons] at hn hno hf
  unfold WL
  rw [if_pos (by omega)]
  obtain ⟨D1, e1, g1, g2⟩ := entryR_clean (h := R.h) (n := R.next) (at' := R.h.place + R.used) (left := R.h.size - R.used) hm hD hl
  rw [entP0_some ⟨h1, h2⟩ (by omega) (hlong b (by simp)) (by omega) h3] at e1
  rw [e1]
  simp only [if_true]
  have hnx : (R.adds b).next = R.next + 1 := by simp [RgS.adds, RgS.next]; omega
  obtain ⟨D2, e2, g3, g4⟩ := found_clean r f (R.adds b) D1 g1 hm (by rw [g2]; exact hl) hT (by
   rw [hnx, Xl g2]
   have : (R.adds b).h.place + (R.adds b).used = R.h.place + R.used + YG b.length := by simp [RgS.adds]; omega
   rw [this]; exact h4) (fun c hc => hlong c (by simp [hc])) (by simp only [RgS.adds]; omega) (fun hlt => by
   rw [hnx, Xl g2] at *
   have e : (R.adds b).h.place + (R.adds b).used + Wi r = R.h.place + R.used + (YG b.length + Wi r) := by simp [RgS.adds]; omega
   rw [e, show R.next + 1 + r.length = R.next + (r.length + 1) by omega]
   exact hno (by omega)) (by rw [hnx]; omega) (by omega)
  refine ⟨D2, ?_, g3, g4.trans g2⟩
  rw [e2]
  simp [RgS.adds, usedL_cons, Nat.add_assoc]
theorem headB_eq {h : Hd} (hn : h.note.length ≤ 32) : headB h = letB ++ (be 4 h.turn ++ (be 2 h.size ++ (be 5 h.first ++ (be 2 h.place ++ ([UInt8.ofNat h.note.length] ++ (h.note ++ z8 (42 - h.note.length))))))) := by
 unfold headB
 rw [pad_of (by simp [ZJ, letB]; omega)]
 simp only [List.append_assoc, List.cons_append, List.nil_append]
 have e : 64 - (letB ++ (be 4 h.turn ++ (be 2 h.size ++ (be 5 h.first ++ (be 2 h.place ++ (UInt8.ofNat h.note.length :: h.note)))))).length = 42 - h.note.length := by simp [ZJ, letB]; omega
 rw [e]
theorem headOf_headB {h : Hd} (hr : h.Right h.note.length) (hf : h.first < 1099511627776) : headOf (headB h) = h ∧ ((headB h).getD 21 0).toNat = h.note.length := by
 obtain ⟨h1, h2, h3, h4, h5, h6, h7, h8⟩ := hr
 have e := headB_eq h8
 have hl : letB.length = 8 := rfl
 have hb4 := ZJ 4 h.turn
 have hb2 := ZJ 2 h.size
 have hb5 := ZJ 5 h.first
 have hbp := ZJ 2 h.place
 have hn8 : h.note.length < 256 := by omega
 have e21 : (headB h).getD 21 0 = UInt8.ofNat h.note.length := by
  rw [e, ← List.append_assoc, ← List.append_assoc, ← List.append_assoc, ← List.append_assoc]
  rw [List.getD_eq_getElem?_getD, List.getElem?_append_right (by simp [hl, hb4, hb2, hb5, hbp])]
  simp [hl, hb4, hb2, hb5, hbp]
 have en : (UInt8.ofNat h.note.length).toNat = h.note.length := by simp; omega
 refine ⟨?_, by rw [e21, en]⟩
 unfold headOf
 have f1 : ((headB h).drop 8).take 4 = be 4 h.turn := by rw [e]; exact mid hl hb4
 have f2 : ((headB h).drop 12).take 2 = be 2 h.size := by
  rw [e, ← List.append_assoc]; exact mid (by simp [hl, hb4]) hb2
 have f3 : ((headB h).drop 14).take 5 = be 5 h.first := by
  rw [e, ← List.append_assoc, ← List.append_assoc]; exact mid (by simp [hl, hb4, hb2]) hb5
 have f4 : ((headB h).drop 19).take 2 = be 2 h.place := by
  rw [e, ← List.append_assoc, ← List.append_assoc, ← List.append_assoc]; exact mid (by simp [hl, hb4, hb2, hb5]) hbp
 have f5 : ((headB h).drop 22).take h.note.length = h.note := by
  rw [e, ← List.append_assoc, ← List.append_assoc, ← List.append_assoc, ← List.append_assoc, ← List.append_assoc]; exact mid (by simp [hl, hb4, hb2, hb5, hbp]) rfl
 have g1 : h.turn % 256 ^ 4 = h.turn := Nat.mod_eq_of_lt (by simp; omega)
 have g2 : h.size % 256 ^ 2 = h.size := Nat.mod_eq_of_lt (by simp; omega)
 have g3 : h.first % 256 ^ 5 = h.first := Nat.mod_eq_of_lt (by simp; omega)
 have g4 : h.place % 256 ^ 2 = h.place := Nat.mod_eq_of_lt (by simp; omega)
 rw [e21, en, f1, f2, f3, f4, f5, XP, XP, XP, XP, g1, g2, g3, g4]
theorem readB_headB {h : Hd} (hr : h.Right h.note.length) (hf : h.first < 1099511627776) : readB (headB h) = (h, true) := by
 obtain ⟨h1, h2⟩ := headOf_headB hr hf
 unfold readB
 rw [h1, h2, if_pos hr]; simp
theorem RgS.Ok.right {R : RgS} (h : R.Ok) : R.h.Right R.h.note.length := ⟨h.turn.1, h.turn.2, h.size.1, h.size.2, h.first, by have := h.next; unfold RgS.next at this; omega, h.place, h.note⟩
structure RO (R : RgS) (D : DS) : Prop where
 ok : R.Ok
 live : R.broken = false
 num : R.h.first < 1099511627776
 dok : D.Ok
 alive : D.dead = false
 empty : YX D.secs
 len : R.h.size + 2 ≤ D.secs.length
 head : img D (R.h.turn % 2) = headB R.h
 other : (readB (img D ((R.h.turn + 1) % 2))).2 = true → (readB (img D ((R.h.turn + 1) % 2))).1.turn < R.h.turn
 has : Has (img D) R.h.size R.h.turn R.h.first R.h.place R.ents
 none : R.next < 1099511627776 → NoAt (img D) R.h.size (R.h.place + R.used) R.next
 bound : ∀ q, q < R.h.size → turnOf (img D (2 + q)) ≤ R.h.turn ∧ numOf (img D (2 + q)) ≤ R.next
def Frs (R : RgS) (D : DS) : Prop := ∀ q, q < R.h.size → ¬ (turnOf (img D (2 + q)) = R.h.turn ∧ numOf (img D (2 + q)) = R.next)
theorem mod2 (t : Nat) : t % 2 = 0 ∧ (t + 1) % 2 = 1 ∨ t % 2 = 1 ∧ (t + 1) % 2 = 0 := by omega
theorem RO.counts {R : RgS} {D : DS} (h : RO R D) : countsB (img D 0) (img D 1) = (R.h, true) := by
 have hr := readB_headB h.ok.right h.num
 have ho := h.other
 have hh := h.head
 rcases mod2 R.h.turn with ⟨e1, e2⟩ | ⟨e1, e2⟩
 ·rw [e1] at hh; rw [e2] at ho
  unfold countsB
  rw [hh, hr]
  cases hy : (readB (img D 1)).2 with
  | false => simp
  | true => have := ho hy; simp; omega
 ·rw [e1] at hh; rw [e2] at ho
  unfold countsB
  rw [hh, hr]
  cases hy : (readB (img D 0)).2 with
  | false => simp
  | true => have := ho hy; simp; omega
theorem img_settled {s : YO} {keep : Nat → Bool} {D : DS} {l : List (Nat × Blk)} (he : YX s) (hs : D.secs = settled keep (YM s l)) (D0 : DS) (h0 : D0.secs = s) (i : Nat) : img D i = img D0 i ∨ ∃ p ∈ l, p.1 = i ∧ img D i = p.2 := by
 by_cases hi : i < s.length
 ·have hl : i < D.secs.length := by rw [hs, Yn, YW]; exact hi
  have h' : i < (settled keep (YM s l)).length := by rw [Yn, YW]; exact hi
  have e1 : img D i = (settled keep (YM s l))[i].1 := by rw [img_at hl]; congr 1; simp [hs]
  have e2 : img D0 i = s[i].1 := by rw [img_at (by rw [h0]; exact hi)]; simp [h0]
  rcases settled_one (keep := keep) he l hi h' with h | ⟨p, hp, h1, h2⟩
  ·left; rw [e1, e2, h]
  ·right; exact ⟨p, hp, h1, by rw [e1, h2]⟩
 ·left
  have a : D.secs[i]? = none := List.getElem?_eq_none (by rw [hs, Yn, YW]; omega)
  have b : D0.secs[i]? = none := List.getElem?_eq_none (by rw [h0]; omega)
  unfold img; rw [a, b]
theorem img_all {s : YO} {D : DS} {l : List (Nat × Blk)} (he : YX s) (hs : D.secs = settled (fun _ => true) (YM s l)) (D0 : DS) (h0 : D0.secs = s) {i : Nat} (hi : i < s.length) : (img D i = img D0 i ∧ ∀ p ∈ l, p.1 ≠ i) ∨ ∃ p ∈ l, p.1 = i ∧ img D i = p.2 := by
 have hl : i < D.secs.length := by rw [hs, Yn, YW]; exact hi
 have h' : i < (settled (fun _ => true) (YM s l)).length := by rw [Yn, YW]; exact hi
 have e1 : img D i = (settled (fun _ => true) (YM s l))[i].1 := by rw [img_at hl]; congr 1; simp [hs]
 have e2 : img D0 i = s[i].1 := by rw [img_at (by rw [h0]; exact hi)]; simp [h0]
 rcases settled_all he l hi h' with ⟨h, h2⟩ | ⟨p, hp, h1, h2⟩
 ·left; exact ⟨by rw [e1, e2, h], h2⟩
 ·right; exact ⟨p, hp, h1, by rw [e1, h2]⟩
theorem RO.newHead {R : RgS} {D D' : DS} {h' : Hd} {l : List Bs} {u : Nat} (h : RO R D) (hok : D'.Ok) (hal : D'.dead = false) (hem : YX D'.secs) (hlen : D'.secs.length = D.secs.length)
  (hi : img D' ((R.h.turn + 1) % 2) = headB h') (hs : ∀ i, i ≠ (R.h.turn + 1) % 2 → img D' i = img D i) (ht : h'.turn = R.h.turn + 1) (hz : h'.size = R.h.size)
  (hR : RgS.Ok ⟨h', l, u, false⟩) (hnum : h'.first < 1099511627776) (hhas : Has (img D) h'.size h'.turn h'.first h'.place l) (hpl : (h'.place + u) % h'.size = (R.h.place + R.used) % h'.size) (hn : h'.first + l.length = R.next) :
  RO ⟨h', l, u, false⟩ D' ∧ Frs ⟨h', l, u, false⟩ D' := by
 have hsec : ∀ q, img D' (2 + q) = img D (2 + q) := fun q => hs (2 + q) (by omega)
 have hold : img D' (R.h.turn % 2) = headB R.h := by rw [hs _ (by omega)]; exact h.head
 have hrd := readB_headB h.ok.right h.num
 refine ⟨⟨hR, rfl, hnum, hok, hal, hem, by dsimp only; rw [hlen, hz]; exact h.len, by dsimp only; rw [ht]; exact hi, ?_, ?_, ?_, ?_⟩, ?_⟩
 ·dsimp only
  rw [ht, show (R.h.turn + 1 + 1) % 2 = R.h.turn % 2 by omega, hold, hrd]
  intro _; dsimp only; omega
 ·exact hhas.frame rfl (fun j _ => hsec _)
 ·intro hlt t b h1 h1' h2 h3
  dsimp only [RgS.next] at hlt ⊢
  rw [hn] at hlt ⊢
  dsimp only at h3
  rw [hz] at h3 hpl ⊢
  obtain ⟨k, hk, hne⟩ := h.none hlt t b h1 h1' h2 h3
  refine ⟨k, hk, ?_⟩
  have e : (h'.place + u + k) % R.h.size = (R.h.place + R.used + k) % R.h.size := by rw [Nat.add_mod, hpl, ← Nat.add_mod]
  rw [e, hsec]; exact hne
 ·intro q hq
  dsimp only [RgS.next] at hq ⊢
  rw [hz] at hq
  have := h.bound q hq
  rw [hsec, hn, ht]; omega
 ·intro q hq hc
  dsimp only [RgS.next] at hq hc
  rw [hz] at hq
  have := h.bound q hq
  rw [hsec, ht] at hc; omega
theorem headL_idx {h : Hd} {p : Nat × Blk} (hp : p ∈ headL h) : p.1 = h.turn % 2 ∧ p.2 = headB h := by
 simp only [headL, List.mem_singleton] at hp; subst hp; exact ⟨rfl, rfl⟩
def RgS.again (R : RgS) : RgS := { R with h := { R.h with turn := R.h.turn + 1 } }
theorem RO.open {R : RgS} {D : DS} (h : RO R D) (hc : D.Calm) (ht : R.h.turn < 1073741824) : ∃ D', openR D = (some R.again, D', 0) ∧ RO R.again D' ∧ Frs R.again D' ∧ D'.Calm ∧ D'.secs.length = D.secs.length := by
 have hcl : D.Clean := ⟨h.dok, hc, h.empty⟩
 have hsz := h.ok.size
 have hlen := h.len
 have hus := h.ok.used
 have hnx := h.ok.next
 obtain ⟨D1, e1, c1, s1⟩ := hcl.read (i := 0) (by omega)
 obtain ⟨D2, e2, c2, s2⟩ := c1.read (i := 1) (by rw [s1]; omega)
 rw [Xl s1] at e2
 have hcnt := h.counts
 have hs2 : D2.secs = D.secs := s2.trans s1
 obtain ⟨D3, e3, c3, s3⟩ := found_clean R.ents (R.h.size + 1) ⟨R.h, [], 0, false⟩ D2 c2 (by dsimp only; omega) (by rw [hs2]; exact hlen) (by dsimp only; omega) (by
   rw [Xl hs2]; simpa [RgS.next] using h.has) h.ok.long (by dsimp only; have := h.ok.fit; omega) (fun hlt => by
   rw [Xl hs2]
   have := h.none (by unfold RgS.next; simpa [RgS.next] using hlt)
   rw [hus] at this
   simpa [RgS.next] using this) (by unfold RgS.next at hnx; simpa [RgS.next] using hnx) (by have := usedL_len R.ents; have := h.ok.fit; omega)
 have hs3 : D3.secs = D.secs := s3.trans hs2
 have hidx : ∀ p ∈ headL { R.h with turn := R.h.turn + 1 }, p.1 < D3.secs.length := fun p hp => by
  rw [(headL_idx hp).1, hs3]; omega
 obtain ⟨l0, l1, l2⟩ := Calm_lays (headL { R.h with turn := R.h.turn + 1 }) D3 c3.calm hidx
 have hD4ok : (DS.lays (headL { R.h with turn := R.h.turn + 1 }) D3).1.Ok := c3.ok.lays (fun p hp => by rw [(headL_idx hp).2]; exact headB_len _)
 have hall := fun {i : Nat} (hi : i < D3.secs.length) => img_all (D := (DS.lays (headL { R.h with turn := R.h.turn + 1 }) D3).1) c3.empty l2 D3 rfl hi
 have hR : ({ R with h := { R.h with turn := R.h.turn + 1 } } : RgS) = ⟨{ R.h with turn := R.h.turn + 1 }, R.ents, R.used, false⟩ := by rw [← h.live]
 have hok' : RgS.Ok ⟨{ R.h with turn := R.h.turn + 1 }, R.ents, R.used, false⟩ := ⟨⟨by dsimp only; omega, by dsimp only; omega⟩, h.ok.size, h.ok.first, h.ok.next, h.ok.place, h.ok.note, h.ok.used, h.ok.fit, h.ok.long⟩
 have hnew := h.newHead (D' := (DS.lays (headL { R.h with turn := R.h.turn + 1 }) D3).1) (h' := { R.h with turn := R.h.turn + 1 }) (l := R.ents) (u := R.used) hD4ok l1.dead (by rw [l2]; exact YH)
  (by rw [XT, hs3]) (by
   rcases hall (i := (R.h.turn + 1) % 2) (by rw [hs3]; omega) with ⟨_, hno⟩ | ⟨p, hp, _, hq⟩
   ·exact absurd rfl (hno _ (List.mem_singleton.2 rfl))
   ·rw [hq, (headL_idx hp).2]) (fun i hi => by
   rw [← Xl hs3]
   rcases img_settled c3.empty l2 D3 rfl i with he | ⟨p, hp, h1, _⟩
   ·exact he
   ·exact absurd (by rw [← h1, (headL_idx hp).1]) hi) rfl rfl hok' h.num (h.has.le (by dsimp only; omega)) rfl rfl
 refine ⟨(DS.lays (headL { R.h with turn := R.h.turn + 1 }) D3).1, ?_, by unfold RgS.again; rw [hR]; exact hnew.1, by unfold RgS.again; rw [hR]; exact hnew.2, l1, by rw [XT, hs3]⟩
 have e1' : D.read 0 = (D1, img D 0, 0) := e1
 have e2' : D1.read 1 = (D2, img D 1, 0) := e2
 have hul : Wi R.ents = R.used := hus.symm
 have hfin : openH R.h D2 = (some ⟨{ R.h with turn := R.h.turn + 1 }, R.ents, R.used, false⟩, (DS.lays (headL { R.h with turn := R.h.turn + 1 }) D3).1, 0) := by
  unfold openH
  rw [if_neg (by rw [hs2]; omega), e3, if_neg (by simp), if_neg (by omega), if_pos l0]
  simp only [List.nil_append, Nat.zero_add, hul]
  refine Prod.ext rfl (Prod.ext rfl l0)
 unfold openR
 rw [e1', if_neg (by simp), e2', if_neg (by simp), hcnt, if_neg (by simp), hfin]
 unfold RgS.again
 rw [hR]
end Go.Proofs.E
namespace Go.Proofs.E
open Go Go.RowKit
set_option linter.unusedVariables false
set_option linter.unusedSimpArgs false
set_option linter.unusedSectionVars false
set_option maxRecDepth 8000
theorem rs_flatK {α : Type} {sz : Nat} {g : α → List Value} {C : List Value} {off : Nat} : ∀ (l : List α) (k : Nat), k ≤ l.length → (∀ i (h : i < l.length), (C.drop (off + i * sz)).take sz = g l[i]) → (C.drop off).take (k * sz) = ((l.take k).map g).flatten
 | l, 0, _, _ => by simp
 | l, k + 1, hk, h => by
  have ih := rs_flatK l k (by omega) h
  rw [show l.take (k + 1) = l.take k ++ [l[k]'(by omega)] from List.take_succ_eq_append_getElem (by omega), Nat.add_mul, Nat.one_mul, List.take_add, ih, List.drop_drop, h k (by omega)]
  simp only [List.map_append, List.flatten_append, List.map_cons, List.map_nil, List.flatten_cons, List.flatten_nil, List.append_nil]
theorem aIn_ofK {ρ : Hp} {α : Type} {sz : Nat} {g : α → List Value} {P : α → Prop} {cs : List Value} {s : Option Addr × Nat × Nat × List α} (hg : ∀ x, (g x).length = sz) (h : RS ρ sz (fun cs x => cs = g x ∧ P x) cs s) : AIn ρ sz g s.1 s.2.1 s.2.2.2 ∧ (∀ x ∈ s.2.2.2, P x) ∧ s.2.1 ≤ s.2.2.1 ∧ s.2.1 ≤ 9223372036854775807 := by
 obtain ⟨a, n, c, ks⟩ := s
 obtain ⟨h1, h2, h3, h4, h5⟩ := h
 dsimp only at h1 h2 h3 h4 h5 ⊢
 refine ⟨⟨h4, ?_, fun x _ => hg x⟩, fun x hx => ?_, h2, by omega⟩
 ·by_cases h0 : n = 0
  ·exact .inl h0
  ·right
   obtain ⟨b, off, C, T, fr, e1, e2, e3, e4⟩ := h5 0 (by omega)
   have same : ∀ i (h : i < ks.length), off + i * sz + sz ≤ C.length ∧ (C.drop (off + i * sz)).take sz = g ks[i] := fun i hi => by
    obtain ⟨b', off', C', T', fr', f1, f2, f3, f4⟩ := h5 i hi
    rw [e1] at f1
    cases f1
    rw [e2] at f2
    cases f2
    exact ⟨f3, f4.1⟩
   refine ⟨b, off, C, T, fr, e1, e2, ?_, ?_⟩
   ·have := (same (n - 1) (by omega)).1
    have e : n * sz = (n - 1) * sz + sz := by
     obtain ⟨m, rfl⟩ : ∃ m, n = m + 1 := ⟨n - 1, by omega⟩
     rw [Nat.add_mul]; simp
    omega
   ·have := rs_flatK (sz := sz) (g := g) ks n (by omega) (fun i hi => (same i hi).2)
    rw [this, List.take_of_length_le (by omega)]
 ·obtain ⟨i, hi, rfl⟩ := List.mem_iff_getElem.1 hx
  obtain ⟨_, _, _, _, _, _, _, _, f⟩ := h5 i hi
  exact f.2
theorem Opn.mono {H : Type} {enc : TypeId × Value → H} {P : Program} {w : World} {t : TypeId} {α β : Type} {R : List Value → α → Prop} {R' : List Value → β → Prop} (h : Opn enc P w t R) (k : ∀ cs a, R cs a → ∃ b, R' cs b) : Opn enc P w t R' := fun fuel cs x hx => by
 obtain ⟨a, ha⟩ := h fuel cs x hx
 exact k cs a ha
end Go.Proofs.E
namespace Go.Proofs.E
open Go
set_option linter.unusedVariables false
set_option linter.unusedSimpArgs false
set_option linter.unusedSectionVars false
set_option maxRecDepth 4000
set_option maxHeartbeats 1000000
attribute [local irreducible] Yl TL TC TE Spec XM R1 Hp.le EnvLe TS TR YS Zo
theorem sIn_l {ρ : Hp} {b : Nat} {l : Bs} {T : TypeId} {fr : Nat × Nat} (h : ρ b = some (.cells ⟨l.map Zs⟩ T fr)) : SIn ρ Zs (some ⟨b, 0, none⟩) l.length l := ⟨rfl, .inr ⟨b, 0, _, _, _, rfl, h, by rw [List.drop_zero, List.take_of_length_le (by simp)]⟩⟩
theorem knew (ρ : Hp) (n : Nat) (h0 : 0 < n) (h1 : n ≤ 2048) : Spec Tryz.prog 6 [.int .i64 n] ρ [] (fun v ρ' L' => ρ' = ρ ∧ ∃ b k, v = .tuple ⟨[.pointer (some ⟨b, 0, none⟩), .int .i64 0]⟩ ∧ DOk k (DS.new n) ∧ L' = ZF b k (DS.new n)) :=
 (new_spec ρ n h0 h1).mono (fun v ρ' L' _ ⟨h1', b, hb, mb, ck, h2, h3⟩ => ⟨h1', b, ⟨hb, mb, [], ck⟩, h2, ⟨new_okD h0 h1, MapOk.empty fresh_empty⟩, h3⟩)
theorem klen (ρ : Hp) (b : Nat) (k : DK) (D : DS) : Spec Tryz.prog 50 [.pointer (some ⟨b, 0, none⟩)] ρ (ZF b k D) (fun v ρ' L' => v = .int .i64 (D.secs.length : Nat) ∧ ρ' = ρ ∧ L' = ZF b k D) := len_disk ρ b k.hb k.mb k.es k.ck D
theorem z8_take (n m : Nat) : ZP ((z8 n).take m) = 0 := by
 have : ∀ k, ZP (z8 k) = 0 := fun k => by
  induction k with
  | zero => rfl
  | succ k ih => simp only [z8, List.replicate_succ] at ih ⊢; rw [unbe_cons, ih]; simp
 simp only [z8, List.take_replicate]
 exact this _
theorem zblk_z : XL = z8 64 := rfl
theorem WQ {ρ : Hp} {b : Nat} {s : Bs} {T : TypeId} {fr : Nat × Nat} (h : ρ b = some (.cells ⟨s.map Zs⟩ T fr)) (lo' n : Nat) (hn : lo' + n ≤ s.length) : SIn ρ Zs (some ⟨b, lo', none⟩) n ((s.drop lo').take n) := by
 refine ⟨by simp; omega, .inr ⟨b, lo', _, _, _, rfl, h, by rw [List.map_take, List.map_drop]⟩⟩
theorem put32_spec (ρ : Hp) (a : Option Addr) (n c : Nat) (l : List UInt8) (h : SIn ρ Zs a n l) (x : Nat) (hx : x < 4294967296) (hn : n ≤ 1000000) :
  Spec Tryz.prog 59 [.slice a n c, .int .u32 x] ρ [] (fun v ρ' L' => ρ' = ρ ∧ ∃ sp, OwnS v (n + 4) ((l ++ be 4 x).map Zs) sp 1 ∧ L' = [Ye v ((l ++ be 4 x).map Zs) sp 5]) := by
 have hw : IntKind.u64.wrap (x : Int) = x := Wo (by simp only [lo, hi]; omega)
 have hs := stand_spec ρ a n c l h x 4 (by omega) (by omega) (by omega) hn
 refine Zf Tryz.func59 rfl rfl rfl fun u R => ?_
 simp only [Zv, List.cons_append, List.nil_append]
 repeat' (first | (refine iCv ?_; refine Yb (y_conv rfl) rfl rfl ?_; rw [hw]) | (refine Zd (.func 84) ?_; refine qC rfl rfl (hs) ?_; rintro v ρ' L' hle ⟨rfl, sp, hown, rfl⟩ <;> (try simp only [kM, kN, kO])) | (refine Zg ?_; first | (refine Ze ?_; refine qQ ?_) | refine Zj ?_) | refine Za ?_ | (refine Zh ?_; refine Zq ?_) | (refine Zi ?_; refine Zr ?_) | intro _)
 exact qE ⟨rfl, sp, hown, rfl⟩
structure SlD where
 stamp : Nat
 lsn : Nat
 c : Yr
 right : Bool
 most : Nat
def zSl : SlD := ⟨0, 0, ⟨0, [], []⟩, false, 0⟩
abbrev slV (s : SlD) (w : CV) : List Value := [.int .u64 s.stamp, .int .u64 s.lsn, .int .i64 s.c.kind, .slice w.ra w.rn w.rc, .slice w.ka w.kn w.kc, .bool s.right, .int .u64 s.most]
def WK (c : Yr) : Bs := fitB 84 (UInt8.ofNat (Yk c).length :: Yk c)
theorem dataB_len (c : Yr) : (WK c).length = 84 := fitB_len _ _
def bodyF (num st lsn : Nat) (c : Yr) (i : Nat) : Bs := UInt8.ofNat num :: UInt8.ofNat i :: (be 8 st ++ (be 8 lsn ++ ((WK c).drop (42 * i)).take 42))
def ZE (num st lsn : Nat) (c : Yr) (i : Nat) : Blk := bodyF num st lsn c i ++ be 4 (sumB (bodyF num st lsn c i))
theorem bodyF_len (num st lsn : Nat) (c : Yr) {i : Nat} (hi : i < 2) : (bodyF num st lsn c i).length = 60 := by
 simp [bodyF, ZJ, dataB_len]; omega
theorem Ya (num st lsn : Nat) (c : Yr) {i : Nat} (hi : i < 2) : (ZE num st lsn c i).length = 64 := by
 unfold ZE; rw [List.length_append, bodyF_len num st lsn c hi, ZJ]
theorem fit_lay {n : Nat} {l : Bs} (h : l.length ≤ n) : fitB n l = l ++ z8 (n - l.length) := by
 unfold fitB z8
 rw [List.take_append, List.take_of_length_le h, List.take_replicate]
 congr 2; omega
theorem data_lay {l : Bs} (x : UInt8) (h : l.length ≤ 83) : stc (stc ((z8 84).map Zs) (0 + Int.toNat 0 * 1) [Zs x]) 1 ((l.map Zs).take 83) = (fitB 84 (x :: l)).map Zs := by
 have e1 : stc ((z8 84).map Zs) (0 + Int.toNat 0 * 1) [Zs x] = Zs x :: List.replicate 83 (Zs 0) := by simp [stc, z8]
 have e2 : ∀ m, List.drop (1 + m) (Zs x :: List.replicate 83 (Zs 0)) = List.replicate (83 - m) (Zs 0) := fun m => by rw [Nat.add_comm, List.drop_succ_cons, List.drop_replicate]
 rw [e1, fit_lay (by simp; omega), List.take_of_length_le (by simp; omega)]
 unfold stc
 rw [e2]
 simp [z8]
def outF (num st lsn : Nat) (c : Yr) (i : Nat) : Bs := (List.range i).flatMap (ZE num st lsn c) ++ z8 (128 - 64 * i)
theorem outF_one (num st lsn : Nat) (c : Yr) : outF num st lsn c 1 = ZE num st lsn c 0 ++ z8 64 := by simp [outF]
theorem outF_two (num st lsn : Nat) (c : Yr) : outF num st lsn c 2 = ZE num st lsn c 0 ++ ZE num st lsn c 1 := by
 rw [outF, show List.range 2 = [0, 1] from rfl]; simp [z8]
theorem outF_len (num st lsn : Nat) (c : Yr) {i : Nat} (hi : i ≤ 2) : (outF num st lsn c i).length = 128 := by
 rcases (show i = 0 ∨ i = 1 ∨ i = 2 by omega) with rfl | rfl | rfl
 ·simp [outF, z8]
 ·rw [outF_one, List.length_append, Ya _ _ _ _ (by omega)]; simp [z8]
 ·rw [outF_two, List.length_append, Ya _ _ _ _ (by omega), Ya _ _ _ _ (by omega)]
theorem outF_lay (num st lsn : Nat) (c : Yr) {i : Nat} (hi : i < 2) : stc ((outF num st lsn c i).map Zs) (0 + i * 64) (((ZE num st lsn c i).map Zs).take 64) = (outF num st lsn c (i + 1)).map Zs := by
 have hp := Ya num st lsn c hi
 rw [List.take_of_length_le (by simp; omega)]
 rcases (show i = 0 ∨ i = 1 by omega) with rfl | rfl
 ·rw [outF_one]
  simp only [outF, List.range_zero, List.flatMap_nil, List.nil_append, stc]
  simp [z8, hp]
 ·rw [outF_one, outF_two]
  have h0 := Ya num st lsn c (i := 0) (by omega)
  simp only [stc, List.map_append]
  rw [List.take_left' (by simp [h0]), List.drop_eq_nil_of_le (by simp [h0, hp, z8])]
  simp
theorem Wu (ρ : Hp) (num : Nat) (hnum : num < 64) (s : SlD) (w : CV) (h : CIn ρ w s.c.rows s.c.kids) (hok : ZN s.c = true) (hir : ∀ r ∈ s.c.rows, r.id < 65536) (hik : ∀ k ∈ s.c.kids, k.id < 65536) (hst : s.stamp < 18446744073709551616) (hls : s.lsn < 18446744073709551616) :
  Spec Tryz.prog 31 [.int .i64 num, .agg ⟨slV s w⟩] ρ [] (fun v ρ' L' => v = .agg ⟨(ZE num s.stamp s.lsn s.c 0 ++ ZE num s.stamp s.lsn s.c 1).map Zs⟩ ∧ ρ.le ρ' ∧ L' = []) := by
 have hce := contE_spec ρ w s.c h hir hik
 rw [hok] at hce
 simp only [if_true] at hce
 refine Zf Tryz.func31 rfl rfl rfl fun u R => ?_
 simp only [Zv, List.cons_append, List.nil_append]
 repeat' (first | (refine Zd (.func 57) ?_; refine qC rfl rfl (hce) ?_; rintro v ρ' L' hle ⟨hl1, xa, xn, xc, rfl, hxc, hxs, rfl⟩ <;> (try simp only [kM, kN, kO])) | (refine Zg ?_; first | (refine Ze ?_; refine qQ ?_) | refine Zj ?_) | refine Za ?_ | (refine Zh ?_; refine Zq ?_) | (refine Zi ?_; refine Zr ?_) | intro _)
 have hxl := hxs.len
 have h82 := contB_len hok
 have hlb := lenB (n := xn) (by omega)
 have hdl := data_lay (l := Yk s.c) (UInt8.ofNat xn) (by omega)
 rename_i b3 b4
 repeat' (first | (refine tl_makeSlice rfl rfl (by omega) (by omega) (by omega) (by omega) rfl (fun hbn => ?_); simp only [Nat.mul_one, made_z8]) | (refine Zg ?_; first | (refine Ze ?_; refine qQ ?_) | refine Zj ?_) | refine Za ?_ | (refine Zh ?_; refine Zq ?_) | (refine Zi ?_; refine Zr ?_) | intro _)
 simp only [show (Int.toNat 84 = Int.toNat 1) = False from eq_false (by decide), if_false, Option.map_some, Xm, hlb]
 refine tl_copy (ys := (Yk s.c).map Zs) rfl rfl (SIn.srcV hxs) (by simpa using hxl) (ZI _) (by simp [stc, z8]; omega) rfl ?_
 rw [show Int.toNat 84 - Int.toNat 1 = 83 from rfl, show 0 + Int.toNat 1 * 1 = 1 from rfl, show Int.toNat 84 = 84 from rfl, hdl, show fitB 84 (UInt8.ofNat xn :: Yk s.c) = WK s.c by rw [← hxl]; rfl]
 refine Xe [(hbn, .cells ⟨(WK s.c).map Zs⟩ 5 (0, 0))] (h := Rem.here) (fun ρ2 hl2 hfz => ?_)
 have hdn := hfz _ (List.mem_singleton.2 rfl)
 have hdt := sIn_l hdn
 rw [dataB_len] at hdt
 repeat' (first | (refine Zg ?_; first | (refine Ze ?_; refine qQ ?_) | refine Zj ?_) | refine Za ?_ | (refine Zh ?_; refine Zq ?_) | (refine Zi ?_; refine Zr ?_) | intro _)
 refine ZB [(0, _), (3, _), (4, _), (7, _)] (fun (ζ : (Nat) × (Hp)) => [(26, .int .i64 ζ.1)]) (fun (ζ : (Nat) × (Hp)) => ζ.2) (fun (ζ : (Nat) × (Hp)) => [[(b4, .cells ⟨(outF num s.stamp s.lsn s.c ζ.1).map Zs⟩ 52 (0, 0))], [(b3, .cells ⟨slV s w⟩ 78 (0, 0))]]) (fun (ζ : (Nat) × (Hp)) => ζ.1 ≤ 2 ∧ ρ2.le ζ.2) (fun (ζ : (Nat) × (Hp)) => 2 - ζ.1) ((0, ρ2)) (⟨Nat.zero_le _, Hp.le_refl _⟩) Zm Zm rfl tk ?_
 rintro ⟨i, ρ3⟩ hI
 try simp only [List.cons_append, List.nil_append, List.append_assoc, List.append_eq] at hI ⊢
 try dsimp only at hI ⊢
 obtain ⟨hi, hl3⟩ := hI
 by_cases hlt : i < 2
 ·have hsub := (hdt.mono hl3).sub (lo' := i * 42) (hi' := (i + 1) * 42) (by omega) (by omega) (cap := 84) (by omega)
  have hbn8 := lenB (n := num) (by omega)
  have hbi8 := lenB (n := i) (by omega)
  have hbl := bodyF_len num s.stamp s.lsn s.c hlt
  have hpl := Ya num s.stamp s.lsn s.c hlt
  have hol := outF_lay num s.stamp s.lsn s.c hlt
  have hoL := outF_len num s.stamp s.lsn s.c hi
  repeat' (first | (refine Zg ?_; first | (refine Ze ?_; refine qQ ?_) | refine Zj ?_) | refine Za ?_ | (refine Zh ?_; refine Zq ?_) | (refine Zi ?_; refine Zr ?_) | intro _)
  refine ZD (Zo _ _ ([[(b3, .cells ⟨slV s w⟩ 78 (0, 0))]])) (Zx (hT := tk) (Hp.le_refl _)) ?_
  all_goals (refine ZO 0 ?_; refine rCv 1 ?_; refine ZO 2 ?_; refine rCv 3 ?_; refine rFa 5 ?_; refine rLd 6 ?_; refine rFa 8 ?_; refine rLd 9 ?_)
  all_goals (refine Zn (i := 4) ?_; ((try refine Zk ?_); (first | (simp only [hbn8, hbi8]; refine ZC rfl rfl rfl rfl (by simp) rfl rfl (fun hb8 => ?_); refine Xe [(hb8, .cells ⟨[UInt8.ofNat num, UInt8.ofNat i].map Zs⟩ 5 (0, 0))] (h := Rem.here) (fun ρ4 hl4 hfz4 => ?_); have hs4 := sIn_l (hfz4 _ (List.mem_singleton.2 rfl))) | (refine Zj ?_; try intro _)) <;> ((try simp only [kM, kN, kO]); refine Za ?_; refine Zl ?_)))
  all_goals (refine Zn (i := 7) ?_; ((try refine Zk ?_); (first | (refine Zd (.func 58) ?_; refine qC rfl rfl (put64_spec _ _ _ _ _ hs4 s.stamp hst (by simp)) ?_; rintro v5 ρ5 L5 hle5 ⟨rfl, sp5, hown5, rfl⟩; simp only [List.cons_append, List.nil_append]; refine Xe _ (h := Rem.here) (fun ρ6 hl6 hfz6 => ?_); obtain ⟨a6, c6, rfl, hc6, hs6⟩ := hown5.sIn hfz6) | (refine Zd (.func 58) ?_; refine qC rfl rfl (put64_spec _ _ _ _ _ hs6 s.lsn hls (by simp)) ?_; rintro v7 ρ7 L7 hle7 ⟨rfl, sp7, hown7, rfl⟩; simp only [List.cons_append, List.nil_append]) | (refine Zj ?_; try intro _)) <;> ((try simp only [kM, kN, kO]); refine Za ?_; refine Zl ?_)))
  all_goals (refine Zn (i := 10) ?_; ((try refine Zk ?_); (first | (refine Zd (.func 58) ?_; refine qC rfl rfl (put64_spec _ _ _ _ _ hs4 s.stamp hst (by simp)) ?_; rintro v5 ρ5 L5 hle5 ⟨rfl, sp5, hown5, rfl⟩; simp only [List.cons_append, List.nil_append]; refine Xe _ (h := Rem.here) (fun ρ6 hl6 hfz6 => ?_); obtain ⟨a6, c6, rfl, hc6, hs6⟩ := hown5.sIn hfz6) | (refine Zd (.func 58) ?_; refine qC rfl rfl (put64_spec _ _ _ _ _ hs6 s.lsn hls (by simp)) ?_; rintro v7 ρ7 L7 hle7 ⟨rfl, sp7, hown7, rfl⟩; simp only [List.cons_append, List.nil_append]) | (refine Zj ?_; try intro _)) <;> ((try simp only [kM, kN, kO]); refine Za ?_; refine Zl ?_)))
  all_goals (refine ZR ?_; refine rAs 11 ?_; refine ZH ?_)
  have hown7' : OwnS v7 18 ((UInt8.ofNat num :: UInt8.ofNat i :: (be 8 s.stamp ++ be 8 s.lsn)).map Zs) sp7 1 := hown7
  have h60 : 18 + ((i + 1) * 42 - i * 42) = 60 := by omega
  have hq1 : ((i : Int) * 42).toNat = i * 42 := by omega
  have hq2 : (((i : Int) + 1) * 42).toNat = (i + 1) * 42 := by omega
  have hbody : (UInt8.ofNat num :: UInt8.ofNat i :: (be 8 s.stamp ++ be 8 s.lsn)).map Zs ++ (((WK s.c).drop (i * 42)).take ((i + 1) * 42 - i * 42)).map Zs = (bodyF num s.stamp s.lsn s.c i).map Zs := by
   rw [show (i + 1) * 42 - i * 42 = 42 by omega, Nat.mul_comm i 42, ← List.map_append]
   congr 1
  have hl37 : ρ3.le ρ7 := Hp.le_trans hl4 hl6
  repeat' (first | (simp only [hq1, hq2]; refine Yh (m := (i + 1) * 42 - i * 42) (sz := 1) rfl rfl hown7' (hR := by infer_instance) (SIn.srcV (hsub.mono hl37)) (by simp [dataB_len]; omega) (ZI _) (by decide) rfl (by omega) (by omega) rfl (fun v8 sp8 hown8 => ?_); rw [hbody] at hown8 ⊢; refine Xe (Ye v8 ((bodyF num s.stamp s.lsn s.c i).map Zs) sp8 5) (h := by infer_instance) (fun ρ8 hl8 hfz8 => ?_); obtain ⟨a8, c8, rfl, hc8, hs8⟩ := hown8.sIn hfz8; simp only [h60] at hs8 hc8 hown8 ⊢) | (refine Zg ?_; first | (refine Ze ?_; refine qQ ?_) | refine Zj ?_) | refine Za ?_ | (refine Zh ?_; refine Zq ?_) | (refine Zi ?_; refine Zr ?_) | intro _)
  refine ZD (Zo _ _ ([])) (Zx (hT := tk) (Hp.le_refl _)) ?_
  all_goals (refine ZO 0 ?_; refine rIa 1 ?_; refine rSl 2 ?_; refine ZO 3 ?_; refine ZO 4 ?_)
  all_goals (refine Zn (i := 5) ?_; ((try refine Zk ?_); (first | (refine Zd (.func 60) ?_; refine qC rfl rfl (sum32_spec _ a8 60 c8 _ hs8 (by omega)) ?_; rintro v ρ' L' hle ⟨rfl, rfl, rfl⟩ <;> (try simp only [kM, kN, kO])) | (refine Zj ?_; try intro _)) <;> ((try simp only [kM, kN, kO]); refine Za ?_; refine Zl ?_)))
  all_goals (refine Zn (i := 6) ?_; ((try refine Zk ?_); (first | (refine Zd (.func 59) ?_; refine qC rfl rfl (put32_spec _ a8 60 c8 _ hs8 (sumB (bodyF num s.stamp s.lsn s.c i)) (sumB_lt _) (by omega)) ?_; rintro v9 ρ9 L9 hle9 ⟨rfl, sp9, hown9, rfl⟩; simp only [List.cons_append, List.nil_append]; refine Xe _ (h := Rem.here) (fun ρ10 hl10 hfz10 => ?_); obtain ⟨a10, c10, rfl, hc10, hs10⟩ := hown9.sIn hfz10) | (refine Zj ?_; try intro _)) <;> ((try simp only [kM, kN, kO]); refine Za ?_; refine Zl ?_)))
  all_goals (refine Zn (i := 7) ?_; ((try refine Zk ?_); (first | ((try simp only [Int.toNat_natCast]); refine tl_copy (ys := (ZE num s.stamp s.lsn s.c i).map Zs) rfl rfl (SIn.srcV hs10) (by simp [hpl]) (ZI _) (by simp [hoL]; omega) rfl ?_; simp only [hol]) | (refine Zj ?_; try intro _)) <;> ((try simp only [kM, kN, kO]); refine Za ?_; refine Zl ?_)))
  all_goals refine ZH ?_
  all_goals (repeat' (first | (refine Zg ?_; first | (refine Ze ?_; refine qQ ?_) | refine Zj ?_) | refine Za ?_ | (refine Zh ?_; refine Zq ?_) | (refine Zi ?_; refine Zr ?_) | intro _))
  all_goals refine Zp (i + 1, _) (⟨hlt, Hp.le_trans hl3 (Hp.le_trans hl37 (Hp.le_trans hl8 hl10))⟩) Zm Zm rfl tk inferInstance (by first | omega | (dsimp only; omega))
 ·have h2 : i = 2 := by omega
  subst h2
  have hL2 : ((outF num s.stamp s.lsn s.c 2).map Zs).length = 128 := by rw [List.length_map]; exact outF_len _ _ _ _ (by omega)
  rw [outF_two] at hL2 ⊢
  have hL1 := ZI (ZE num s.stamp s.lsn s.c 0 ++ ZE num s.stamp s.lsn s.c 1)
  repeat' (first | (refine Zg ?_; first | (refine Ze ?_; refine qQ ?_) | refine Zj ?_) | refine Za ?_ | (refine Zh ?_; refine Zq ?_) | (refine Zi ?_; refine Zr ?_) | intro _)
  have hfin := Hp.le_trans hl1 (Hp.le_trans hl2 hl3)
  exact qE (L' := []) ⟨rfl, hfin, rfl⟩
theorem fit_at {X : Bs} {n k : Nat} (h : X.length + k = n) : X ++ z8 k = fitB n X := by rw [fit_lay (by omega), show n - X.length = k by omega]
theorem z8_snoc (X : Bs) (k : Nat) : (X ++ z8 k).map Zs ++ [Zs 0] = (X ++ z8 (k + 1)).map Zs := by simp [z8, List.replicate_succ']
theorem sumO14_spec (ρ : Hp) (v : Value) (n : Nat) (l : Bs) (sp : List Value) (h : OwnS v n (l.map Zs) sp 1) (hn : n ≤ 1000) :
  Spec Tryz.prog 39 [v] ρ [Ye v (l.map Zs) sp 5] (fun z ρ' L' => z = .int .u32 (sumB l : Nat) ∧ ρ' = ρ ∧ L' = [Ye v (l.map Zs) sp 5]) := by
 refine (Spec.thaw (C := [Ye v (l.map Zs) sp 5]) (L := []) (Post := fun z L' => z = .int .u32 (sumB l : Nat) ∧ L' = []) (fun ρ1 hle hf => ?_)).mono ?_
 ·obtain ⟨a1, c1, rfl, hc1, hs1⟩ := h.sIn (fun p hp => hf p (by simpa using hp))
  exact (Sum32_spec ρ1 a1 n c1 l hs1 hn).mono (fun z ρ' L' _ ⟨h1, h2, h3⟩ => ⟨h2, h1, h3⟩)
 ·rintro z ρ' L' _ ⟨h1, L2, ⟨h2, rfl⟩, h3⟩
  exact ⟨h2, h1, h3⟩
theorem parts14_spec (ρ : Hp) (num : Nat) (hnum : num < 64) (st lsn : Nat) (hst : st < 18446744073709551616) (hls : lsn < 18446744073709551616) (w : CV) (c : Yr) (h : CIn ρ w c.rows c.kids) (hok : ZN c = true) (hir : ∀ r ∈ c.rows, r.id < 65536) (hik : ∀ k ∈ c.kids, k.id < 65536) :
  Spec Tryz.prog 19 [.int .i64 num, .int .u64 st, .int .u64 lsn, .agg ⟨Yt c.kind w⟩] ρ [] (fun v ρ' L' => v = .agg ⟨(ZE num st lsn c 0 ++ ZE num st lsn c 1).map Zs⟩ ∧ ρ.le ρ' ∧ L' = []) := by
 have hby := bytesR_spec ρ w c h hok hir hik
 refine Zf Tryz.func19 rfl rfl rfl fun u R => ?_
 simp only [Zv, List.cons_append, List.nil_append]
 repeat' (first | (refine Zd (.func 41) ?_; refine qC rfl rfl (hby) ?_; rintro v ρ' L' hle ⟨hl1, xa, xn, xc, rfl, hxc, hxs, rfl⟩ <;> (try simp only [kM, kN, kO])) | (refine Zg ?_; first | (refine Ze ?_; refine qQ ?_) | refine Zj ?_) | refine Za ?_ | (refine Zh ?_; refine Zq ?_) | (refine Zi ?_; refine Zr ?_) | intro _)
 have hxl := hxs.len
 have h82 := contB_len hok
 have hlb : Value.int .u8 (IntKind.u8.wrap (xn : Int)) = Zs (UInt8.ofNat xn) := by rw [Wo (by simp only [lo, hi]; omega)]; exact lenB (by omega)
 have hln : Value.int .u8 (num : Int) = Zs (UInt8.ofNat num) := lenB (by omega)
 rename_i b7 b8
 repeat' (first | (refine ZC rfl rfl rfl rfl (by simp) rfl rfl (fun hb1 => ?_); rw [hlb]; rw [show ([(hb1, Obj.cells ⟨[Zs (UInt8.ofNat xn)]⟩ 5 (0, 0))] : List (Nat × Obj)) = Ye (.slice (some ⟨hb1, 0, none⟩) 1 1) ([UInt8.ofNat xn].map Zs) [] 5 from rfl]; have hown0 : OwnS (.slice (some ⟨hb1, 0, none⟩) 1 1) 1 ([UInt8.ofNat xn].map Zs) [] 1 := ⟨.inr ⟨hb1, 1, rfl, rfl, rfl, Nat.le_refl _⟩⟩; generalize Value.slice (some ⟨hb1, 0, none⟩) 1 1 = v0 at *) | (refine Yh (ys := (Yk c).map Zs) (m := xn) rfl rfl hown0 (hR := by infer_instance) (SIn.srcV hxs) (by simpa using hxl) (ZI _) (by decide) rfl (by omega) (by omega) rfl (fun v1 sp1 hown1 => ?_); rw [show [UInt8.ofNat xn].map Zs ++ (Yk c).map Zs = ((UInt8.ofNat xn :: Yk c) ++ z8 0).map Zs by simp [z8]] at hown1 ⊢) | (refine Zg ?_; first | (refine Ze ?_; refine qQ ?_) | refine Zj ?_) | refine Za ?_ | (refine Zh ?_; refine Zq ?_) | (refine Zi ?_; refine Zr ?_) | intro _)
 have hXl : (UInt8.ofNat xn :: Yk c).length = xn + 1 := by simp [hxl]
 have hdc : ∀ k, xn + 1 + k = 84 → (UInt8.ofNat xn :: Yk c) ++ z8 k = WK c := fun k e => by rw [fit_at (n := 84) (by omega)]; unfold WK; rw [hxl]
 generalize UInt8.ofNat xn :: Yk c = X at *
 refine ZB [(0, _), (1, _), (2, _), (8, _)] (fun (ζ : (Nat) × (Value) × (List Value)) => [(10, ζ.2.1)]) (fun (ζ : (Nat) × (Value) × (List Value)) => ρ') (fun (ζ : (Nat) × (Value) × (List Value)) => [Ye ζ.2.1 ((X ++ z8 ζ.1).map Zs) ζ.2.2 5]) (fun (ζ : (Nat) × (Value) × (List Value)) => xn + 1 + ζ.1 ≤ 84 ∧ OwnS ζ.2.1 (xn + 1 + ζ.1) ((X ++ z8 ζ.1).map Zs) ζ.2.2 1) (fun (ζ : (Nat) × (Value) × (List Value)) => 84 - ζ.1) ((0, v1, sp1)) (⟨by omega, by rw [Nat.add_zero, Nat.add_comm]; exact hown1⟩) Zm Zm rfl tk ?_
 rintro ⟨k, v, sp⟩ hI
 try simp only [List.cons_append, List.nil_append, List.append_assoc, List.append_eq] at hI ⊢
 try dsimp only at hI ⊢
 obtain ⟨hk, hown⟩ := hI
 obtain ⟨va, vc, rfl, _⟩ := hown.slice
 by_cases hk4 : xn + 1 + k < 84
 ·repeat' (first | (refine ZC rfl rfl rfl rfl (by simp) rfl rfl (fun _ => ?_)) | (refine Yh (ys := [Zs 0]) (m := 1) rfl rfl hown (hR := by infer_instance) SrcV.lit rfl rfl (by decide) rfl (by omega) (by omega) rfl (fun v2 sp2 hown2 => ?_); rw [z8_snoc] at hown2 ⊢) | (refine Zg ?_; first | (refine Ze ?_; refine qQ ?_) | refine Zj ?_) | refine Za ?_ | (refine Zh ?_; refine Zq ?_) | (refine Zi ?_; refine Zr ?_) | intro _)
  refine Zp (k + 1, v2, sp2) (⟨by omega, hown2⟩) Zm Zm rfl tk inferInstance (by first | omega | (dsimp only; omega))
 ·repeat' (first | (refine Zg ?_; first | (refine Ze ?_; refine qQ ?_) | refine Zj ?_) | refine Za ?_ | (refine Zh ?_; refine Zq ?_) | (refine Zi ?_; refine Zr ?_) | intro _)
  rename_i b11
  have hcd : xn + 1 + k = 84 := by omega
  rw [hdc k hcd] at hown ⊢
  refine Wf (Ye (.slice va (xn + 1 + k) vc) ((WK c).map Zs) sp 5) (h := by infer_instance) (fun ρ2 hl2 hfz => ?_)
  obtain ⟨a2, c2, e2, hc2, hs2⟩ := hown.sIn hfz
  cases e2
  rw [hcd] at hs2 hc2 ⊢
  refine ZB [(0, _), (1, _), (2, _), (8, _), (10, _), (11, _)] (fun (ζ : (Nat) × (Hp)) => [(28, .int .i64 ζ.1)]) (fun (ζ : (Nat) × (Hp)) => ζ.2) (fun (ζ : (Nat) × (Hp)) => [[(b11, .cells ⟨(outF num st lsn c ζ.1).map Zs⟩ 52 (0, 0))]]) (fun (ζ : (Nat) × (Hp)) => ζ.1 ≤ 2 ∧ ρ2.le ζ.2) (fun (ζ : (Nat) × (Hp)) => 2 - ζ.1) ((0, ρ2)) (⟨Nat.zero_le _, Hp.le_refl _⟩) Zm Zm rfl tk ?_
  rintro ⟨i, ρ3⟩ hI
  try simp only [List.cons_append, List.nil_append, List.append_assoc, List.append_eq] at hI ⊢
  try dsimp only at hI ⊢
  obtain ⟨hi, hl3⟩ := hI
  by_cases hlt : i < 2
  ·have hsub := (hs2.mono hl3).sub (lo' := i * 42) (hi' := (i + 1) * 42) (by omega) (by omega) (cap := vc) (by omega)
   have hli : Value.int .u8 (i : Int) = Zs (UInt8.ofNat i) := lenB (by omega)
   have hbl := bodyF_len num st lsn c hlt
   have hpl := Ya num st lsn c hlt
   have hol := outF_lay num st lsn c hlt
   have hoL := outF_len num st lsn c hi
   have hq1 : ((i : Int) * 42).toNat = i * 42 := by omega
   have hq2 : (((i : Int) + 1) * 42).toNat = (i + 1) * 42 := by omega
   have hbody : (UInt8.ofNat num :: UInt8.ofNat i :: (be 8 st ++ be 8 lsn)).map Zs ++ (((WK c).drop (i * 42)).take ((i + 1) * 42 - i * 42)).map Zs = (bodyF num st lsn c i).map Zs := by
    rw [show (i + 1) * 42 - i * 42 = 42 by omega, Nat.mul_comm i 42, ← List.map_append]
    congr 1
   have hAB : [UInt8.ofNat num, UInt8.ofNat i].map Zs ++ (be 8 st).map Zs = (UInt8.ofNat num :: UInt8.ofNat i :: be 8 st).map Zs := by simp
   have hBC : (UInt8.ofNat num :: UInt8.ofNat i :: be 8 st).map Zs ++ (be 8 lsn).map Zs = (UInt8.ofNat num :: UInt8.ofNat i :: (be 8 st ++ be 8 lsn)).map Zs := by simp
   have hpp : (bodyF num st lsn c i).map Zs ++ (be 4 (sumB (bodyF num st lsn c i))).map Zs = (ZE num st lsn c i).map Zs := by rw [← List.map_append]; rfl
   repeat' (first | (simp only [hln, hli]; refine ZC rfl rfl rfl rfl (by simp) rfl rfl (fun hb2 => ?_); rw [show ([(hb2, Obj.cells ⟨[Zs (UInt8.ofNat num), Zs (UInt8.ofNat i)]⟩ 5 (0, 0))] : List (Nat × Obj)) = Ye (.slice (some ⟨hb2, 0, none⟩) 2 2) ([UInt8.ofNat num, UInt8.ofNat i].map Zs) [] 5 from rfl]; have hownA : OwnS (.slice (some ⟨hb2, 0, none⟩) 2 2) 2 ([UInt8.ofNat num, UInt8.ofNat i].map Zs) [] 1 := ⟨.inr ⟨hb2, 2, rfl, rfl, rfl, Nat.le_refl _⟩⟩; generalize Value.slice (some ⟨hb2, 0, none⟩) 2 2 = vA at *) | (refine Zg ?_; first | (refine Ze ?_; refine qQ ?_) | refine Zj ?_) | refine Za ?_ | (refine Zh ?_; refine Zq ?_) | (refine Zi ?_; refine Zr ?_) | intro _)
   obtain ⟨aA, cA, rfl, _⟩ := hownA.slice
   repeat' (first | (refine Zd (.func 42) ?_; refine qC rfl rfl (high14_spec _ st 8 hst (by omega)) ?_; rintro v4 ρ4 L4 hle4 ⟨hl4, a4, c4, rfl, hc4, hs4, rfl⟩; simp only [List.cons_append, List.nil_append]) | (refine Yh (ys := (be 8 st).map Zs) (m := 8) rfl rfl hownA (hR := by infer_instance) (SIn.srcV hs4) (by simp [ZJ]) (ZI _) (by decide) rfl (by omega) (by omega) rfl (fun vB spB hownB => ?_); rw [hAB] at hownB ⊢) | (refine Zg ?_; first | (refine Ze ?_; refine qQ ?_) | refine Zj ?_) | refine Za ?_ | (refine Zh ?_; refine Zq ?_) | (refine Zi ?_; refine Zr ?_) | intro _)
   obtain ⟨aB, cB, rfl, _⟩ := hownB.slice
   repeat' (first | (refine Zd (.func 42) ?_; refine qC rfl rfl (high14_spec _ lsn 8 hls (by omega)) ?_; rintro v5 ρ5 L5 hle5 ⟨hl5, a5, c5, rfl, hc5, hs5, rfl⟩; simp only [List.cons_append, List.nil_append]) | (refine Yh (ys := (be 8 lsn).map Zs) (m := 8) rfl rfl hownB (hR := by infer_instance) (SIn.srcV hs5) (by simp [ZJ]) (ZI _) (by decide) rfl (by omega) (by omega) rfl (fun vC spC hownC => ?_); rw [hBC] at hownC ⊢) | (refine Zg ?_; first | (refine Ze ?_; refine qQ ?_) | refine Zj ?_) | refine Za ?_ | (refine Zh ?_; refine Zq ?_) | (refine Zi ?_; refine Zr ?_) | intro _)
   obtain ⟨aC, cC, rfl, _⟩ := hownC.slice
   have hsl := sumB_lt (bodyF num st lsn c i)
   have hl35 : ρ3.le ρ5 := Hp.le_trans hl4 hl5
   have h60 : 2 + 8 + 8 + ((i + 1) * 42 - i * 42) = 60 := by omega
   repeat' (first | (simp only [hq1, hq2]; refine Yh (m := (i + 1) * 42 - i * 42) (sz := 1) rfl rfl hownC (hR := by infer_instance) (SIn.srcV (hsub.mono hl35)) (by simp [dataB_len]; omega) (ZI _) (by decide) rfl (by omega) (by omega) rfl (fun vD spD hownD => ?_); rw [hbody] at hownD ⊢; rw [h60] at hownD; obtain ⟨aD, cD, rfl, _⟩ := hownD.slice) | (refine Zd (.func 39) ?_; refine qC rfl rfl (sumO14_spec _ _ 60 _ spD hownD (by omega)) ?_; rintro v ρ' L' hle ⟨rfl, rfl, rfl⟩ <;> (try simp only [kM, kN, kO])) | (refine Zd (.func 42) ?_; refine qC rfl rfl (high14_spec _ (sumB (bodyF num st lsn c i)) 4 (by have := sumB_lt (bodyF num st lsn c i); omega) (by omega)) ?_; rintro v7 ρ7 L7 hle7 ⟨hl7, a7, c7, rfl, hc7, hs7, rfl⟩; simp only [List.cons_append, List.nil_append]) | (refine Yh (ys := (be 4 (sumB (bodyF num st lsn c i))).map Zs) (m := 4) rfl rfl hownD (hR := by infer_instance) (SIn.srcV hs7) (by simp [ZJ]) (ZI _) (by decide) rfl (by omega) (by omega) rfl (fun vE spE hownE => ?_); rw [hpp] at hownE ⊢; refine Xe (Ye vE ((ZE num st lsn c i).map Zs) spE 5) (h := by infer_instance) (fun ρ8 hl8 hfz8 => ?_); obtain ⟨a8, c8, rfl, hc8, hs8⟩ := hownE.sIn hfz8) | ((try simp only [Int.toNat_natCast]); refine tl_copy (ys := (ZE num st lsn c i).map Zs) rfl rfl (SIn.srcV hs8) (by simp [hpl]) (ZI _) (by simp [hoL]; omega) rfl ?_; simp only [hol]) | (refine Zg ?_; first | (refine Ze ?_; refine qQ ?_) | refine Zj ?_) | refine Za ?_ | (refine Zh ?_; refine Zq ?_) | (refine Zi ?_; refine Zr ?_) | intro _)
   refine Zp (i + 1, _) (⟨hlt, Hp.le_trans hl3 (Hp.le_trans hl35 (Hp.le_trans hl7 hl8))⟩) Zm Zm rfl tk inferInstance (by first | omega | (dsimp only; omega))
  ·have h2 : i = 2 := by omega
   subst h2
   have hL2 : ((outF num st lsn c 2).map Zs).length = 128 := by rw [List.length_map]; exact outF_len _ _ _ _ (by omega)
   rw [outF_two] at hL2 ⊢
   have hL1 := ZI (ZE num st lsn c 0 ++ ZE num st lsn c 1)
   repeat' (first | (refine Zg ?_; first | (refine Ze ?_; refine qQ ?_) | refine Zj ?_) | refine Za ?_ | (refine Zh ?_; refine Zq ?_) | (refine Zi ?_; refine Zr ?_) | intro _)
   have hfin := Hp.le_trans hl1 (Hp.le_trans hl2 hl3)
   exact qE (L' := []) ⟨rfl, hfin, rfl⟩
end Go.Proofs.E
