/-
  No cell of these rows narrows 'for every input' (looked for: loops, veiled, ifaces, maps, wideKeys, modest, calm, conditions, laid).
  DERIVED. THE GIVEN ROWS OF THIS SEAT. 12 by the template 'for every input the law returns true; each argument reads behind the call as it read before'; 0 by the template 'total and deterministic' (their statements: YtkgenlmcdbafmaaTotals.lean).
  GIVEN WITH THE SEED: the statements are not yours to turn. If you find one false, say at which input.
  Laid BY PROGRAM, IN A SANDBOX (cutbox-rows.mjs): the forced cells as the released guide's own fill.sh prints them over the translation 02f798639bd2fa98… (all of the seat's roots in one cut). By AI agents, Wed Nov 11 2026. No macro, syntax, notation, axiom, sorry.
-/
import Derived.Test.YtkgenlmcdbafmaaChecked
import GoSem.Claim
import GoSem.ClaimJoined
import GoSem.ClaimMapViews
import Derived.JoinedTies
import Derived.KernelRfl
namespace Go.Proofs.Ytkgenlmcdbafmaa
/- THE CELL 'sum', in the pinned program and in every row, IS THE sha256 OF THE DUMP (.gsa) THAT YtkgenlmcdbafmaaProg.lean LOADS. Nothing in Lean hashes anything: it is a label: what it is worth is what the hold of that sum in a sandbox is worth. -/
noncomputable def Try.pinned : Pinned := { name := "ytkgenlmcdbafmaa", sum := "02f798639bd2fa98623612ebb77fd67eb71e1f4c1aadfddb93cc6724ffa5d6e0", checked := Try.checked }
namespace Rows
def none {H : Type} : Left H := { results := [], args := [] }

/-- 'bursarylaw06.CodecTaken': WHATEVER THE INPUT: true; the input reads as it did. -/
def codecTakenSpec : ChangeSpec := { name := "codecTaken", fn := fun _ => fun
  | [d] => { results := [.lit (.bool true)], args := [d] }
  | _ => none }
def codecTakenRow : OpenClaim := { program := "ytkgenlmcdbafmaa", sum := "02f798639bd2fa98623612ebb77fd67eb71e1f4c1aadfddb93cc6724ffa5d6e0", func := "bursary/bursarylaw06.CodecTaken", spec := "codecTaken", unfollowed := true, recurses := true, apart := false }
def CodecTakenSaid : Prop := codecTakenRow.holds Try.pinned (OpenSpec.ofChange codecTakenSpec)

/-- ITS FALSE NEIGHBOUR: 'it returns false'. Refute it at one input. -/
def codecTakenWrong : ChangeSpec := { name := "codecTaken", fn := fun _ => fun
  | [d] => { results := [.lit (.bool false)], args := [d] }
  | _ => none }
def CodecTakenWrongFalsely : Prop := codecTakenRow.holds Try.pinned (OpenSpec.ofChange codecTakenWrong)

/-- 'bursarylaw04.RingRoom': WHATEVER THE INPUT: true; the input reads as it did. -/
def ringRoomSpec : ChangeSpec := { name := "ringRoom", fn := fun _ => fun
  | [d] => { results := [.lit (.bool true)], args := [d] }
  | _ => none }
def ringRoomRow : OpenClaim := { program := "ytkgenlmcdbafmaa", sum := "02f798639bd2fa98623612ebb77fd67eb71e1f4c1aadfddb93cc6724ffa5d6e0", func := "bursary/bursarylaw04.RingRoom", spec := "ringRoom", unfollowed := true, recurses := true, apart := false }
def RingRoomSaid : Prop := ringRoomRow.holds Try.pinned (OpenSpec.ofChange ringRoomSpec)

/-- ITS FALSE NEIGHBOUR: 'it returns false'. Refute it at one input. -/
def ringRoomWrong : ChangeSpec := { name := "ringRoom", fn := fun _ => fun
  | [d] => { results := [.lit (.bool false)], args := [d] }
  | _ => none }
def RingRoomWrongFalsely : Prop := ringRoomRow.holds Try.pinned (OpenSpec.ofChange ringRoomWrong)

/-- 'bursarylaw06.CodecLays': WHATEVER THE INPUT: true; the input reads as it did. -/
def codecLaysSpec : ChangeSpec := { name := "codecLays", fn := fun _ => fun
  | [d1, d2] => { results := [.lit (.bool true)], args := [d1, d2] }
  | _ => none }
def codecLaysRow : OpenClaim := { program := "ytkgenlmcdbafmaa", sum := "02f798639bd2fa98623612ebb77fd67eb71e1f4c1aadfddb93cc6724ffa5d6e0", func := "bursary/bursarylaw06.CodecLays", spec := "codecLays", unfollowed := true, recurses := true, apart := false }
def CodecLaysSaid : Prop := codecLaysRow.holds Try.pinned (OpenSpec.ofChange codecLaysSpec)

/-- ITS FALSE NEIGHBOUR: 'it returns false'. Refute it at one input. -/
def codecLaysWrong : ChangeSpec := { name := "codecLays", fn := fun _ => fun
  | [d1, d2] => { results := [.lit (.bool false)], args := [d1, d2] }
  | _ => none }
def CodecLaysWrongFalsely : Prop := codecLaysRow.holds Try.pinned (OpenSpec.ofChange codecLaysWrong)

/-- 'bursarylaw06.CodecBack': WHATEVER THE INPUT: true; the input reads as it did. -/
def codecBackSpec : ChangeSpec := { name := "codecBack", fn := fun _ => fun
  | [d1, d2] => { results := [.lit (.bool true)], args := [d1, d2] }
  | _ => none }
def codecBackRow : OpenClaim := { program := "ytkgenlmcdbafmaa", sum := "02f798639bd2fa98623612ebb77fd67eb71e1f4c1aadfddb93cc6724ffa5d6e0", func := "bursary/bursarylaw06.CodecBack", spec := "codecBack", unfollowed := true, recurses := true, apart := false }
def CodecBackSaid : Prop := codecBackRow.holds Try.pinned (OpenSpec.ofChange codecBackSpec)

/-- ITS FALSE NEIGHBOUR: 'it returns false'. Refute it at one input. -/
def codecBackWrong : ChangeSpec := { name := "codecBack", fn := fun _ => fun
  | [d1, d2] => { results := [.lit (.bool false)], args := [d1, d2] }
  | _ => none }
def CodecBackWrongFalsely : Prop := codecBackRow.holds Try.pinned (OpenSpec.ofChange codecBackWrong)

/-- 'bursarylaw06.CodecApart': WHATEVER THE INPUT: true; the input reads as it did. -/
def codecApartSpec : ChangeSpec := { name := "codecApart", fn := fun _ => fun
  | [d1, d2] => { results := [.lit (.bool true)], args := [d1, d2] }
  | _ => none }
def codecApartRow : OpenClaim := { program := "ytkgenlmcdbafmaa", sum := "02f798639bd2fa98623612ebb77fd67eb71e1f4c1aadfddb93cc6724ffa5d6e0", func := "bursary/bursarylaw06.CodecApart", spec := "codecApart", unfollowed := true, recurses := true, apart := false }
def CodecApartSaid : Prop := codecApartRow.holds Try.pinned (OpenSpec.ofChange codecApartSpec)

/-- ITS FALSE NEIGHBOUR: 'it returns false'. Refute it at one input. -/
def codecApartWrong : ChangeSpec := { name := "codecApart", fn := fun _ => fun
  | [d1, d2] => { results := [.lit (.bool false)], args := [d1, d2] }
  | _ => none }
def CodecApartWrongFalsely : Prop := codecApartRow.holds Try.pinned (OpenSpec.ofChange codecApartWrong)

/-- 'bursarylaw04.RingNils': WHATEVER THE INPUT: true; the input reads as it did. -/
def ringNilsSpec : ChangeSpec := { name := "ringNils", fn := fun _ => fun
  | [d1, d2] => { results := [.lit (.bool true)], args := [d1, d2] }
  | _ => none }
def ringNilsRow : OpenClaim := { program := "ytkgenlmcdbafmaa", sum := "02f798639bd2fa98623612ebb77fd67eb71e1f4c1aadfddb93cc6724ffa5d6e0", func := "bursary/bursarylaw04.RingNils", spec := "ringNils", unfollowed := true, recurses := true, apart := false }
def RingNilsSaid : Prop := ringNilsRow.holds Try.pinned (OpenSpec.ofChange ringNilsSpec)

/-- ITS FALSE NEIGHBOUR: 'it returns false'. Refute it at one input. -/
def ringNilsWrong : ChangeSpec := { name := "ringNils", fn := fun _ => fun
  | [d1, d2] => { results := [.lit (.bool false)], args := [d1, d2] }
  | _ => none }
def RingNilsWrongFalsely : Prop := ringNilsRow.holds Try.pinned (OpenSpec.ofChange ringNilsWrong)

/-- 'bursarylaw04.RingTurns': WHATEVER THE INPUT: true; the input reads as it did. -/
def ringTurnsSpec : ChangeSpec := { name := "ringTurns", fn := fun _ => fun
  | [d1, d2] => { results := [.lit (.bool true)], args := [d1, d2] }
  | _ => none }
def ringTurnsRow : OpenClaim := { program := "ytkgenlmcdbafmaa", sum := "02f798639bd2fa98623612ebb77fd67eb71e1f4c1aadfddb93cc6724ffa5d6e0", func := "bursary/bursarylaw04.RingTurns", spec := "ringTurns", unfollowed := true, recurses := true, apart := false }
def RingTurnsSaid : Prop := ringTurnsRow.holds Try.pinned (OpenSpec.ofChange ringTurnsSpec)

/-- ITS FALSE NEIGHBOUR: 'it returns false'. Refute it at one input. -/
def ringTurnsWrong : ChangeSpec := { name := "ringTurns", fn := fun _ => fun
  | [d1, d2] => { results := [.lit (.bool false)], args := [d1, d2] }
  | _ => none }
def RingTurnsWrongFalsely : Prop := ringTurnsRow.holds Try.pinned (OpenSpec.ofChange ringTurnsWrong)

/-- 'bursarylaw04.RingLasts': WHATEVER THE INPUT: true; the input reads as it did. -/
def ringLastsSpec : ChangeSpec := { name := "ringLasts", fn := fun _ => fun
  | [d] => { results := [.lit (.bool true)], args := [d] }
  | _ => none }
def ringLastsRow : OpenClaim := { program := "ytkgenlmcdbafmaa", sum := "02f798639bd2fa98623612ebb77fd67eb71e1f4c1aadfddb93cc6724ffa5d6e0", func := "bursary/bursarylaw04.RingLasts", spec := "ringLasts", unfollowed := true, recurses := true, apart := false }
def RingLastsSaid : Prop := ringLastsRow.holds Try.pinned (OpenSpec.ofChange ringLastsSpec)

/-- ITS FALSE NEIGHBOUR: 'it returns false'. Refute it at one input. -/
def ringLastsWrong : ChangeSpec := { name := "ringLasts", fn := fun _ => fun
  | [d] => { results := [.lit (.bool false)], args := [d] }
  | _ => none }
def RingLastsWrongFalsely : Prop := ringLastsRow.holds Try.pinned (OpenSpec.ofChange ringLastsWrong)

/-- 'bursarylaw04.RingDoes': WHATEVER THE INPUT: true; the input reads as it did. -/
def ringDoesSpec : ChangeSpec := { name := "ringDoes", fn := fun _ => fun
  | [d1, d2] => { results := [.lit (.bool true)], args := [d1, d2] }
  | _ => none }
def ringDoesRow : OpenClaim := { program := "ytkgenlmcdbafmaa", sum := "02f798639bd2fa98623612ebb77fd67eb71e1f4c1aadfddb93cc6724ffa5d6e0", func := "bursary/bursarylaw04.RingDoes", spec := "ringDoes", inPlace := ["maps.clone"], unfollowed := true, recurses := true, apart := false }
def RingDoesSaid : Prop := ringDoesRow.holds Try.pinned (OpenSpec.ofChange ringDoesSpec)

/-- ITS FALSE NEIGHBOUR: 'it returns false'. Refute it at one input. -/
def ringDoesWrong : ChangeSpec := { name := "ringDoes", fn := fun _ => fun
  | [d1, d2] => { results := [.lit (.bool false)], args := [d1, d2] }
  | _ => none }
def RingDoesWrongFalsely : Prop := ringDoesRow.holds Try.pinned (OpenSpec.ofChange ringDoesWrong)

/-- 'bursarylaw22.CkptTouches': WHATEVER THE INPUT: true; the input reads as it did. -/
def ckptTouchesSpec : ChangeSpec := { name := "ckptTouches", fn := fun _ => fun
  | [d1, d2, d3] => { results := [.lit (.bool true)], args := [d1, d2, d3] }
  | _ => none }
def ckptTouchesRow : OpenClaim := { program := "ytkgenlmcdbafmaa", sum := "02f798639bd2fa98623612ebb77fd67eb71e1f4c1aadfddb93cc6724ffa5d6e0", func := "bursary/bursarylaw22.CkptTouches", spec := "ckptTouches", inPlace := ["slices.overlaps[bursary/api.CkPage]"], unfollowed := true, recurses := true, apart := false }
def CkptTouchesSaid : Prop := ckptTouchesRow.holds Try.pinned (OpenSpec.ofChange ckptTouchesSpec)

/-- ITS FALSE NEIGHBOUR: 'it returns false'. Refute it at one input. -/
def ckptTouchesWrong : ChangeSpec := { name := "ckptTouches", fn := fun _ => fun
  | [d1, d2, d3] => { results := [.lit (.bool false)], args := [d1, d2, d3] }
  | _ => none }
def CkptTouchesWrongFalsely : Prop := ckptTouchesRow.holds Try.pinned (OpenSpec.ofChange ckptTouchesWrong)

/-- 'bursarylaw22.CkptNeeds': WHATEVER THE INPUT: true; the input reads as it did. -/
def ckptNeedsSpec : ChangeSpec := { name := "ckptNeeds", fn := fun _ => fun
  | [d1, d2, d3] => { results := [.lit (.bool true)], args := [d1, d2, d3] }
  | _ => none }
def ckptNeedsRow : OpenClaim := { program := "ytkgenlmcdbafmaa", sum := "02f798639bd2fa98623612ebb77fd67eb71e1f4c1aadfddb93cc6724ffa5d6e0", func := "bursary/bursarylaw22.CkptNeeds", spec := "ckptNeeds", inPlace := ["slices.overlaps[bursary/api.CkPage]"], unfollowed := true, recurses := true, apart := false }
def CkptNeedsSaid : Prop := ckptNeedsRow.holds Try.pinned (OpenSpec.ofChange ckptNeedsSpec)

/-- ITS FALSE NEIGHBOUR: 'it returns false'. Refute it at one input. -/
def ckptNeedsWrong : ChangeSpec := { name := "ckptNeeds", fn := fun _ => fun
  | [d1, d2, d3] => { results := [.lit (.bool false)], args := [d1, d2, d3] }
  | _ => none }
def CkptNeedsWrongFalsely : Prop := ckptNeedsRow.holds Try.pinned (OpenSpec.ofChange ckptNeedsWrong)

/-- 'bursarylaw22.CkptMakes': WHATEVER THE INPUT: true; the input reads as it did. -/
def ckptMakesSpec : ChangeSpec := { name := "ckptMakes", fn := fun _ => fun
  | [d1, d2, d3] => { results := [.lit (.bool true)], args := [d1, d2, d3] }
  | _ => none }
def ckptMakesRow : OpenClaim := { program := "ytkgenlmcdbafmaa", sum := "02f798639bd2fa98623612ebb77fd67eb71e1f4c1aadfddb93cc6724ffa5d6e0", func := "bursary/bursarylaw22.CkptMakes", spec := "ckptMakes", inPlace := ["slices.overlaps[bursary/api.CkPage]"], unfollowed := true, recurses := true, apart := false }
def CkptMakesSaid : Prop := ckptMakesRow.holds Try.pinned (OpenSpec.ofChange ckptMakesSpec)

/-- ITS FALSE NEIGHBOUR: 'it returns false'. Refute it at one input. -/
def ckptMakesWrong : ChangeSpec := { name := "ckptMakes", fn := fun _ => fun
  | [d1, d2, d3] => { results := [.lit (.bool false)], args := [d1, d2, d3] }
  | _ => none }
def CkptMakesWrongFalsely : Prop := ckptMakesRow.holds Try.pinned (OpenSpec.ofChange ckptMakesWrong)

/- THE SECOND FORM. 'bulk': how many values and letters a reading holds, each counted each time it is reached (what is shared counts as often as it is met; a slice's spare places count too). A statement '..UptoSaid' is the law's where the arguments, and the package variables that the reading takes, are together of bulk at most 1048576: NARROWER than '..Said'. Prove '..Said' where nothing that the law and all that it calls make is longer than what came in: it says more and counts as full. Else prove '..UptoSaid'. A law counts once. -/
mutual
def uptoBulk {H : Type} : DataW H → Nat
  | .lit (.string bytes) => bytes.length + 1
  | .lit _ => 1
  | .nil => 1
  | .ptr d => uptoBulk d + 1
  | .slice elems spare => uptoBulkAll elems + uptoBulkAll spare + 1
  | .agg parts => uptoBulkAll parts + 1
  | .iface _ d => uptoBulk d + 1
  | .map entries => uptoBulkEntries entries + 1
  | .held _ => 1
def uptoBulkAll {H : Type} : List (DataW H) → Nat
  | [] => 0
  | d :: r => uptoBulk d + uptoBulkAll r
def uptoBulkEntries {H : Type} : List (Lit × DataW H) → Nat
  | [] => 0
  | x :: r => uptoBulkEntry x + uptoBulkEntries r
def uptoBulkEntry {H : Type} : Lit × DataW H → Nat
  | (.string bytes, d) => bytes.length + uptoBulk d + 1
  | (_, d) => uptoBulk d + 1
 end
def uptoSmall : (H : Type) → List (DataW H) → Bool := fun _ ds => decide (uptoBulkAll ds ≤ 1048576)
def OpenSpec.upto (s : _root_.Go.ChangeSpec) : _root_.Go.OpenSpec := { _root_.Go.OpenSpec.ofChange s with cond := some uptoSmall }

/-- 'bursarylaw06.CodecTaken', WHERE WHAT IT READS IS OF BULK AT MOST 1048576: true; the input reads as it did. -/
def codecTakenUptoRow : OpenClaim := { program := "ytkgenlmcdbafmaa", sum := "02f798639bd2fa98623612ebb77fd67eb71e1f4c1aadfddb93cc6724ffa5d6e0", func := "bursary/bursarylaw06.CodecTaken", spec := "codecTaken", unfollowed := true, recurses := true, apart := false, narrowed := true }
def CodecTakenUptoSaid : Prop := codecTakenUptoRow.holds Try.pinned (OpenSpec.upto codecTakenSpec)

/-- 'bursarylaw04.RingRoom', WHERE WHAT IT READS IS OF BULK AT MOST 1048576: true; the input reads as it did. -/
def ringRoomUptoRow : OpenClaim := { program := "ytkgenlmcdbafmaa", sum := "02f798639bd2fa98623612ebb77fd67eb71e1f4c1aadfddb93cc6724ffa5d6e0", func := "bursary/bursarylaw04.RingRoom", spec := "ringRoom", unfollowed := true, recurses := true, apart := false, narrowed := true }
def RingRoomUptoSaid : Prop := ringRoomUptoRow.holds Try.pinned (OpenSpec.upto ringRoomSpec)

/-- 'bursarylaw06.CodecLays', WHERE WHAT IT READS IS OF BULK AT MOST 1048576: true; the input reads as it did. -/
def codecLaysUptoRow : OpenClaim := { program := "ytkgenlmcdbafmaa", sum := "02f798639bd2fa98623612ebb77fd67eb71e1f4c1aadfddb93cc6724ffa5d6e0", func := "bursary/bursarylaw06.CodecLays", spec := "codecLays", unfollowed := true, recurses := true, apart := false, narrowed := true }
def CodecLaysUptoSaid : Prop := codecLaysUptoRow.holds Try.pinned (OpenSpec.upto codecLaysSpec)

/-- 'bursarylaw06.CodecBack', WHERE WHAT IT READS IS OF BULK AT MOST 1048576: true; the input reads as it did. -/
def codecBackUptoRow : OpenClaim := { program := "ytkgenlmcdbafmaa", sum := "02f798639bd2fa98623612ebb77fd67eb71e1f4c1aadfddb93cc6724ffa5d6e0", func := "bursary/bursarylaw06.CodecBack", spec := "codecBack", unfollowed := true, recurses := true, apart := false, narrowed := true }
def CodecBackUptoSaid : Prop := codecBackUptoRow.holds Try.pinned (OpenSpec.upto codecBackSpec)

/-- 'bursarylaw06.CodecApart', WHERE WHAT IT READS IS OF BULK AT MOST 1048576: true; the input reads as it did. -/
def codecApartUptoRow : OpenClaim := { program := "ytkgenlmcdbafmaa", sum := "02f798639bd2fa98623612ebb77fd67eb71e1f4c1aadfddb93cc6724ffa5d6e0", func := "bursary/bursarylaw06.CodecApart", spec := "codecApart", unfollowed := true, recurses := true, apart := false, narrowed := true }
def CodecApartUptoSaid : Prop := codecApartUptoRow.holds Try.pinned (OpenSpec.upto codecApartSpec)

/-- 'bursarylaw04.RingNils', WHERE WHAT IT READS IS OF BULK AT MOST 1048576: true; the input reads as it did. -/
def ringNilsUptoRow : OpenClaim := { program := "ytkgenlmcdbafmaa", sum := "02f798639bd2fa98623612ebb77fd67eb71e1f4c1aadfddb93cc6724ffa5d6e0", func := "bursary/bursarylaw04.RingNils", spec := "ringNils", unfollowed := true, recurses := true, apart := false, narrowed := true }
def RingNilsUptoSaid : Prop := ringNilsUptoRow.holds Try.pinned (OpenSpec.upto ringNilsSpec)

/-- 'bursarylaw04.RingTurns', WHERE WHAT IT READS IS OF BULK AT MOST 1048576: true; the input reads as it did. -/
def ringTurnsUptoRow : OpenClaim := { program := "ytkgenlmcdbafmaa", sum := "02f798639bd2fa98623612ebb77fd67eb71e1f4c1aadfddb93cc6724ffa5d6e0", func := "bursary/bursarylaw04.RingTurns", spec := "ringTurns", unfollowed := true, recurses := true, apart := false, narrowed := true }
def RingTurnsUptoSaid : Prop := ringTurnsUptoRow.holds Try.pinned (OpenSpec.upto ringTurnsSpec)

/-- 'bursarylaw04.RingLasts', WHERE WHAT IT READS IS OF BULK AT MOST 1048576: true; the input reads as it did. -/
def ringLastsUptoRow : OpenClaim := { program := "ytkgenlmcdbafmaa", sum := "02f798639bd2fa98623612ebb77fd67eb71e1f4c1aadfddb93cc6724ffa5d6e0", func := "bursary/bursarylaw04.RingLasts", spec := "ringLasts", unfollowed := true, recurses := true, apart := false, narrowed := true }
def RingLastsUptoSaid : Prop := ringLastsUptoRow.holds Try.pinned (OpenSpec.upto ringLastsSpec)

/-- 'bursarylaw04.RingDoes', WHERE WHAT IT READS IS OF BULK AT MOST 1048576: true; the input reads as it did. -/
def ringDoesUptoRow : OpenClaim := { program := "ytkgenlmcdbafmaa", sum := "02f798639bd2fa98623612ebb77fd67eb71e1f4c1aadfddb93cc6724ffa5d6e0", func := "bursary/bursarylaw04.RingDoes", spec := "ringDoes", inPlace := ["maps.clone"], unfollowed := true, recurses := true, apart := false, narrowed := true }
def RingDoesUptoSaid : Prop := ringDoesUptoRow.holds Try.pinned (OpenSpec.upto ringDoesSpec)

/-- 'bursarylaw22.CkptTouches', WHERE WHAT IT READS IS OF BULK AT MOST 1048576: true; the input reads as it did. -/
def ckptTouchesUptoRow : OpenClaim := { program := "ytkgenlmcdbafmaa", sum := "02f798639bd2fa98623612ebb77fd67eb71e1f4c1aadfddb93cc6724ffa5d6e0", func := "bursary/bursarylaw22.CkptTouches", spec := "ckptTouches", inPlace := ["slices.overlaps[bursary/api.CkPage]"], unfollowed := true, recurses := true, apart := false, narrowed := true }
def CkptTouchesUptoSaid : Prop := ckptTouchesUptoRow.holds Try.pinned (OpenSpec.upto ckptTouchesSpec)

/-- 'bursarylaw22.CkptNeeds', WHERE WHAT IT READS IS OF BULK AT MOST 1048576: true; the input reads as it did. -/
def ckptNeedsUptoRow : OpenClaim := { program := "ytkgenlmcdbafmaa", sum := "02f798639bd2fa98623612ebb77fd67eb71e1f4c1aadfddb93cc6724ffa5d6e0", func := "bursary/bursarylaw22.CkptNeeds", spec := "ckptNeeds", inPlace := ["slices.overlaps[bursary/api.CkPage]"], unfollowed := true, recurses := true, apart := false, narrowed := true }
def CkptNeedsUptoSaid : Prop := ckptNeedsUptoRow.holds Try.pinned (OpenSpec.upto ckptNeedsSpec)

/-- 'bursarylaw22.CkptMakes', WHERE WHAT IT READS IS OF BULK AT MOST 1048576: true; the input reads as it did. -/
def ckptMakesUptoRow : OpenClaim := { program := "ytkgenlmcdbafmaa", sum := "02f798639bd2fa98623612ebb77fd67eb71e1f4c1aadfddb93cc6724ffa5d6e0", func := "bursary/bursarylaw22.CkptMakes", spec := "ckptMakes", inPlace := ["slices.overlaps[bursary/api.CkPage]"], unfollowed := true, recurses := true, apart := false, narrowed := true }
def CkptMakesUptoSaid : Prop := ckptMakesUptoRow.holds Try.pinned (OpenSpec.upto ckptMakesSpec)

end Rows
end Go.Proofs.Ytkgenlmcdbafmaa
