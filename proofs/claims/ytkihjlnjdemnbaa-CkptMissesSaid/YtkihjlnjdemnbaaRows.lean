/-
  No cell of these rows narrows 'for every input' (looked for: loops, veiled, ifaces, maps, wideKeys, modest, calm, conditions, laid).
  DERIVED. THE GIVEN ROWS OF THIS SEAT. 5 by the template 'for every input the law returns true; each argument reads behind the call as it read before'; 0 by the template 'total and deterministic' (their statements: YtkihjlnjdemnbaaTotals.lean).
  GIVEN WITH THE SEED: the statements are not yours to turn. If you find one false, say at which input.
  Laid BY PROGRAM, IN A SANDBOX (cutbox-rows.mjs): the forced cells as the released guide's own fill.sh prints them over the translation b3fd6d834045b911… (all of the seat's roots in one cut). By AI agents, Wed Nov 11 2026. No macro, syntax, notation, axiom, sorry.
-/
import Derived.Test.YtkihjlnjdemnbaaChecked
import GoSem.Claim
import GoSem.ClaimJoined
import GoSem.ClaimMapViews
import Derived.JoinedTies
import Derived.KernelRfl
namespace Go.Proofs.Ytkihjlnjdemnbaa
/- THE CELL 'sum', in the pinned program and in every row, IS THE sha256 OF THE DUMP (.gsa) THAT YtkihjlnjdemnbaaProg.lean LOADS. Nothing in Lean hashes anything: it is a label: what it is worth is what the hold of that sum in a sandbox is worth. -/
noncomputable def Try.pinned : Pinned := { name := "ytkihjlnjdemnbaa", sum := "b3fd6d834045b91182e8006d43e83bd1e60b35627d34c664d47e35383d99b3c3", checked := Try.checked }
namespace Rows
def none {H : Type} : Left H := { results := [], args := [] }

/-- 'bursarylaw22.CkptTouches': WHATEVER THE INPUT: true; the input reads as it did. -/
def ckptTouchesSpec : ChangeSpec := { name := "ckptTouches", fn := fun _ => fun
  | [d1, d2, d3] => { results := [.lit (.bool true)], args := [d1, d2, d3] }
  | _ => none }
def ckptTouchesRow : OpenClaim := { program := "ytkihjlnjdemnbaa", sum := "b3fd6d834045b91182e8006d43e83bd1e60b35627d34c664d47e35383d99b3c3", func := "bursary/bursarylaw22.CkptTouches", spec := "ckptTouches", inPlace := ["slices.overlaps[bursary/api.CkPage]"], unfollowed := true, recurses := true, apart := false }
def CkptTouchesSaid : Prop := ckptTouchesRow.holds Try.pinned (OpenSpec.ofChange ckptTouchesSpec)

/-- ITS FALSE NEIGHBOUR: 'it returns false'. Refute it at one input. -/
def ckptTouchesWrong : ChangeSpec := { name := "ckptTouches", fn := fun _ => fun
  | [d1, d2, d3] => { results := [.lit (.bool false)], args := [d1, d2, d3] }
  | _ => none }
def CkptTouchesWrongFalsely : Prop := ckptTouchesRow.holds Try.pinned (OpenSpec.ofChange ckptTouchesWrong)

/-- 'bursarylaw22.CkptNeeds': WHATEVER THE INPUT: true; the input reads as it did. -/
def ckptNeedsSpec : ChangeSpec := { name := "ckptNeeds", fn := fun _ => fun
  | [d1, d2, d3] => { results := [.lit (.bool true)], args := [d1, d2, d3] }
  | _ => none }
def ckptNeedsRow : OpenClaim := { program := "ytkihjlnjdemnbaa", sum := "b3fd6d834045b91182e8006d43e83bd1e60b35627d34c664d47e35383d99b3c3", func := "bursary/bursarylaw22.CkptNeeds", spec := "ckptNeeds", inPlace := ["slices.overlaps[bursary/api.CkPage]"], unfollowed := true, recurses := true, apart := false }
def CkptNeedsSaid : Prop := ckptNeedsRow.holds Try.pinned (OpenSpec.ofChange ckptNeedsSpec)

/-- ITS FALSE NEIGHBOUR: 'it returns false'. Refute it at one input. -/
def ckptNeedsWrong : ChangeSpec := { name := "ckptNeeds", fn := fun _ => fun
  | [d1, d2, d3] => { results := [.lit (.bool false)], args := [d1, d2, d3] }
  | _ => none }
def CkptNeedsWrongFalsely : Prop := ckptNeedsRow.holds Try.pinned (OpenSpec.ofChange ckptNeedsWrong)

/-- 'bursarylaw22.CkptMakes': WHATEVER THE INPUT: true; the input reads as it did. -/
def ckptMakesSpec : ChangeSpec := { name := "ckptMakes", fn := fun _ => fun
  | [d1, d2, d3] => { results := [.lit (.bool true)], args := [d1, d2, d3] }
  | _ => none }
def ckptMakesRow : OpenClaim := { program := "ytkihjlnjdemnbaa", sum := "b3fd6d834045b91182e8006d43e83bd1e60b35627d34c664d47e35383d99b3c3", func := "bursary/bursarylaw22.CkptMakes", spec := "ckptMakes", inPlace := ["slices.overlaps[bursary/api.CkPage]"], unfollowed := true, recurses := true, apart := false }
def CkptMakesSaid : Prop := ckptMakesRow.holds Try.pinned (OpenSpec.ofChange ckptMakesSpec)

/-- ITS FALSE NEIGHBOUR: 'it returns false'. Refute it at one input. -/
def ckptMakesWrong : ChangeSpec := { name := "ckptMakes", fn := fun _ => fun
  | [d1, d2, d3] => { results := [.lit (.bool false)], args := [d1, d2, d3] }
  | _ => none }
def CkptMakesWrongFalsely : Prop := ckptMakesRow.holds Try.pinned (OpenSpec.ofChange ckptMakesWrong)

/-- 'bursarylaw22.CkptMisses': WHATEVER THE INPUT: true; the input reads as it did. -/
def ckptMissesSpec : ChangeSpec := { name := "ckptMisses", fn := fun _ => fun
  | [d] => { results := [.lit (.bool true)], args := [d] }
  | _ => none }
def ckptMissesRow : OpenClaim := { program := "ytkihjlnjdemnbaa", sum := "b3fd6d834045b91182e8006d43e83bd1e60b35627d34c664d47e35383d99b3c3", func := "bursary/bursarylaw22.CkptMisses", spec := "ckptMisses", inPlace := ["slices.overlaps[bursary/api.CkPage]"], unfollowed := true, recurses := true, apart := false }
def CkptMissesSaid : Prop := ckptMissesRow.holds Try.pinned (OpenSpec.ofChange ckptMissesSpec)

/-- ITS FALSE NEIGHBOUR: 'it returns false'. Refute it at one input. -/
def ckptMissesWrong : ChangeSpec := { name := "ckptMisses", fn := fun _ => fun
  | [d] => { results := [.lit (.bool false)], args := [d] }
  | _ => none }
def CkptMissesWrongFalsely : Prop := ckptMissesRow.holds Try.pinned (OpenSpec.ofChange ckptMissesWrong)

/-- 'bursarylaw22.CkptBack': WHATEVER THE INPUT: true; the input reads as it did. -/
def ckptBackSpec : ChangeSpec := { name := "ckptBack", fn := fun _ => fun
  | [d1, d2, d3] => { results := [.lit (.bool true)], args := [d1, d2, d3] }
  | _ => none }
def ckptBackRow : OpenClaim := { program := "ytkihjlnjdemnbaa", sum := "b3fd6d834045b91182e8006d43e83bd1e60b35627d34c664d47e35383d99b3c3", func := "bursary/bursarylaw22.CkptBack", spec := "ckptBack", inPlace := ["slices.overlaps[bursary/api.CkPage]"], unfollowed := true, recurses := true, apart := false }
def CkptBackSaid : Prop := ckptBackRow.holds Try.pinned (OpenSpec.ofChange ckptBackSpec)

/-- ITS FALSE NEIGHBOUR: 'it returns false'. Refute it at one input. -/
def ckptBackWrong : ChangeSpec := { name := "ckptBack", fn := fun _ => fun
  | [d1, d2, d3] => { results := [.lit (.bool false)], args := [d1, d2, d3] }
  | _ => none }
def CkptBackWrongFalsely : Prop := ckptBackRow.holds Try.pinned (OpenSpec.ofChange ckptBackWrong)

/- THE SECOND FORM. 'bulk': how many values and letters a reading holds, each counted each time it is reached (what is shared counts as often as it is met; a slice's spare places count too). A statement '..UptoSaid' is the law's where the arguments, and the package variables that the reading takes, are together of bulk at most 1048576: NARROWER than '..Said'. Prove '..Said' where nothing that the law and all that it calls make is longer than what came in: it says more and counts as full. Else prove '..UptoSaid'. A law counts once. -/
mutual
def uptoBulk {H : Type} : DataW H → Nat
  | .lit (.string bytes) => bytes.length + 1
  | .lit _ => 1
  | .nil => 1
  | .ptr d => uptoBulk d + 1
  | .slice elems spare => uptoBulkAll elems + uptoBulkAll spare + 1
  | .agg parts => uptoBulkAll parts + 1
  | .iface _ d => uptoBulk d + 1
  | .map entries => uptoBulkEntries entries + 1
  | .held _ => 1
def uptoBulkAll {H : Type} : List (DataW H) → Nat
  | [] => 0
  | d :: r => uptoBulk d + uptoBulkAll r
def uptoBulkEntries {H : Type} : List (Lit × DataW H) → Nat
  | [] => 0
  | x :: r => uptoBulkEntry x + uptoBulkEntries r
def uptoBulkEntry {H : Type} : Lit × DataW H → Nat
  | (.string bytes, d) => bytes.length + uptoBulk d + 1
  | (_, d) => uptoBulk d + 1
 end
def uptoSmall : (H : Type) → List (DataW H) → Bool := fun _ ds => decide (uptoBulkAll ds ≤ 1048576)
def OpenSpec.upto (s : _root_.Go.ChangeSpec) : _root_.Go.OpenSpec := { _root_.Go.OpenSpec.ofChange s with cond := some uptoSmall }

/-- 'bursarylaw22.CkptTouches', WHERE WHAT IT READS IS OF BULK AT MOST 1048576: true; the input reads as it did. -/
def ckptTouchesUptoRow : OpenClaim := { program := "ytkihjlnjdemnbaa", sum := "b3fd6d834045b91182e8006d43e83bd1e60b35627d34c664d47e35383d99b3c3", func := "bursary/bursarylaw22.CkptTouches", spec := "ckptTouches", inPlace := ["slices.overlaps[bursary/api.CkPage]"], unfollowed := true, recurses := true, apart := false, narrowed := true }
def CkptTouchesUptoSaid : Prop := ckptTouchesUptoRow.holds Try.pinned (OpenSpec.upto ckptTouchesSpec)

/-- 'bursarylaw22.CkptNeeds', WHERE WHAT IT READS IS OF BULK AT MOST 1048576: true; the input reads as it did. -/
def ckptNeedsUptoRow : OpenClaim := { program := "ytkihjlnjdemnbaa", sum := "b3fd6d834045b91182e8006d43e83bd1e60b35627d34c664d47e35383d99b3c3", func := "bursary/bursarylaw22.CkptNeeds", spec := "ckptNeeds", inPlace := ["slices.overlaps[bursary/api.CkPage]"], unfollowed := true, recurses := true, apart := false, narrowed := true }
def CkptNeedsUptoSaid : Prop := ckptNeedsUptoRow.holds Try.pinned (OpenSpec.upto ckptNeedsSpec)

/-- 'bursarylaw22.CkptMakes', WHERE WHAT IT READS IS OF BULK AT MOST 1048576: true; the input reads as it did. -/
def ckptMakesUptoRow : OpenClaim := { program := "ytkihjlnjdemnbaa", sum := "b3fd6d834045b91182e8006d43e83bd1e60b35627d34c664d47e35383d99b3c3", func := "bursary/bursarylaw22.CkptMakes", spec := "ckptMakes", inPlace := ["slices.overlaps[bursary/api.CkPage]"], unfollowed := true, recurses := true, apart := false, narrowed := true }
def CkptMakesUptoSaid : Prop := ckptMakesUptoRow.holds Try.pinned (OpenSpec.upto ckptMakesSpec)

/-- 'bursarylaw22.CkptMisses', WHERE WHAT IT READS IS OF BULK AT MOST 1048576: true; the input reads as it did. -/
def ckptMissesUptoRow : OpenClaim := { program := "ytkihjlnjdemnbaa", sum := "b3fd6d834045b91182e8006d43e83bd1e60b35627d34c664d47e35383d99b3c3", func := "bursary/bursarylaw22.CkptMisses", spec := "ckptMisses", inPlace := ["slices.overlaps[bursary/api.CkPage]"], unfollowed := true, recurses := true, apart := false, narrowed := true }
def CkptMissesUptoSaid : Prop := ckptMissesUptoRow.holds Try.pinned (OpenSpec.upto ckptMissesSpec)

/-- 'bursarylaw22.CkptBack', WHERE WHAT IT READS IS OF BULK AT MOST 1048576: true; the input reads as it did. -/
def ckptBackUptoRow : OpenClaim := { program := "ytkihjlnjdemnbaa", sum := "b3fd6d834045b91182e8006d43e83bd1e60b35627d34c664d47e35383d99b3c3", func := "bursary/bursarylaw22.CkptBack", spec := "ckptBack", inPlace := ["slices.overlaps[bursary/api.CkPage]"], unfollowed := true, recurses := true, apart := false, narrowed := true }
def CkptBackUptoSaid : Prop := ckptBackUptoRow.holds Try.pinned (OpenSpec.upto ckptBackSpec)

end Rows
end Go.Proofs.Ytkihjlnjdemnbaa
