/-
  No cell of these rows narrows 'for every input' (looked for: loops, veiled, ifaces, maps, wideKeys, modest, calm, conditions, laid).
  DERIVED. THE GIVEN ROWS OF THIS SEAT. 10 by the template 'for every input the law returns true; each argument reads behind the call as it read before'; 0 by the template 'total and deterministic' (their statements: YtjajdpfdhokkhaaGreatTotals.lean).
  GIVEN WITH THE SEED: the statements are not yours to turn. If you find one false, say at which input.
  Laid BY PROGRAM, IN A SANDBOX (cutbox-rows.mjs): the forced cells as the released guide's own fill.sh prints them over the translation 84a20667755e2daa… (all of the seat's roots in one cut). By AI agents, Wed Nov 11 2026. No macro, syntax, notation, axiom, sorry.
-/
import Derived.Test.YtjajdpfdhokkhaaGreatChecked
import GoSem.Claim
import GoSem.ClaimJoined
import GoSem.ClaimMapViews
import Derived.JoinedTies
import Derived.KernelRfl
namespace Go.Proofs.YtjajdpfdhokkhaaGreat
/- THE CELL 'sum', in the pinned program and in every row, IS THE sha256 OF THE DUMP (.gsa) THAT YtjajdpfdhokkhaaGreatProg.lean LOADS. Nothing in Lean hashes anything: it is a label: what it is worth is what the hold of that sum in a sandbox is worth. -/
noncomputable def Tryz.pinned : Pinned := { name := "ytjajdpfdhokkhaagreat", sum := "84a20667755e2daafd3906752a440b3ecb2c27183abe414e4c85db5987402b60", checked := Tryz.checked }
namespace Rows
def none {H : Type} : Left H := { results := [], args := [] }

/-- 'bursarylaw22.CkptReads': WHATEVER THE INPUT: true; the input reads as it did. -/
def ckptReadsSpec : ChangeSpec := { name := "ckptReads", fn := fun _ => fun
  | [d] => { results := [.lit (.bool true)], args := [d] }
  | _ => none }
def ckptReadsRow : OpenClaim := { program := "ytjajdpfdhokkhaagreat", sum := "84a20667755e2daafd3906752a440b3ecb2c27183abe414e4c85db5987402b60", func := "bursary/bursarylaw22.CkptReads", spec := "ckptReads", inPlace := ["slices.overlaps[bursary/api.CkPage]"], unfollowed := true, recurses := true, apart := false }
def CkptReadsSaid : Prop := ckptReadsRow.holds Tryz.pinned (OpenSpec.ofChange ckptReadsSpec)

/-- ITS FALSE NEIGHBOUR: 'it returns false'. Refute it at one input. -/
def ckptReadsWrong : ChangeSpec := { name := "ckptReads", fn := fun _ => fun
  | [d] => { results := [.lit (.bool false)], args := [d] }
  | _ => none }
def CkptReadsWrongFalsely : Prop := ckptReadsRow.holds Tryz.pinned (OpenSpec.ofChange ckptReadsWrong)

/-- 'bursarylaw12.RecordReads': WHATEVER THE INPUT: true; the input reads as it did. -/
def recordReadsSpec : ChangeSpec := { name := "recordReads", fn := fun _ => fun
  | [d] => { results := [.lit (.bool true)], args := [d] }
  | _ => none }
def recordReadsRow : OpenClaim := { program := "ytjajdpfdhokkhaagreat", sum := "84a20667755e2daafd3906752a440b3ecb2c27183abe414e4c85db5987402b60", func := "bursary/bursarylaw12.RecordReads", spec := "recordReads", unfollowed := true, recurses := true, apart := false }
def RecordReadsSaid : Prop := recordReadsRow.holds Tryz.pinned (OpenSpec.ofChange recordReadsSpec)

/-- ITS FALSE NEIGHBOUR: 'it returns false'. Refute it at one input. -/
def recordReadsWrong : ChangeSpec := { name := "recordReads", fn := fun _ => fun
  | [d] => { results := [.lit (.bool false)], args := [d] }
  | _ => none }
def RecordReadsWrongFalsely : Prop := recordReadsRow.holds Tryz.pinned (OpenSpec.ofChange recordReadsWrong)

/-- 'bursarylaw12.RecordLays': WHATEVER THE INPUT: true; the input reads as it did. -/
def recordLaysSpec : ChangeSpec := { name := "recordLays", fn := fun _ => fun
  | [d] => { results := [.lit (.bool true)], args := [d] }
  | _ => none }
def recordLaysRow : OpenClaim := { program := "ytjajdpfdhokkhaagreat", sum := "84a20667755e2daafd3906752a440b3ecb2c27183abe414e4c85db5987402b60", func := "bursary/bursarylaw12.RecordLays", spec := "recordLays", unfollowed := true, recurses := true, apart := false }
def RecordLaysSaid : Prop := recordLaysRow.holds Tryz.pinned (OpenSpec.ofChange recordLaysSpec)

/-- ITS FALSE NEIGHBOUR: 'it returns false'. Refute it at one input. -/
def recordLaysWrong : ChangeSpec := { name := "recordLays", fn := fun _ => fun
  | [d] => { results := [.lit (.bool false)], args := [d] }
  | _ => none }
def RecordLaysWrongFalsely : Prop := recordLaysRow.holds Tryz.pinned (OpenSpec.ofChange recordLaysWrong)

/-- 'bursarylaw18.RosterFrom': WHATEVER THE INPUT: true; the input reads as it did. -/
def rosterFromSpec : ChangeSpec := { name := "rosterFrom", fn := fun _ => fun
  | [d1, d2] => { results := [.lit (.bool true)], args := [d1, d2] }
  | _ => none }
def rosterFromRow : OpenClaim := { program := "ytjajdpfdhokkhaagreat", sum := "84a20667755e2daafd3906752a440b3ecb2c27183abe414e4c85db5987402b60", func := "bursary/bursarylaw18.RosterFrom", spec := "rosterFrom", unfollowed := true, recurses := true, apart := false }
def RosterFromSaid : Prop := rosterFromRow.holds Tryz.pinned (OpenSpec.ofChange rosterFromSpec)

/-- ITS FALSE NEIGHBOUR: 'it returns false'. Refute it at one input. -/
def rosterFromWrong : ChangeSpec := { name := "rosterFrom", fn := fun _ => fun
  | [d1, d2] => { results := [.lit (.bool false)], args := [d1, d2] }
  | _ => none }
def RosterFromWrongFalsely : Prop := rosterFromRow.holds Tryz.pinned (OpenSpec.ofChange rosterFromWrong)

/-- 'bursarylaw18.RosterDoes': WHATEVER THE INPUT: true; the input reads as it did. -/
def rosterDoesSpec : ChangeSpec := { name := "rosterDoes", fn := fun _ => fun
  | [d1, d2] => { results := [.lit (.bool true)], args := [d1, d2] }
  | _ => none }
def rosterDoesRow : OpenClaim := { program := "ytjajdpfdhokkhaagreat", sum := "84a20667755e2daafd3906752a440b3ecb2c27183abe414e4c85db5987402b60", func := "bursary/bursarylaw18.RosterDoes", spec := "rosterDoes", unfollowed := true, recurses := true, apart := false }
def RosterDoesSaid : Prop := rosterDoesRow.holds Tryz.pinned (OpenSpec.ofChange rosterDoesSpec)

/-- ITS FALSE NEIGHBOUR: 'it returns false'. Refute it at one input. -/
def rosterDoesWrong : ChangeSpec := { name := "rosterDoes", fn := fun _ => fun
  | [d1, d2] => { results := [.lit (.bool false)], args := [d1, d2] }
  | _ => none }
def RosterDoesWrongFalsely : Prop := rosterDoesRow.holds Tryz.pinned (OpenSpec.ofChange rosterDoesWrong)

/-- 'bursarylaw18.RosterBack': WHATEVER THE INPUT: true; the input reads as it did. -/
def rosterBackSpec : ChangeSpec := { name := "rosterBack", fn := fun _ => fun
  | [d] => { results := [.lit (.bool true)], args := [d] }
  | _ => none }
def rosterBackRow : OpenClaim := { program := "ytjajdpfdhokkhaagreat", sum := "84a20667755e2daafd3906752a440b3ecb2c27183abe414e4c85db5987402b60", func := "bursary/bursarylaw18.RosterBack", spec := "rosterBack", unfollowed := true, recurses := true, apart := false }
def RosterBackSaid : Prop := rosterBackRow.holds Tryz.pinned (OpenSpec.ofChange rosterBackSpec)

/-- ITS FALSE NEIGHBOUR: 'it returns false'. Refute it at one input. -/
def rosterBackWrong : ChangeSpec := { name := "rosterBack", fn := fun _ => fun
  | [d] => { results := [.lit (.bool false)], args := [d] }
  | _ => none }
def RosterBackWrongFalsely : Prop := rosterBackRow.holds Tryz.pinned (OpenSpec.ofChange rosterBackWrong)

/-- 'bursarylaw18.RosterRooms': WHATEVER THE INPUT: true; the input reads as it did. -/
def rosterRoomsSpec : ChangeSpec := { name := "rosterRooms", fn := fun _ => fun
  | [d] => { results := [.lit (.bool true)], args := [d] }
  | _ => none }
def rosterRoomsRow : OpenClaim := { program := "ytjajdpfdhokkhaagreat", sum := "84a20667755e2daafd3906752a440b3ecb2c27183abe414e4c85db5987402b60", func := "bursary/bursarylaw18.RosterRooms", spec := "rosterRooms", unfollowed := true, recurses := true, apart := false }
def RosterRoomsSaid : Prop := rosterRoomsRow.holds Tryz.pinned (OpenSpec.ofChange rosterRoomsSpec)

/-- ITS FALSE NEIGHBOUR: 'it returns false'. Refute it at one input. -/
def rosterRoomsWrong : ChangeSpec := { name := "rosterRooms", fn := fun _ => fun
  | [d] => { results := [.lit (.bool false)], args := [d] }
  | _ => none }
def RosterRoomsWrongFalsely : Prop := rosterRoomsRow.holds Tryz.pinned (OpenSpec.ofChange rosterRoomsWrong)

/-- 'bursarylaw18.RosterTells': WHATEVER THE INPUT: true; the input reads as it did. -/
def rosterTellsSpec : ChangeSpec := { name := "rosterTells", fn := fun _ => fun
  | [d1, d2, d3] => { results := [.lit (.bool true)], args := [d1, d2, d3] }
  | _ => none }
def rosterTellsRow : OpenClaim := { program := "ytjajdpfdhokkhaagreat", sum := "84a20667755e2daafd3906752a440b3ecb2c27183abe414e4c85db5987402b60", func := "bursary/bursarylaw18.RosterTells", spec := "rosterTells", unfollowed := true, recurses := true, apart := false }
def RosterTellsSaid : Prop := rosterTellsRow.holds Tryz.pinned (OpenSpec.ofChange rosterTellsSpec)

/-- ITS FALSE NEIGHBOUR: 'it returns false'. Refute it at one input. -/
def rosterTellsWrong : ChangeSpec := { name := "rosterTells", fn := fun _ => fun
  | [d1, d2, d3] => { results := [.lit (.bool false)], args := [d1, d2, d3] }
  | _ => none }
def RosterTellsWrongFalsely : Prop := rosterTellsRow.holds Tryz.pinned (OpenSpec.ofChange rosterTellsWrong)

/-- 'bursarylaw18.RosterMarks': WHATEVER THE INPUT: true; the input reads as it did. -/
def rosterMarksSpec : ChangeSpec := { name := "rosterMarks", fn := fun _ => fun
  | [d1, d2] => { results := [.lit (.bool true)], args := [d1, d2] }
  | _ => none }
def rosterMarksRow : OpenClaim := { program := "ytjajdpfdhokkhaagreat", sum := "84a20667755e2daafd3906752a440b3ecb2c27183abe414e4c85db5987402b60", func := "bursary/bursarylaw18.RosterMarks", spec := "rosterMarks", unfollowed := true, recurses := true, apart := false }
def RosterMarksSaid : Prop := rosterMarksRow.holds Tryz.pinned (OpenSpec.ofChange rosterMarksSpec)

/-- ITS FALSE NEIGHBOUR: 'it returns false'. Refute it at one input. -/
def rosterMarksWrong : ChangeSpec := { name := "rosterMarks", fn := fun _ => fun
  | [d1, d2] => { results := [.lit (.bool false)], args := [d1, d2] }
  | _ => none }
def RosterMarksWrongFalsely : Prop := rosterMarksRow.holds Tryz.pinned (OpenSpec.ofChange rosterMarksWrong)

/-- 'bursarylaw24.RedoSheets': WHATEVER THE INPUT: true; the input reads as it did. -/
def redoSheetsSpec : ChangeSpec := { name := "redoSheets", fn := fun _ => fun
  | [d1, d2, d3] => { results := [.lit (.bool true)], args := [d1, d2, d3] }
  | _ => none }
def redoSheetsRow : OpenClaim := { program := "ytjajdpfdhokkhaagreat", sum := "84a20667755e2daafd3906752a440b3ecb2c27183abe414e4c85db5987402b60", func := "bursary/bursarylaw24.RedoSheets", spec := "redoSheets", unfollowed := true, recurses := true, apart := false }
def RedoSheetsSaid : Prop := redoSheetsRow.holds Tryz.pinned (OpenSpec.ofChange redoSheetsSpec)

/-- ITS FALSE NEIGHBOUR: 'it returns false'. Refute it at one input. -/
def redoSheetsWrong : ChangeSpec := { name := "redoSheets", fn := fun _ => fun
  | [d1, d2, d3] => { results := [.lit (.bool false)], args := [d1, d2, d3] }
  | _ => none }
def RedoSheetsWrongFalsely : Prop := redoSheetsRow.holds Tryz.pinned (OpenSpec.ofChange redoSheetsWrong)

/- THE SECOND FORM. 'bulk': how many values and letters a reading holds, each counted each time it is reached (what is shared counts as often as it is met; a slice's spare places count too). A statement '..UptoSaid' is the law's where the arguments, and the package variables that the reading takes, are together of bulk at most 1048576: NARROWER than '..Said'. Prove '..Said' where nothing that the law and all that it calls make is longer than what came in: it says more and counts as full. Else prove '..UptoSaid'. A law counts once. -/
mutual
def uptoBulk {H : Type} : DataW H → Nat
  | .lit (.string bytes) => bytes.length + 1
  | .lit _ => 1
  | .nil => 1
  | .ptr d => uptoBulk d + 1
  | .slice elems spare => uptoBulkAll elems + uptoBulkAll spare + 1
  | .agg parts => uptoBulkAll parts + 1
  | .iface _ d => uptoBulk d + 1
  | .map entries => uptoBulkEntries entries + 1
  | .held _ => 1
def uptoBulkAll {H : Type} : List (DataW H) → Nat
  | [] => 0
  | d :: r => uptoBulk d + uptoBulkAll r
def uptoBulkEntries {H : Type} : List (Lit × DataW H) → Nat
  | [] => 0
  | x :: r => uptoBulkEntry x + uptoBulkEntries r
def uptoBulkEntry {H : Type} : Lit × DataW H → Nat
  | (.string bytes, d) => bytes.length + uptoBulk d + 1
  | (_, d) => uptoBulk d + 1
 end
def uptoSmall : (H : Type) → List (DataW H) → Bool := fun _ ds => decide (uptoBulkAll ds ≤ 1048576)
def OpenSpec.upto (s : _root_.Go.ChangeSpec) : _root_.Go.OpenSpec := { _root_.Go.OpenSpec.ofChange s with cond := some uptoSmall }

/-- 'bursarylaw22.CkptReads', WHERE WHAT IT READS IS OF BULK AT MOST 1048576: true; the input reads as it did. -/
def ckptReadsUptoRow : OpenClaim := { program := "ytjajdpfdhokkhaagreat", sum := "84a20667755e2daafd3906752a440b3ecb2c27183abe414e4c85db5987402b60", func := "bursary/bursarylaw22.CkptReads", spec := "ckptReads", inPlace := ["slices.overlaps[bursary/api.CkPage]"], unfollowed := true, recurses := true, apart := false, narrowed := true }
def CkptReadsUptoSaid : Prop := ckptReadsUptoRow.holds Tryz.pinned (OpenSpec.upto ckptReadsSpec)

/-- 'bursarylaw12.RecordReads', WHERE WHAT IT READS IS OF BULK AT MOST 1048576: true; the input reads as it did. -/
def recordReadsUptoRow : OpenClaim := { program := "ytjajdpfdhokkhaagreat", sum := "84a20667755e2daafd3906752a440b3ecb2c27183abe414e4c85db5987402b60", func := "bursary/bursarylaw12.RecordReads", spec := "recordReads", unfollowed := true, recurses := true, apart := false, narrowed := true }
def RecordReadsUptoSaid : Prop := recordReadsUptoRow.holds Tryz.pinned (OpenSpec.upto recordReadsSpec)

/-- 'bursarylaw12.RecordLays', WHERE WHAT IT READS IS OF BULK AT MOST 1048576: true; the input reads as it did. -/
def recordLaysUptoRow : OpenClaim := { program := "ytjajdpfdhokkhaagreat", sum := "84a20667755e2daafd3906752a440b3ecb2c27183abe414e4c85db5987402b60", func := "bursary/bursarylaw12.RecordLays", spec := "recordLays", unfollowed := true, recurses := true, apart := false, narrowed := true }
def RecordLaysUptoSaid : Prop := recordLaysUptoRow.holds Tryz.pinned (OpenSpec.upto recordLaysSpec)

/-- 'bursarylaw18.RosterFrom', WHERE WHAT IT READS IS OF BULK AT MOST 1048576: true; the input reads as it did. -/
def rosterFromUptoRow : OpenClaim := { program := "ytjajdpfdhokkhaagreat", sum := "84a20667755e2daafd3906752a440b3ecb2c27183abe414e4c85db5987402b60", func := "bursary/bursarylaw18.RosterFrom", spec := "rosterFrom", unfollowed := true, recurses := true, apart := false, narrowed := true }
def RosterFromUptoSaid : Prop := rosterFromUptoRow.holds Tryz.pinned (OpenSpec.upto rosterFromSpec)

/-- 'bursarylaw18.RosterDoes', WHERE WHAT IT READS IS OF BULK AT MOST 1048576: true; the input reads as it did. -/
def rosterDoesUptoRow : OpenClaim := { program := "ytjajdpfdhokkhaagreat", sum := "84a20667755e2daafd3906752a440b3ecb2c27183abe414e4c85db5987402b60", func := "bursary/bursarylaw18.RosterDoes", spec := "rosterDoes", unfollowed := true, recurses := true, apart := false, narrowed := true }
def RosterDoesUptoSaid : Prop := rosterDoesUptoRow.holds Tryz.pinned (OpenSpec.upto rosterDoesSpec)

/-- 'bursarylaw18.RosterBack', WHERE WHAT IT READS IS OF BULK AT MOST 1048576: true; the input reads as it did. -/
def rosterBackUptoRow : OpenClaim := { program := "ytjajdpfdhokkhaagreat", sum := "84a20667755e2daafd3906752a440b3ecb2c27183abe414e4c85db5987402b60", func := "bursary/bursarylaw18.RosterBack", spec := "rosterBack", unfollowed := true, recurses := true, apart := false, narrowed := true }
def RosterBackUptoSaid : Prop := rosterBackUptoRow.holds Tryz.pinned (OpenSpec.upto rosterBackSpec)

/-- 'bursarylaw18.RosterRooms', WHERE WHAT IT READS IS OF BULK AT MOST 1048576: true; the input reads as it did. -/
def rosterRoomsUptoRow : OpenClaim := { program := "ytjajdpfdhokkhaagreat", sum := "84a20667755e2daafd3906752a440b3ecb2c27183abe414e4c85db5987402b60", func := "bursary/bursarylaw18.RosterRooms", spec := "rosterRooms", unfollowed := true, recurses := true, apart := false, narrowed := true }
def RosterRoomsUptoSaid : Prop := rosterRoomsUptoRow.holds Tryz.pinned (OpenSpec.upto rosterRoomsSpec)

/-- 'bursarylaw18.RosterTells', WHERE WHAT IT READS IS OF BULK AT MOST 1048576: true; the input reads as it did. -/
def rosterTellsUptoRow : OpenClaim := { program := "ytjajdpfdhokkhaagreat", sum := "84a20667755e2daafd3906752a440b3ecb2c27183abe414e4c85db5987402b60", func := "bursary/bursarylaw18.RosterTells", spec := "rosterTells", unfollowed := true, recurses := true, apart := false, narrowed := true }
def RosterTellsUptoSaid : Prop := rosterTellsUptoRow.holds Tryz.pinned (OpenSpec.upto rosterTellsSpec)

/-- 'bursarylaw18.RosterMarks', WHERE WHAT IT READS IS OF BULK AT MOST 1048576: true; the input reads as it did. -/
def rosterMarksUptoRow : OpenClaim := { program := "ytjajdpfdhokkhaagreat", sum := "84a20667755e2daafd3906752a440b3ecb2c27183abe414e4c85db5987402b60", func := "bursary/bursarylaw18.RosterMarks", spec := "rosterMarks", unfollowed := true, recurses := true, apart := false, narrowed := true }
def RosterMarksUptoSaid : Prop := rosterMarksUptoRow.holds Tryz.pinned (OpenSpec.upto rosterMarksSpec)

/-- 'bursarylaw24.RedoSheets', WHERE WHAT IT READS IS OF BULK AT MOST 1048576: true; the input reads as it did. -/
def redoSheetsUptoRow : OpenClaim := { program := "ytjajdpfdhokkhaagreat", sum := "84a20667755e2daafd3906752a440b3ecb2c27183abe414e4c85db5987402b60", func := "bursary/bursarylaw24.RedoSheets", spec := "redoSheets", unfollowed := true, recurses := true, apart := false, narrowed := true }
def RedoSheetsUptoSaid : Prop := redoSheetsUptoRow.holds Tryz.pinned (OpenSpec.upto redoSheetsSpec)

end Rows
end Go.Proofs.YtjajdpfdhokkhaaGreat
