/-
  No cell of these rows narrows 'for every input' (looked for: loops, veiled, ifaces, maps, wideKeys, modest, calm, conditions, laid).
  DERIVED. THE GIVEN ROWS OF THIS SEAT. 8 by the template 'for every input the law returns true; each argument reads behind the call as it read before'; 0 by the template 'total and deterministic' (their statements: YtpcfmhifkkpjpaaGreatTotals.lean).
  GIVEN WITH THE SEED: the statements are not yours to turn. If you find one false, say at which input.
  Laid BY PROGRAM, IN A SANDBOX (cutbox-rows.mjs): the forced cells as the released guide's own fill.sh prints them over the translation 9056f93af1cb68f4… (all of the seat's roots in one cut). By AI agents, Wed Nov 11 2026. No macro, syntax, notation, axiom, sorry.
-/
import Derived.Test.YtpcfmhifkkpjpaaGreatChecked
import GoSem.Claim
import GoSem.ClaimJoined
import GoSem.ClaimMapViews
import Derived.JoinedTies
import Derived.KernelRfl
namespace Go.Proofs.YtpcfmhifkkpjpaaGreat
/- THE CELL 'sum', in the pinned program and in every row, IS THE sha256 OF THE DUMP (.gsa) THAT YtpcfmhifkkpjpaaGreatProg.lean LOADS. Nothing in Lean hashes anything: it is a label: what it is worth is what the hold of that sum in a sandbox is worth. -/
noncomputable def Tryz.pinned : Pinned := { name := "ytpcfmhifkkpjpaagreat", sum := "9056f93af1cb68f46e5b13b810dbe0e387fc8157b600d2cd1c1c3005eb45be7f", checked := Tryz.checked }
namespace Rows
def none {H : Type} : Left H := { results := [], args := [] }

/-- 'bursarylaw16.LogReads': WHATEVER THE INPUT: true; the input reads as it did. -/
def logReadsSpec : ChangeSpec := { name := "logReads", fn := fun _ => fun
  | [d1, d2, d3] => { results := [.lit (.bool true)], args := [d1, d2, d3] }
  | _ => none }
def logReadsRow : OpenClaim := { program := "ytpcfmhifkkpjpaagreat", sum := "9056f93af1cb68f46e5b13b810dbe0e387fc8157b600d2cd1c1c3005eb45be7f", func := "bursary/bursarylaw16.LogReads", spec := "logReads", inPlace := ["maps.clone"], unfollowed := true, recurses := true, apart := false }
def LogReadsSaid : Prop := logReadsRow.holds Tryz.pinned (OpenSpec.ofChange logReadsSpec)

/-- ITS FALSE NEIGHBOUR: 'it returns false'. Refute it at one input. -/
def logReadsWrong : ChangeSpec := { name := "logReads", fn := fun _ => fun
  | [d1, d2, d3] => { results := [.lit (.bool false)], args := [d1, d2, d3] }
  | _ => none }
def LogReadsWrongFalsely : Prop := logReadsRow.holds Tryz.pinned (OpenSpec.ofChange logReadsWrong)

/-- 'bursarylaw16.LogRoom': WHATEVER THE INPUT: true; the input reads as it did. -/
def logRoomSpec : ChangeSpec := { name := "logRoom", fn := fun _ => fun
  | [d1, d2] => { results := [.lit (.bool true)], args := [d1, d2] }
  | _ => none }
def logRoomRow : OpenClaim := { program := "ytpcfmhifkkpjpaagreat", sum := "9056f93af1cb68f46e5b13b810dbe0e387fc8157b600d2cd1c1c3005eb45be7f", func := "bursary/bursarylaw16.LogRoom", spec := "logRoom", unfollowed := true, recurses := true, apart := false }
def LogRoomSaid : Prop := logRoomRow.holds Tryz.pinned (OpenSpec.ofChange logRoomSpec)

/-- ITS FALSE NEIGHBOUR: 'it returns false'. Refute it at one input. -/
def logRoomWrong : ChangeSpec := { name := "logRoom", fn := fun _ => fun
  | [d1, d2] => { results := [.lit (.bool false)], args := [d1, d2] }
  | _ => none }
def LogRoomWrongFalsely : Prop := logRoomRow.holds Tryz.pinned (OpenSpec.ofChange logRoomWrong)

/-- 'bursarylaw24.RedoSteps': WHATEVER THE INPUT: true; the input reads as it did. -/
def redoStepsSpec : ChangeSpec := { name := "redoSteps", fn := fun _ => fun
  | [d1, d2, d3] => { results := [.lit (.bool true)], args := [d1, d2, d3] }
  | _ => none }
def redoStepsRow : OpenClaim := { program := "ytpcfmhifkkpjpaagreat", sum := "9056f93af1cb68f46e5b13b810dbe0e387fc8157b600d2cd1c1c3005eb45be7f", func := "bursary/bursarylaw24.RedoSteps", spec := "redoSteps", unfollowed := true, recurses := true, apart := false }
def RedoStepsSaid : Prop := redoStepsRow.holds Tryz.pinned (OpenSpec.ofChange redoStepsSpec)

/-- ITS FALSE NEIGHBOUR: 'it returns false'. Refute it at one input. -/
def redoStepsWrong : ChangeSpec := { name := "redoSteps", fn := fun _ => fun
  | [d1, d2, d3] => { results := [.lit (.bool false)], args := [d1, d2, d3] }
  | _ => none }
def RedoStepsWrongFalsely : Prop := redoStepsRow.holds Tryz.pinned (OpenSpec.ofChange redoStepsWrong)

/-- 'bursarylaw16.LogDoes': WHATEVER THE INPUT: true; the input reads as it did. -/
def logDoesSpec : ChangeSpec := { name := "logDoes", fn := fun _ => fun
  | [d] => { results := [.lit (.bool true)], args := [d] }
  | _ => none }
def logDoesRow : OpenClaim := { program := "ytpcfmhifkkpjpaagreat", sum := "9056f93af1cb68f46e5b13b810dbe0e387fc8157b600d2cd1c1c3005eb45be7f", func := "bursary/bursarylaw16.LogDoes", spec := "logDoes", unfollowed := true, recurses := true, apart := false }
def LogDoesSaid : Prop := logDoesRow.holds Tryz.pinned (OpenSpec.ofChange logDoesSpec)

/-- ITS FALSE NEIGHBOUR: 'it returns false'. Refute it at one input. -/
def logDoesWrong : ChangeSpec := { name := "logDoes", fn := fun _ => fun
  | [d] => { results := [.lit (.bool false)], args := [d] }
  | _ => none }
def LogDoesWrongFalsely : Prop := logDoesRow.holds Tryz.pinned (OpenSpec.ofChange logDoesWrong)

/-- 'bursarylaw24.RedoAll': WHATEVER THE INPUT: true; the input reads as it did. -/
def redoAllSpec : ChangeSpec := { name := "redoAll", fn := fun _ => fun
  | [d1, d2] => { results := [.lit (.bool true)], args := [d1, d2] }
  | _ => none }
def redoAllRow : OpenClaim := { program := "ytpcfmhifkkpjpaagreat", sum := "9056f93af1cb68f46e5b13b810dbe0e387fc8157b600d2cd1c1c3005eb45be7f", func := "bursary/bursarylaw24.RedoAll", spec := "redoAll", unfollowed := true, recurses := true, apart := false }
def RedoAllSaid : Prop := redoAllRow.holds Tryz.pinned (OpenSpec.ofChange redoAllSpec)

/-- ITS FALSE NEIGHBOUR: 'it returns false'. Refute it at one input. -/
def redoAllWrong : ChangeSpec := { name := "redoAll", fn := fun _ => fun
  | [d1, d2] => { results := [.lit (.bool false)], args := [d1, d2] }
  | _ => none }
def RedoAllWrongFalsely : Prop := redoAllRow.holds Tryz.pinned (OpenSpec.ofChange redoAllWrong)

/-- 'bursarylaw24.RedoOthers': WHATEVER THE INPUT: true; the input reads as it did. -/
def redoOthersSpec : ChangeSpec := { name := "redoOthers", fn := fun _ => fun
  | [d1, d2] => { results := [.lit (.bool true)], args := [d1, d2] }
  | _ => none }
def redoOthersRow : OpenClaim := { program := "ytpcfmhifkkpjpaagreat", sum := "9056f93af1cb68f46e5b13b810dbe0e387fc8157b600d2cd1c1c3005eb45be7f", func := "bursary/bursarylaw24.RedoOthers", spec := "redoOthers", unfollowed := true, recurses := true, apart := false }
def RedoOthersSaid : Prop := redoOthersRow.holds Tryz.pinned (OpenSpec.ofChange redoOthersSpec)

/-- ITS FALSE NEIGHBOUR: 'it returns false'. Refute it at one input. -/
def redoOthersWrong : ChangeSpec := { name := "redoOthers", fn := fun _ => fun
  | [d1, d2] => { results := [.lit (.bool false)], args := [d1, d2] }
  | _ => none }
def RedoOthersWrongFalsely : Prop := redoOthersRow.holds Tryz.pinned (OpenSpec.ofChange redoOthersWrong)

/-- 'bursarylaw24.RedoLast': WHATEVER THE INPUT: true; the input reads as it did. -/
def redoLastSpec : ChangeSpec := { name := "redoLast", fn := fun _ => fun
  | [d1, d2] => { results := [.lit (.bool true)], args := [d1, d2] }
  | _ => none }
def redoLastRow : OpenClaim := { program := "ytpcfmhifkkpjpaagreat", sum := "9056f93af1cb68f46e5b13b810dbe0e387fc8157b600d2cd1c1c3005eb45be7f", func := "bursary/bursarylaw24.RedoLast", spec := "redoLast", inPlace := ["slices.overlaps[bursary/api.CkPage]"], unfollowed := true, recurses := true, apart := false }
def RedoLastSaid : Prop := redoLastRow.holds Tryz.pinned (OpenSpec.ofChange redoLastSpec)

/-- ITS FALSE NEIGHBOUR: 'it returns false'. Refute it at one input. -/
def redoLastWrong : ChangeSpec := { name := "redoLast", fn := fun _ => fun
  | [d1, d2] => { results := [.lit (.bool false)], args := [d1, d2] }
  | _ => none }
def RedoLastWrongFalsely : Prop := redoLastRow.holds Tryz.pinned (OpenSpec.ofChange redoLastWrong)

/-- 'bursarylaw17.PoolRule': WHATEVER THE INPUT: true; the input reads as it did. -/
def poolRuleSpec : ChangeSpec := { name := "poolRule", fn := fun _ => fun
  | [d1, d2] => { results := [.lit (.bool true)], args := [d1, d2] }
  | _ => none }
def poolRuleRow : OpenClaim := { program := "ytpcfmhifkkpjpaagreat", sum := "9056f93af1cb68f46e5b13b810dbe0e387fc8157b600d2cd1c1c3005eb45be7f", func := "bursary/bursarylaw17.PoolRule", spec := "poolRule", unfollowed := true, recurses := true, apart := false }
def PoolRuleSaid : Prop := poolRuleRow.holds Tryz.pinned (OpenSpec.ofChange poolRuleSpec)

/-- ITS FALSE NEIGHBOUR: 'it returns false'. Refute it at one input. -/
def poolRuleWrong : ChangeSpec := { name := "poolRule", fn := fun _ => fun
  | [d1, d2] => { results := [.lit (.bool false)], args := [d1, d2] }
  | _ => none }
def PoolRuleWrongFalsely : Prop := poolRuleRow.holds Tryz.pinned (OpenSpec.ofChange poolRuleWrong)

/- THE SECOND FORM. 'bulk': how many values and letters a reading holds, each counted each time it is reached (what is shared counts as often as it is met; a slice's spare places count too). A statement '..UptoSaid' is the law's where the arguments, and the package variables that the reading takes, are together of bulk at most 1048576: NARROWER than '..Said'. Prove '..Said' where nothing that the law and all that it calls make is longer than what came in: it says more and counts as full. Else prove '..UptoSaid'. A law counts once. -/
mutual
def uptoBulk {H : Type} : DataW H → Nat
  | .lit (.string bytes) => bytes.length + 1
  | .lit _ => 1
  | .nil => 1
  | .ptr d => uptoBulk d + 1
  | .slice elems spare => uptoBulkAll elems + uptoBulkAll spare + 1
  | .agg parts => uptoBulkAll parts + 1
  | .iface _ d => uptoBulk d + 1
  | .map entries => uptoBulkEntries entries + 1
  | .held _ => 1
def uptoBulkAll {H : Type} : List (DataW H) → Nat
  | [] => 0
  | d :: r => uptoBulk d + uptoBulkAll r
def uptoBulkEntries {H : Type} : List (Lit × DataW H) → Nat
  | [] => 0
  | x :: r => uptoBulkEntry x + uptoBulkEntries r
def uptoBulkEntry {H : Type} : Lit × DataW H → Nat
  | (.string bytes, d) => bytes.length + uptoBulk d + 1
  | (_, d) => uptoBulk d + 1
 end
def uptoSmall : (H : Type) → List (DataW H) → Bool := fun _ ds => decide (uptoBulkAll ds ≤ 1048576)
def OpenSpec.upto (s : _root_.Go.ChangeSpec) : _root_.Go.OpenSpec := { _root_.Go.OpenSpec.ofChange s with cond := some uptoSmall }

/-- 'bursarylaw16.LogReads', WHERE WHAT IT READS IS OF BULK AT MOST 1048576: true; the input reads as it did. -/
def logReadsUptoRow : OpenClaim := { program := "ytpcfmhifkkpjpaagreat", sum := "9056f93af1cb68f46e5b13b810dbe0e387fc8157b600d2cd1c1c3005eb45be7f", func := "bursary/bursarylaw16.LogReads", spec := "logReads", inPlace := ["maps.clone"], unfollowed := true, recurses := true, apart := false, narrowed := true }
def LogReadsUptoSaid : Prop := logReadsUptoRow.holds Tryz.pinned (OpenSpec.upto logReadsSpec)

/-- 'bursarylaw16.LogRoom', WHERE WHAT IT READS IS OF BULK AT MOST 1048576: true; the input reads as it did. -/
def logRoomUptoRow : OpenClaim := { program := "ytpcfmhifkkpjpaagreat", sum := "9056f93af1cb68f46e5b13b810dbe0e387fc8157b600d2cd1c1c3005eb45be7f", func := "bursary/bursarylaw16.LogRoom", spec := "logRoom", unfollowed := true, recurses := true, apart := false, narrowed := true }
def LogRoomUptoSaid : Prop := logRoomUptoRow.holds Tryz.pinned (OpenSpec.upto logRoomSpec)

/-- 'bursarylaw24.RedoSteps', WHERE WHAT IT READS IS OF BULK AT MOST 1048576: true; the input reads as it did. -/
def redoStepsUptoRow : OpenClaim := { program := "ytpcfmhifkkpjpaagreat", sum := "9056f93af1cb68f46e5b13b810dbe0e387fc8157b600d2cd1c1c3005eb45be7f", func := "bursary/bursarylaw24.RedoSteps", spec := "redoSteps", unfollowed := true, recurses := true, apart := false, narrowed := true }
def RedoStepsUptoSaid : Prop := redoStepsUptoRow.holds Tryz.pinned (OpenSpec.upto redoStepsSpec)

/-- 'bursarylaw16.LogDoes', WHERE WHAT IT READS IS OF BULK AT MOST 1048576: true; the input reads as it did. -/
def logDoesUptoRow : OpenClaim := { program := "ytpcfmhifkkpjpaagreat", sum := "9056f93af1cb68f46e5b13b810dbe0e387fc8157b600d2cd1c1c3005eb45be7f", func := "bursary/bursarylaw16.LogDoes", spec := "logDoes", unfollowed := true, recurses := true, apart := false, narrowed := true }
def LogDoesUptoSaid : Prop := logDoesUptoRow.holds Tryz.pinned (OpenSpec.upto logDoesSpec)

/-- 'bursarylaw24.RedoAll', WHERE WHAT IT READS IS OF BULK AT MOST 1048576: true; the input reads as it did. -/
def redoAllUptoRow : OpenClaim := { program := "ytpcfmhifkkpjpaagreat", sum := "9056f93af1cb68f46e5b13b810dbe0e387fc8157b600d2cd1c1c3005eb45be7f", func := "bursary/bursarylaw24.RedoAll", spec := "redoAll", unfollowed := true, recurses := true, apart := false, narrowed := true }
def RedoAllUptoSaid : Prop := redoAllUptoRow.holds Tryz.pinned (OpenSpec.upto redoAllSpec)

/-- 'bursarylaw24.RedoOthers', WHERE WHAT IT READS IS OF BULK AT MOST 1048576: true; the input reads as it did. -/
def redoOthersUptoRow : OpenClaim := { program := "ytpcfmhifkkpjpaagreat", sum := "9056f93af1cb68f46e5b13b810dbe0e387fc8157b600d2cd1c1c3005eb45be7f", func := "bursary/bursarylaw24.RedoOthers", spec := "redoOthers", unfollowed := true, recurses := true, apart := false, narrowed := true }
def RedoOthersUptoSaid : Prop := redoOthersUptoRow.holds Tryz.pinned (OpenSpec.upto redoOthersSpec)

/-- 'bursarylaw24.RedoLast', WHERE WHAT IT READS IS OF BULK AT MOST 1048576: true; the input reads as it did. -/
def redoLastUptoRow : OpenClaim := { program := "ytpcfmhifkkpjpaagreat", sum := "9056f93af1cb68f46e5b13b810dbe0e387fc8157b600d2cd1c1c3005eb45be7f", func := "bursary/bursarylaw24.RedoLast", spec := "redoLast", inPlace := ["slices.overlaps[bursary/api.CkPage]"], unfollowed := true, recurses := true, apart := false, narrowed := true }
def RedoLastUptoSaid : Prop := redoLastUptoRow.holds Tryz.pinned (OpenSpec.upto redoLastSpec)

/-- 'bursarylaw17.PoolRule', WHERE WHAT IT READS IS OF BULK AT MOST 1048576: true; the input reads as it did. -/
def poolRuleUptoRow : OpenClaim := { program := "ytpcfmhifkkpjpaagreat", sum := "9056f93af1cb68f46e5b13b810dbe0e387fc8157b600d2cd1c1c3005eb45be7f", func := "bursary/bursarylaw17.PoolRule", spec := "poolRule", unfollowed := true, recurses := true, apart := false, narrowed := true }
def PoolRuleUptoSaid : Prop := poolRuleUptoRow.holds Tryz.pinned (OpenSpec.upto poolRuleSpec)

end Rows
end Go.Proofs.YtpcfmhifkkpjpaaGreat
