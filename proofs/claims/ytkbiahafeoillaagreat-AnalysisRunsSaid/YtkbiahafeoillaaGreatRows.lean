/-
  No cell of these rows narrows 'for every input' (looked for: loops, veiled, ifaces, maps, wideKeys, modest, calm, conditions, laid).
  DERIVED. THE GIVEN ROWS OF THIS SEAT. 6 by the template 'for every input the law returns true; each argument reads behind the call as it read before'; 0 by the template 'total and deterministic' (their statements: YtkbiahafeoillaaGreatTotals.lean).
  GIVEN WITH THE SEED: the statements are not yours to turn. If you find one false, say at which input.
  Laid BY PROGRAM, IN A SANDBOX (cutbox-rows.mjs): the forced cells as the released guide's own fill.sh prints them over the translation 62753665fb5508e7… (all of the seat's roots in one cut). By AI agents, Wed Nov 11 2026. No macro, syntax, notation, axiom, sorry.
-/
import Derived.Test.YtkbiahafeoillaaGreatChecked
import GoSem.Claim
import GoSem.ClaimJoined
import GoSem.ClaimMapViews
import Derived.JoinedTies
import Derived.KernelRfl
namespace Go.Proofs.YtkbiahafeoillaaGreat
/- THE CELL 'sum', in the pinned program and in every row, IS THE sha256 OF THE DUMP (.gsa) THAT YtkbiahafeoillaaGreatProg.lean LOADS. Nothing in Lean hashes anything: it is a label: what it is worth is what the hold of that sum in a sandbox is worth. -/
noncomputable def Tryz.pinned : Pinned := { name := "ytkbiahafeoillaagreat", sum := "62753665fb5508e760395258db3b566621cb7d5a581da2338540051d59d3e591", checked := Tryz.checked }
namespace Rows
def none {H : Type} : Left H := { results := [], args := [] }

/-- 'bursarylaw18.RosterMarks': WHATEVER THE INPUT: true; the input reads as it did. -/
def rosterMarksSpec : ChangeSpec := { name := "rosterMarks", fn := fun _ => fun
  | [d1, d2] => { results := [.lit (.bool true)], args := [d1, d2] }
  | _ => none }
def rosterMarksRow : OpenClaim := { program := "ytkbiahafeoillaagreat", sum := "62753665fb5508e760395258db3b566621cb7d5a581da2338540051d59d3e591", func := "bursary/bursarylaw18.RosterMarks", spec := "rosterMarks", unfollowed := true, recurses := true, apart := false }
def RosterMarksSaid : Prop := rosterMarksRow.holds Tryz.pinned (OpenSpec.ofChange rosterMarksSpec)

/-- ITS FALSE NEIGHBOUR: 'it returns false'. Refute it at one input. -/
def rosterMarksWrong : ChangeSpec := { name := "rosterMarks", fn := fun _ => fun
  | [d1, d2] => { results := [.lit (.bool false)], args := [d1, d2] }
  | _ => none }
def RosterMarksWrongFalsely : Prop := rosterMarksRow.holds Tryz.pinned (OpenSpec.ofChange rosterMarksWrong)

/-- 'bursarylaw23.AnalysisBegins': WHATEVER THE INPUT: true; the input reads as it did. -/
def analysisBeginsSpec : ChangeSpec := { name := "analysisBegins", fn := fun _ => fun
  | [d1, d2, d3] => { results := [.lit (.bool true)], args := [d1, d2, d3] }
  | _ => none }
def analysisBeginsRow : OpenClaim := { program := "ytkbiahafeoillaagreat", sum := "62753665fb5508e760395258db3b566621cb7d5a581da2338540051d59d3e591", func := "bursary/bursarylaw23.AnalysisBegins", spec := "analysisBegins", inPlace := ["slices.overlaps[bursary/api.CkPage]"], unfollowed := true, recurses := true, apart := false }
def AnalysisBeginsSaid : Prop := analysisBeginsRow.holds Tryz.pinned (OpenSpec.ofChange analysisBeginsSpec)

/-- ITS FALSE NEIGHBOUR: 'it returns false'. Refute it at one input. -/
def analysisBeginsWrong : ChangeSpec := { name := "analysisBegins", fn := fun _ => fun
  | [d1, d2, d3] => { results := [.lit (.bool false)], args := [d1, d2, d3] }
  | _ => none }
def AnalysisBeginsWrongFalsely : Prop := analysisBeginsRow.holds Tryz.pinned (OpenSpec.ofChange analysisBeginsWrong)

/-- 'bursarylaw23.AnalysisKeeps': WHATEVER THE INPUT: true; the input reads as it did. -/
def analysisKeepsSpec : ChangeSpec := { name := "analysisKeeps", fn := fun _ => fun
  | [d1, d2] => { results := [.lit (.bool true)], args := [d1, d2] }
  | _ => none }
def analysisKeepsRow : OpenClaim := { program := "ytkbiahafeoillaagreat", sum := "62753665fb5508e760395258db3b566621cb7d5a581da2338540051d59d3e591", func := "bursary/bursarylaw23.AnalysisKeeps", spec := "analysisKeeps", inPlace := ["slices.overlaps[bursary/api.CkPage]"], unfollowed := true, recurses := true, apart := false }
def AnalysisKeepsSaid : Prop := analysisKeepsRow.holds Tryz.pinned (OpenSpec.ofChange analysisKeepsSpec)

/-- ITS FALSE NEIGHBOUR: 'it returns false'. Refute it at one input. -/
def analysisKeepsWrong : ChangeSpec := { name := "analysisKeeps", fn := fun _ => fun
  | [d1, d2] => { results := [.lit (.bool false)], args := [d1, d2] }
  | _ => none }
def AnalysisKeepsWrongFalsely : Prop := analysisKeepsRow.holds Tryz.pinned (OpenSpec.ofChange analysisKeepsWrong)

/-- 'bursarylaw23.AnalysisSteps': WHATEVER THE INPUT: true; the input reads as it did. -/
def analysisStepsSpec : ChangeSpec := { name := "analysisSteps", fn := fun _ => fun
  | [d1, d2] => { results := [.lit (.bool true)], args := [d1, d2] }
  | _ => none }
def analysisStepsRow : OpenClaim := { program := "ytkbiahafeoillaagreat", sum := "62753665fb5508e760395258db3b566621cb7d5a581da2338540051d59d3e591", func := "bursary/bursarylaw23.AnalysisSteps", spec := "analysisSteps", inPlace := ["slices.overlaps[bursary/api.CkPage]"], unfollowed := true, recurses := true, apart := false }
def AnalysisStepsSaid : Prop := analysisStepsRow.holds Tryz.pinned (OpenSpec.ofChange analysisStepsSpec)

/-- ITS FALSE NEIGHBOUR: 'it returns false'. Refute it at one input. -/
def analysisStepsWrong : ChangeSpec := { name := "analysisSteps", fn := fun _ => fun
  | [d1, d2] => { results := [.lit (.bool false)], args := [d1, d2] }
  | _ => none }
def AnalysisStepsWrongFalsely : Prop := analysisStepsRow.holds Tryz.pinned (OpenSpec.ofChange analysisStepsWrong)

/-- 'bursarylaw23.AnalysisRuns': WHATEVER THE INPUT: true; the input reads as it did. -/
def analysisRunsSpec : ChangeSpec := { name := "analysisRuns", fn := fun _ => fun
  | [d1, d2] => { results := [.lit (.bool true)], args := [d1, d2] }
  | _ => none }
def analysisRunsRow : OpenClaim := { program := "ytkbiahafeoillaagreat", sum := "62753665fb5508e760395258db3b566621cb7d5a581da2338540051d59d3e591", func := "bursary/bursarylaw23.AnalysisRuns", spec := "analysisRuns", inPlace := ["slices.overlaps[bursary/api.CkPage]"], unfollowed := true, recurses := true, apart := false }
def AnalysisRunsSaid : Prop := analysisRunsRow.holds Tryz.pinned (OpenSpec.ofChange analysisRunsSpec)

/-- ITS FALSE NEIGHBOUR: 'it returns false'. Refute it at one input. -/
def analysisRunsWrong : ChangeSpec := { name := "analysisRuns", fn := fun _ => fun
  | [d1, d2] => { results := [.lit (.bool false)], args := [d1, d2] }
  | _ => none }
def AnalysisRunsWrongFalsely : Prop := analysisRunsRow.holds Tryz.pinned (OpenSpec.ofChange analysisRunsWrong)

/-- 'bursarylaw23.AnalysisFinds': WHATEVER THE INPUT: true; the input reads as it did. -/
def analysisFindsSpec : ChangeSpec := { name := "analysisFinds", fn := fun _ => fun
  | [d1, d2] => { results := [.lit (.bool true)], args := [d1, d2] }
  | _ => none }
def analysisFindsRow : OpenClaim := { program := "ytkbiahafeoillaagreat", sum := "62753665fb5508e760395258db3b566621cb7d5a581da2338540051d59d3e591", func := "bursary/bursarylaw23.AnalysisFinds", spec := "analysisFinds", inPlace := ["slices.overlaps[bursary/api.CkPage]"], unfollowed := true, recurses := true, apart := false }
def AnalysisFindsSaid : Prop := analysisFindsRow.holds Tryz.pinned (OpenSpec.ofChange analysisFindsSpec)

/-- ITS FALSE NEIGHBOUR: 'it returns false'. Refute it at one input. -/
def analysisFindsWrong : ChangeSpec := { name := "analysisFinds", fn := fun _ => fun
  | [d1, d2] => { results := [.lit (.bool false)], args := [d1, d2] }
  | _ => none }
def AnalysisFindsWrongFalsely : Prop := analysisFindsRow.holds Tryz.pinned (OpenSpec.ofChange analysisFindsWrong)

/- THE SECOND FORM. 'bulk': how many values and letters a reading holds, each counted each time it is reached (what is shared counts as often as it is met; a slice's spare places count too). A statement '..UptoSaid' is the law's where the arguments, and the package variables that the reading takes, are together of bulk at most 1048576: NARROWER than '..Said'. Prove '..Said' where nothing that the law and all that it calls make is longer than what came in: it says more and counts as full. Else prove '..UptoSaid'. A law counts once. -/
mutual
def uptoBulk {H : Type} : DataW H → Nat
  | .lit (.string bytes) => bytes.length + 1
  | .lit _ => 1
  | .nil => 1
  | .ptr d => uptoBulk d + 1
  | .slice elems spare => uptoBulkAll elems + uptoBulkAll spare + 1
  | .agg parts => uptoBulkAll parts + 1
  | .iface _ d => uptoBulk d + 1
  | .map entries => uptoBulkEntries entries + 1
  | .held _ => 1
def uptoBulkAll {H : Type} : List (DataW H) → Nat
  | [] => 0
  | d :: r => uptoBulk d + uptoBulkAll r
def uptoBulkEntries {H : Type} : List (Lit × DataW H) → Nat
  | [] => 0
  | x :: r => uptoBulkEntry x + uptoBulkEntries r
def uptoBulkEntry {H : Type} : Lit × DataW H → Nat
  | (.string bytes, d) => bytes.length + uptoBulk d + 1
  | (_, d) => uptoBulk d + 1
 end
def uptoSmall : (H : Type) → List (DataW H) → Bool := fun _ ds => decide (uptoBulkAll ds ≤ 1048576)
def OpenSpec.upto (s : _root_.Go.ChangeSpec) : _root_.Go.OpenSpec := { _root_.Go.OpenSpec.ofChange s with cond := some uptoSmall }

/-- 'bursarylaw18.RosterMarks', WHERE WHAT IT READS IS OF BULK AT MOST 1048576: true; the input reads as it did. -/
def rosterMarksUptoRow : OpenClaim := { program := "ytkbiahafeoillaagreat", sum := "62753665fb5508e760395258db3b566621cb7d5a581da2338540051d59d3e591", func := "bursary/bursarylaw18.RosterMarks", spec := "rosterMarks", unfollowed := true, recurses := true, apart := false, narrowed := true }
def RosterMarksUptoSaid : Prop := rosterMarksUptoRow.holds Tryz.pinned (OpenSpec.upto rosterMarksSpec)

/-- 'bursarylaw23.AnalysisBegins', WHERE WHAT IT READS IS OF BULK AT MOST 1048576: true; the input reads as it did. -/
def analysisBeginsUptoRow : OpenClaim := { program := "ytkbiahafeoillaagreat", sum := "62753665fb5508e760395258db3b566621cb7d5a581da2338540051d59d3e591", func := "bursary/bursarylaw23.AnalysisBegins", spec := "analysisBegins", inPlace := ["slices.overlaps[bursary/api.CkPage]"], unfollowed := true, recurses := true, apart := false, narrowed := true }
def AnalysisBeginsUptoSaid : Prop := analysisBeginsUptoRow.holds Tryz.pinned (OpenSpec.upto analysisBeginsSpec)

/-- 'bursarylaw23.AnalysisKeeps', WHERE WHAT IT READS IS OF BULK AT MOST 1048576: true; the input reads as it did. -/
def analysisKeepsUptoRow : OpenClaim := { program := "ytkbiahafeoillaagreat", sum := "62753665fb5508e760395258db3b566621cb7d5a581da2338540051d59d3e591", func := "bursary/bursarylaw23.AnalysisKeeps", spec := "analysisKeeps", inPlace := ["slices.overlaps[bursary/api.CkPage]"], unfollowed := true, recurses := true, apart := false, narrowed := true }
def AnalysisKeepsUptoSaid : Prop := analysisKeepsUptoRow.holds Tryz.pinned (OpenSpec.upto analysisKeepsSpec)

/-- 'bursarylaw23.AnalysisSteps', WHERE WHAT IT READS IS OF BULK AT MOST 1048576: true; the input reads as it did. -/
def analysisStepsUptoRow : OpenClaim := { program := "ytkbiahafeoillaagreat", sum := "62753665fb5508e760395258db3b566621cb7d5a581da2338540051d59d3e591", func := "bursary/bursarylaw23.AnalysisSteps", spec := "analysisSteps", inPlace := ["slices.overlaps[bursary/api.CkPage]"], unfollowed := true, recurses := true, apart := false, narrowed := true }
def AnalysisStepsUptoSaid : Prop := analysisStepsUptoRow.holds Tryz.pinned (OpenSpec.upto analysisStepsSpec)

/-- 'bursarylaw23.AnalysisRuns', WHERE WHAT IT READS IS OF BULK AT MOST 1048576: true; the input reads as it did. -/
def analysisRunsUptoRow : OpenClaim := { program := "ytkbiahafeoillaagreat", sum := "62753665fb5508e760395258db3b566621cb7d5a581da2338540051d59d3e591", func := "bursary/bursarylaw23.AnalysisRuns", spec := "analysisRuns", inPlace := ["slices.overlaps[bursary/api.CkPage]"], unfollowed := true, recurses := true, apart := false, narrowed := true }
def AnalysisRunsUptoSaid : Prop := analysisRunsUptoRow.holds Tryz.pinned (OpenSpec.upto analysisRunsSpec)

/-- 'bursarylaw23.AnalysisFinds', WHERE WHAT IT READS IS OF BULK AT MOST 1048576: true; the input reads as it did. -/
def analysisFindsUptoRow : OpenClaim := { program := "ytkbiahafeoillaagreat", sum := "62753665fb5508e760395258db3b566621cb7d5a581da2338540051d59d3e591", func := "bursary/bursarylaw23.AnalysisFinds", spec := "analysisFinds", inPlace := ["slices.overlaps[bursary/api.CkPage]"], unfollowed := true, recurses := true, apart := false, narrowed := true }
def AnalysisFindsUptoSaid : Prop := analysisFindsUptoRow.holds Tryz.pinned (OpenSpec.upto analysisFindsSpec)

end Rows
end Go.Proofs.YtkbiahafeoillaaGreat
