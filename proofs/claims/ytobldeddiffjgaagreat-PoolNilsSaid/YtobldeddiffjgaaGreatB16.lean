/- The law PoolNils. Part 16 of 18. -/
import Derived.Test.YtobldeddiffjgaaGreatB15
namespace Go.Proofs.E
open Go
set_option linter.unusedVariables false
set_option linter.unusedSimpArgs false
set_option linter.unusedSectionVars false
set_option maxRecDepth 4000
set_option maxHeartbeats 1000000
attribute [local irreducible] Yl TL TC TE Spec XZ R1 Hp.le EnvLe TS TR YS Zq
end Go.Proofs.E
