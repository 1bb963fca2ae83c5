/- MADE BY PROGRAM (genflat.py). Flat structs: the laws' toX; eqX on equal arguments. -/
import Derived.Test.YtnlbojckobgjpaaDoorRows
import Derived.Test.YtnlbojckobgjpaaDoorMem
namespace Go.Proofs.YtnlbojckobgjpaaDoor
open Go.RowKit
set_option linter.unusedVariables false
end Go.Proofs.YtnlbojckobgjpaaDoor
