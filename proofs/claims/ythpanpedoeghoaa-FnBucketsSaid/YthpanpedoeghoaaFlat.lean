/- MADE BY PROGRAM (genflat.py). Flat structs: the laws' toX; eqX on equal arguments. -/
import Derived.Test.YthpanpedoeghoaaRows
import Derived.Test.YthpanpedoeghoaaMem
set_option linter.unusedVariables false
set_option linter.unusedSimpArgs false
set_option linter.unnecessarySimpa false
namespace Go.Proofs.Ythpanpedoeghoaa
open Go.RowKit
set_option linter.unusedVariables false
end Go.Proofs.Ythpanpedoeghoaa
