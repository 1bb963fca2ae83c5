/- MADE BY PROGRAM (genbools.py) out of the text on bools. The laws' own helpers on slices of bools: szBoolS, toBoolS, eqBoolS. -/
import Derived.Test.YtnlbojckobgjpaaDoorInts
namespace Go.Proofs.YtnlbojckobgjpaaDoor
open Go.RowKit
set_option linter.unusedVariables false
