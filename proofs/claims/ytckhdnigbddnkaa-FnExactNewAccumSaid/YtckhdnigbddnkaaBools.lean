/- MADE BY PROGRAM (genbools.py) out of the text on bools. The laws' own helpers on slices of bools: szBoolS, toBoolS, eqBoolS. -/
import Derived.Test.YtckhdnigbddnkaaInts
namespace Go.Proofs.Ytckhdnigbddnkaa
open Go.RowKit
set_option linter.unusedVariables false
