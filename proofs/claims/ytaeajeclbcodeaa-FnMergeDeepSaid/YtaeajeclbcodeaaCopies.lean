/- slices.Clone on ints and bools; the copies of accumulation buffers, films and images. -/
import Derived.Test.YtaeajeclbcodeaaMade
import Derived.WalkSpells
import Derived.Deep.RegionHeld3
namespace Go.Proofs.Ytaeajeclbcodeaa
open Go.RowKit
set_option linter.unusedVariables false
set_option maxRecDepth 20000
end Go.Proofs.Ytaeajeclbcodeaa
