/- slices.Equal on ints and bools; SameImage, SameAccum, SameFilm of the reference and of the program. -/
import Derived.Test.YthpanpedoeghoaaRecs
set_option linter.unusedVariables false
set_option linter.unusedSimpArgs false
set_option linter.unnecessarySimpa false
namespace Go.Proofs.Ythpanpedoeghoaa
open Go.RowKit
set_option linter.unusedVariables false
def sameImg (W H : Int) (l : List Int) (W' H' : Int) (l' : List Int) : Bool := decide (W = W') && (decide (H = H') && decide (l = l'))
end Go.Proofs.Ythpanpedoeghoaa
