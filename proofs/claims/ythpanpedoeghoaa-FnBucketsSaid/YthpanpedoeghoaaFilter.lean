/- The filters: IsValidFilter, FilterExtent, FilterWeight, FilterWindow, of the reference and of the program. -/
import Derived.Test.YthpanpedoeghoaaLaw
import Derived.Test.YthpanpedoeghoaaOpen
import Derived.Test.YthpanpedoeghoaaPure
import Derived.Test.YthpanpedoeghoaaFlat
set_option linter.unusedVariables false
set_option linter.unusedSimpArgs false
set_option linter.unnecessarySimpa false
namespace Go.Proofs.Ythpanpedoeghoaa
open Go.ChangeShapes Go.WideShapes Go.ChangeAt Go.RowKit
set_option linter.unusedVariables false
abbrev vFilter (k r : Int) : Value := .agg #[.int .i64 k, .int .i64 r]
def validF (k r : Int) : Bool := inB k 1 2 && inB r 1 3
def extF (k r : Int) : Int := if validF k r then 16 * (2 * r - 1) else 0
theorem validF_rng {k r : Int} (h : validF k r = true) : 1 ≤ k ∧ k ≤ 2 ∧ 1 ≤ r ∧ r ≤ 3 := by
  simp [validF] at h
  have h1 := inB_true h.1
  have h2 := inB_true h.2
  omega
end Go.Proofs.Ythpanpedoeghoaa
