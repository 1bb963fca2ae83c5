/- ImageDigest of the reference and of the program. -/
import Derived.Test.YthpanpedoeghoaaImageV
import Derived.Test.YthpanpedoeghoaaDivs
import Derived.Test.YthpanpedoeghoaaApp
set_option linter.unusedVariables false
set_option linter.unusedSimpArgs false
set_option linter.unnecessarySimpa false
namespace Go.Proofs.Ythpanpedoeghoaa
open Go.RowKit
set_option linter.unusedVariables false
def digF (W H : Int) (l : List Int) : Int := if validImg W H l then hashF (W :: H :: l) else -1
theorem validImg_len {W H : Int} {l : List Int} (h : validImg W H l = true) : (1 ≤ W ∧ W ≤ 12) ∧ (1 ≤ H ∧ H ≤ 12) ∧ (l.length : Int) = W * H ∧ l.length ≤ 144 ∧ allIn l 0 256 = true := by
  unfold validImg at h
  simp only [Bool.and_eq_true, decide_eq_true_eq] at h
  obtain ⟨h1, h2, h3⟩ := h
  obtain ⟨a, b⟩ := sizeB_true h1
  have := area_rng h1
  exact ⟨a, b, h2, by omega, h3⟩
end Go.Proofs.Ythpanpedoeghoaa
