/- NewAccum and NewFilm of the reference and of the program. -/
import Derived.Test.YthpanpedoeghoaaCamera
import Derived.Test.YthpanpedoeghoaaRecs
import Derived.Test.YthpanpedoeghoaaImageV
import Derived.Deep.RegionHeld3
import Derived.Deep.DeepCutAuto
set_option linter.unusedVariables false
set_option linter.unusedSimpArgs false
set_option linter.unnecessarySimpa false
namespace Go.Proofs.Ythpanpedoeghoaa
open Go.RowKit
set_option linter.unusedVariables false
/-- An integer made into a natural number. -/
theorem area_nat {W H : Int} (h : sizeB W H = true) : ∃ n : Nat, W * H = n ∧ 1 ≤ n ∧ n ≤ 144 := by
  have := area_rng h
  exact ⟨(W * H).toNat, by omega, by omega, by omega⟩
theorem validCam_size {a b c d f g : Int} (h : validCam a b c d f g = true) : sizeB a b = true := by
  simp only [validCam, Bool.and_eq_true] at h
  unfold sizeB
  rw [h.1, h.2.1]
  rfl
theorem zeros_ints (n : Nat) : (madeCells #[Value.int .i64 0] n).toList = ints (List.replicate n 0) := by rw [toList_madeCells_one]; simp [ints]
end Go.Proofs.Ythpanpedoeghoaa
