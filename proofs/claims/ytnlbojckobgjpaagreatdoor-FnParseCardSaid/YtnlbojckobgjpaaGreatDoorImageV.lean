/- IsValidImage of the reference and of the program; the law FnExactIsValidImage. -/
import Derived.Test.YtnlbojckobgjpaaGreatDoorMgD
import Derived.Test.YtnlbojckobgjpaaGreatDoorMgC
import Derived.Deep.RegionHeld3
set_option linter.unusedVariables false
set_option linter.unusedSimpArgs false
namespace Go.Proofs.YtnlbojckobgjpaaGreatDoor
open Go.ChangeShapes Go.WideShapes Go.ChangeAt Go.RowKit
def sizeB (W H : Int) : Bool := inB W 1 12 && inB H 1 12
theorem sizeB_true {W H : Int} (h : sizeB W H = true) : (1 ≤ W ∧ W ≤ 12) ∧ 1 ≤ H ∧ H ≤ 12 := by
  simp [sizeB] at h
  exact ⟨inB_true h.1, inB_true h.2⟩
/-- a product of two sides, bounded -/
theorem area_rng {W H : Int} (h : sizeB W H = true) : 1 ≤ W * H ∧ W * H ≤ 144 := by
  obtain ⟨⟨a, b⟩, c, d⟩ := sizeB_true h
  refine ⟨?_, ?_⟩
  · have : (1 : Int) * 1 ≤ W * H := Int.mul_le_mul a c (by omega) (by omega)
    omega
  · have : W * H ≤ 12 * 12 := Int.mul_le_mul b d (by omega) (by omega)
    omega
def validImg (W H : Int) (l : List Int) : Bool := sizeB W H && (decide ((l.length : Int) = W * H) && allIn l 0 256)
theorem sizeB_cases (W H : Int) : (sizeB W H = true ∧ inB W 1 12 = true ∧ inB H 1 12 = true) ∨ (sizeB W H = false ∧ inB W 1 12 = false) ∨ (sizeB W H = false ∧ inB W 1 12 = true ∧ inB H 1 12 = false) := by
  unfold sizeB
  cases inB W 1 12 <;> cases inB H 1 12 <;> simp
end Go.Proofs.YtnlbojckobgjpaaGreatDoor
