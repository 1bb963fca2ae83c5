/- IsValidImage of the reference and of the program; the law FnExactIsValidImage. -/
import Derived.Test.YthpanpedoeghoaaRecs
import Derived.Test.YthpanpedoeghoaaWithin
import Derived.Deep.RegionHeld3
set_option linter.unusedVariables false
set_option linter.unusedSimpArgs false
set_option linter.unnecessarySimpa false
namespace Go.Proofs.Ythpanpedoeghoaa
open Go.ChangeShapes Go.WideShapes Go.ChangeAt Go.RowKit
set_option linter.unusedVariables false
def sizeB (W H : Int) : Bool := inB W 1 12 && inB H 1 12
theorem sizeB_true {W H : Int} (h : sizeB W H = true) : (1 ≤ W ∧ W ≤ 12) ∧ 1 ≤ H ∧ H ≤ 12 := by
  simp [sizeB] at h
  exact ⟨inB_true h.1, inB_true h.2⟩
/-- a product of two sides, bounded -/
theorem area_rng {W H : Int} (h : sizeB W H = true) : 1 ≤ W * H ∧ W * H ≤ 144 := by
  obtain ⟨⟨a, b⟩, c, d⟩ := sizeB_true h
  refine ⟨?_, ?_⟩
  · have : (1 : Int) * 1 ≤ W * H := Int.mul_le_mul a c (by omega) (by omega)
    omega
  · have : W * H ≤ 12 * 12 := Int.mul_le_mul b d (by omega) (by omega)
    omega
def validImg (W H : Int) (l : List Int) : Bool := sizeB W H && (decide ((l.length : Int) = W * H) && allIn l 0 256)
theorem sizeB_cases (W H : Int) : (sizeB W H = true ∧ inB W 1 12 = true ∧ inB H 1 12 = true) ∨ (sizeB W H = false ∧ inB W 1 12 = false) ∨ (sizeB W H = false ∧ inB W 1 12 = true ∧ inB H 1 12 = false) := by
  unfold sizeB
  cases inB W 1 12 <;> cases inB H 1 12 <;> simp
set_option maxHeartbeats 400000 in
theorem I_sizeOk (W H : Int) (w : World) :
    Calls Try.prog 31 #[.int .i64 W, .int .i64 H] w fun e w' => e = .returned (.bool (sizeB W H)) ∧ w = w' := by
  go_enter Try.func31, Try.ntmps31
  go_wp2_with (go_at_call 15; refine (I_within _ _ _ _).mono ?_; rintro e w' ⟨rfl, rfl⟩)
  all_goals
    go_ret
    exact ⟨ret_bool (by simp_all [sizeB]), rfl⟩
end Go.Proofs.Ythpanpedoeghoaa
