/- Cameras: IsValidCamera of the reference and of the program; inImage. -/
import Derived.Test.YthpanpedoeghoaaLaw
import Derived.Test.YthpanpedoeghoaaOpen
import Derived.Test.YthpanpedoeghoaaPure
import Derived.Test.YthpanpedoeghoaaFlat
set_option linter.unusedVariables false
set_option linter.unusedSimpArgs false
set_option linter.unnecessarySimpa false
namespace Go.Proofs.Ythpanpedoeghoaa
open Go.ChangeShapes Go.WideShapes Go.ChangeAt Go.RowKit
set_option linter.unusedVariables false
abbrev vCamera (a b c d : Int) (e : Bool) (f g : Int) : Value := .agg #[.int .i64 a, .int .i64 b, .int .i64 c, .int .i64 d, .bool e, .int .i64 f, .int .i64 g]
def validCam (a b c d f g : Int) : Bool := inB a 1 12 && (inB b 1 12 && (inB c 1 65536 && (inB d 1 1000000 && (inB f 0 64 && inB g 0 1000000))))
theorem validCam_true {a b c d f g : Int} (h : validCam a b c d f g = true) : (1 ≤ a ∧ a ≤ 12) ∧ (1 ≤ b ∧ b ≤ 12) ∧ (1 ≤ c ∧ c ≤ 65536) ∧ (1 ≤ d ∧ d ≤ 1000000) ∧ (0 ≤ f ∧ f ≤ 64) ∧ (0 ≤ g ∧ g ≤ 1000000) := by
  simp only [validCam, Bool.and_eq_true] at h
  obtain ⟨h1, h2, h3, h4, h5, h6⟩ := h
  exact ⟨inB_true h1, inB_true h2, inB_true h3, inB_true h4, inB_true h5, inB_true h6⟩
set_option maxHeartbeats 1000000 in
theorem I_IsValidCamera {a b c d : Int} {e : Bool} {f g : Int} (w : World) :
    Calls Try.prog 14 #[vCamera a b c d e f g] w fun r w' => r = .returned (.bool (validCam a b c d f g)) ∧ Below w.heap.size w w' := by
  go_enter Try.func14, Try.ntmps14
  go_wp2_with (go_at_call 15; refine (I_within _ _ _ _).mono ?_; rintro e w' ⟨rfl, rfl⟩)
  all_goals
    go_ret
    exact ⟨ret_bool (by simp_all [validCam]), (by repeat (first | (with_reducible exact Below.refl _ _) | (with_reducible assumption) | ((with_reducible refine Below.alloc ?_ ?_ _); rotate_left; (first | omega | (simp <;> omega))) | ((with_reducible refine Below.setCell ?_ ?_ _); rotate_left; (first | omega | (simp <;> omega))) | (with_reducible refine below_drewN ?_ _) | (with_reducible refine Below.drew ?_) | ((with_reducible refine Below.step (by assumption) ?_ ?_); rotate_left; (first | omega | (simp <;> omega)))))⟩
end Go.Proofs.Ythpanpedoeghoaa
