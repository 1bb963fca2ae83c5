/- Cameras: IsValidCamera of the reference and of the program; inImage. -/
import Derived.Test.YtndipkclmecpoaaLaw
import Derived.Test.YtndipkclmecpoaaOpen
import Derived.Test.YtndipkclmecpoaaPure
import Derived.Test.YtndipkclmecpoaaFlat
namespace Go.Proofs.Ytndipkclmecpoaa
open Go.ChangeShapes Go.WideShapes Go.ChangeAt Go.RowKit
set_option linter.unusedVariables false
abbrev vCamera (a b c d : Int) (e : Bool) (f g : Int) : Value := .agg #[.int .i64 a, .int .i64 b, .int .i64 c, .int .i64 d, .bool e, .int .i64 f, .int .i64 g]
def validCam (a b c d f g : Int) : Bool := inB a 1 12 && (inB b 1 12 && (inB c 1 65536 && (inB d 1 1000000 && (inB f 0 64 && inB g 0 1000000))))
theorem validCam_true {a b c d f g : Int} (h : validCam a b c d f g = true) : (1 ≤ a ∧ a ≤ 12) ∧ (1 ≤ b ∧ b ≤ 12) ∧ (1 ≤ c ∧ c ≤ 65536) ∧ (1 ≤ d ∧ d ≤ 1000000) ∧ (0 ≤ f ∧ f ≤ 64) ∧ (0 ≤ g ∧ g ≤ 1000000) := by
  simp only [validCam, Bool.and_eq_true] at h
  obtain ⟨h1, h2, h3, h4, h5, h6⟩ := h
  exact ⟨inB_true h1, inB_true h2, inB_true h3, inB_true h4, inB_true h5, inB_true h6⟩
set_option maxHeartbeats 1000000 in
theorem S_IsValidCamera {a b c d : Int} {e : Bool} {f g : Int} (w : World) :
    Calls Try.prog 83 #[vCamera a b c d e f g] w fun r w' => r = .returned (.bool (validCam a b c d f g)) ∧ Below w.heap.size w w' := by
  go_enter Try.func83, Try.ntmps83
  go_wp2_with (go_at_call 87; refine (S_in _ _ _ _).mono ?_; rintro e w' ⟨rfl, rfl⟩)
  all_goals
    go_ret
    exact ⟨ret_bool (by simp_all [validCam]), (by repeat (first | (with_reducible exact Below.refl _ _) | (with_reducible assumption) | ((with_reducible refine Below.alloc ?_ ?_ _); rotate_left; (first | omega | (simp <;> omega))) | ((with_reducible refine Below.setCell ?_ ?_ _); rotate_left; (first | omega | (simp <;> omega))) | (with_reducible refine below_drewN ?_ _) | (with_reducible refine Below.drew ?_) | ((with_reducible refine Below.step (by assumption) ?_ ?_); rotate_left; (first | omega | (simp <;> omega)))))⟩
set_option maxHeartbeats 1000000 in
theorem I_IsValidCamera {a b c d : Int} {e : Bool} {f g : Int} (w : World) :
    Calls Try.prog 84 #[vCamera a b c d e f g] w fun r w' => r = .returned (.bool (validCam a b c d f g)) ∧ Below w.heap.size w w' := by
  go_enter Try.func84, Try.ntmps84
  go_wp2_with (go_at_call 93; refine (I_within _ _ _ _).mono ?_; rintro e w' ⟨rfl, rfl⟩)
  all_goals
    go_ret
    exact ⟨ret_bool (by simp_all [validCam]), (by repeat (first | (with_reducible exact Below.refl _ _) | (with_reducible assumption) | ((with_reducible refine Below.alloc ?_ ?_ _); rotate_left; (first | omega | (simp <;> omega))) | ((with_reducible refine Below.setCell ?_ ?_ _); rotate_left; (first | omega | (simp <;> omega))) | (with_reducible refine below_drewN ?_ _) | (with_reducible refine Below.drew ?_) | ((with_reducible refine Below.step (by assumption) ?_ ?_); rotate_left; (first | omega | (simp <;> omega)))))⟩
theorem Arg.camera {H : Type} {enc : TypeId × Value → H} {W : World} {v : Value} (h : Arg enc W 49 v) : ∃ a b c d e f g, v = vCamera a b c d e f g ∧ True := by
  obtain ⟨cs, rfl, hc⟩ := h.struct Try.underlying49
  have hl := (hc.struct_len Try.underlying49).trans (show Try.prog.cellsOf 49 = 7 by kernel_rfl)
  match cs, hl with
  | [c0, c1, c2, c3, c4, c5, c6], _ =>
    obtain ⟨x0, h0, _⟩ := (hc.fieldAt Try.underlying49 0 3 0 1 rfl T.cellInt).int Try.underlying3
    obtain ⟨x1, h1, _⟩ := (hc.fieldAt Try.underlying49 1 3 1 1 rfl T.cellInt).int Try.underlying3
    obtain ⟨x2, h2, _⟩ := (hc.fieldAt Try.underlying49 2 3 2 1 rfl T.cellInt).int Try.underlying3
    obtain ⟨x3, h3, _⟩ := (hc.fieldAt Try.underlying49 3 3 3 1 rfl T.cellInt).int Try.underlying3
    obtain ⟨x4, h4⟩ := (hc.fieldAt Try.underlying49 4 4 4 1 rfl T.cellBool).bool Try.underlying4
    obtain ⟨x5, h5, _⟩ := (hc.fieldAt Try.underlying49 5 3 5 1 rfl T.cellInt).int Try.underlying3
    obtain ⟨x6, h6, _⟩ := (hc.fieldAt Try.underlying49 6 3 6 1 rfl T.cellInt).int Try.underlying3
    obtain rfl : c0 = _ := List.head_eq_of_cons_eq h0
    obtain rfl : c1 = _ := List.head_eq_of_cons_eq h1
    obtain rfl : c2 = _ := List.head_eq_of_cons_eq h2
    obtain rfl : c3 = _ := List.head_eq_of_cons_eq h3
    obtain rfl : c4 = _ := List.head_eq_of_cons_eq h4
    obtain rfl : c5 = _ := List.head_eq_of_cons_eq h5
    obtain rfl : c6 = _ := List.head_eq_of_cons_eq h6
    exact ⟨x0, x1, x2, x3, x4, x5, x6, rfl, trivial⟩
end Go.Proofs.Ytndipkclmecpoaa
