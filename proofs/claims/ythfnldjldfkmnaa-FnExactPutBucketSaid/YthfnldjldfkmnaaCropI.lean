/- CropImage of the program. -/
import Derived.Test.YthfnldjldfkmnaaCrop
import Derived.Test.YthfnldjldfkmnaaOpen
import Derived.Test.YthfnldjldfkmnaaPhase
import Derived.Deep.RegionHeld3
namespace Go.Proofs.Ythfnldjldfkmnaa
open Go.RowKit
set_option linter.unusedVariables false
open Go.ChangeShapes Go.WideShapes Go.ChangeAt in
theorem Arg.bucket {H : Type} {enc : TypeId × Value → H} {W : World} {v : Value} (h : Arg enc W 115 v) : ∃ a b c d, v = vBucket a b c d ∧ True := by
  obtain ⟨cs, rfl, hc⟩ := h.struct Try.underlying115
  have hl := (hc.struct_len Try.underlying115).trans (show Try.prog.cellsOf 115 = 4 by kernel_rfl)
  match cs, hl with
  | [c0, c1, c2, c3], _ =>
    obtain ⟨x0, h0, _⟩ := (hc.fieldAt Try.underlying115 0 3 0 1 rfl T.cellInt).int Try.underlying3
    obtain ⟨x1, h1, _⟩ := (hc.fieldAt Try.underlying115 1 3 1 1 rfl T.cellInt).int Try.underlying3
    obtain ⟨x2, h2, _⟩ := (hc.fieldAt Try.underlying115 2 3 2 1 rfl T.cellInt).int Try.underlying3
    obtain ⟨x3, h3, _⟩ := (hc.fieldAt Try.underlying115 3 3 3 1 rfl T.cellInt).int Try.underlying3
    obtain rfl : c0 = _ := List.head_eq_of_cons_eq h0
    obtain rfl : c1 = _ := List.head_eq_of_cons_eq h1
    obtain rfl : c2 = _ := List.head_eq_of_cons_eq h2
    obtain rfl : c3 = _ := List.head_eq_of_cons_eq h3
    exact ⟨x0, x1, x2, x3, rfl, trivial⟩
end Go.Proofs.Ythfnldjldfkmnaa
