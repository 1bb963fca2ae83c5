/- An argument of type []int. -/
import Derived.Test.YthfnldjldfkmnaaOpen
import Derived.Test.YthfnldjldfkmnaaMade
namespace Go.Proofs.Ythfnldjldfkmnaa
open Go.ChangeShapes Go.WideShapes Go.ChangeAt Go.RowKit
set_option linter.unusedVariables false
theorem Arg.intS {H : Type} {enc : TypeId × Value → H} {W : World} {v : Value} (h : Arg enc W 36 v) : ∃ (A : Option Addr) (c : Nat) (l : List Int), v = .slice A l.length c ∧ RS W 1 A l.length c (ints l) := by
  have h1 := h.slice Try.underlying36
  obtain ⟨v', l, hv, hr, _⟩ := h1.intRow Try.underlying36 Try.underlying3 (by kernel_rfl)
  obtain rfl : v = v' := List.head_eq_of_cons_eq hv
  have hr' := hr
  obtain ⟨_, A, c, rfl, _⟩ := hr
  exact ⟨A, c, l, rfl, hr'⟩
end Go.Proofs.Ythfnldjldfkmnaa
