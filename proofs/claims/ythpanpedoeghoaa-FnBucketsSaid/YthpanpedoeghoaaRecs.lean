/- MADE BY PROGRAM (genrow.py). Structs of ints with slices of ints and bools: the laws' szX, toX, eqX (on equal fields); an argument of that type. -/
import Derived.Test.YthpanpedoeghoaaInts
import Derived.Test.YthpanpedoeghoaaBools
import Derived.Test.YthpanpedoeghoaaOpen
set_option linter.unusedVariables false
set_option linter.unusedSimpArgs false
set_option linter.unnecessarySimpa false
namespace Go.Proofs.Ythpanpedoeghoaa
open Go.ChangeShapes Go.WideShapes Go.ChangeAt Go.RowKit
set_option linter.unusedVariables false
def szF2 (left : Int) (n m : Nat) : Int := if szF left n < 0 then -1 else szF (szF left n) m
theorem szF_or (left : Int) (n : Nat) : szF left n = -1 ∨ (0 ≤ szF left n ∧ szF left n ≤ left ∧ n ≤ left) := by
  rcases Int.lt_or_le left n with h | h
  · exact .inl (szF_big h)
  · have := szF_small h; exact .inr ⟨this.1, this.2, h⟩
theorem szF2_or (left : Int) (n m : Nat) : szF2 left n m = -1 ∨ (0 ≤ szF2 left n m ∧ szF2 left n m ≤ left ∧ n ≤ left ∧ m ≤ left) := by
  unfold szF2
  rcases szF_or left n with h | ⟨h1, h2, h3⟩
  · rw [h]; exact .inl rfl
  · rw [if_neg (by omega)]
    rcases szF_or (szF left n) m with h | ⟨h4, h5, h6⟩
    · exact .inl h
    · exact .inr ⟨h4, by omega, h3, by omega⟩
abbrev vImage (x0 x1 : Int) (s0 : Value) : Value := .agg #[.int .i64 x0, .int .i64 x1, s0]
abbrev vFilm (x0 x1 : Int) (s0 s1 : Value) : Value := .agg #[.int .i64 x0, .int .i64 x1, s0, s1]
abbrev vAccum (x0 x1 : Int) (s0 s1 : Value) : Value := .agg #[.int .i64 x0, .int .i64 x1, s0, s1]
abbrev vTexture (x0 : Int) (s0 : Value) : Value := .agg #[.int .i64 x0, s0]
abbrev vLogged (x0 : Int) (s0 : Value) : Value := .agg #[.int .i64 x0, s0]
end Go.Proofs.Ythpanpedoeghoaa
