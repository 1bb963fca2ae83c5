/- Contracts of the small functions on ints. -/
import Derived.Test.YthpanpedoeghoaaRows
import Derived.Test.YthpanpedoeghoaaMem
set_option linter.unusedVariables false
set_option linter.unusedSimpArgs false
set_option linter.unnecessarySimpa false
namespace Go.Proofs.Ythpanpedoeghoaa
open Go.RowKit
set_option linter.unusedVariables false

abbrev vBucket (x y z u : Int) : Value := .agg #[.int .i64 x, .int .i64 y, .int .i64 z, .int .i64 u]
def clampF (n lo hi : Int) : Int := if hi < lo ∨ n < lo then lo else if n > hi then hi else n
def inB (n lo hi : Int) : Bool := decide (lo ≤ n) && decide (n ≤ hi)
theorem inB_true {n lo hi : Int} (h : inB n lo hi = true) : lo ≤ n ∧ n ≤ hi := by simpa [inB] using h
theorem inB_false {n lo hi : Int} (h : inB n lo hi = false) : n < lo ∨ hi < n := by
  by_cases h1 : n < lo
  · exact .inl h1
  · right; simp [inB] at h; omega
theorem inB_mk {n lo hi : Int} (h1 : lo ≤ n) (h2 : n ≤ hi) : inB n lo hi = true := by simp [inB, h1, h2]
theorem inB_lo {n lo hi : Int} (h1 : n < lo) : inB n lo hi = false := by simp [inB]; intro; omega
theorem inB_hi {n lo hi : Int} (h1 : hi < n) : inB n lo hi = false := by simp [inB]; intro; omega
def absF (n : Int) : Int := if n < 0 then -n else n
set_option maxHeartbeats 400000 in
theorem I_within (n lo hi : Int) (w : World) :
    Calls Try.prog 15 #[.int .i64 n, .int .i64 lo, .int .i64 hi] w fun e w' => e = .returned (.bool (inB n lo hi)) ∧ w = w' := by
  go_enter Try.func15, Try.ntmps15
  go_wp2
  all_goals
    go_ret
    exact ⟨ret_bool (by unfold inB; first | rfl | (rw [Bool.eq_iff_iff]; simp; try omega)), rfl⟩
theorem I_within_is {n lo hi : Int} {b : Bool} (hb : inB n lo hi = b) (w : World) : Calls Try.prog 15 #[.int .i64 n, .int .i64 lo, .int .i64 hi] w fun e w' => e = .returned (.bool b) ∧ w = w' := by
  subst hb; exact I_within n lo hi w
end Go.Proofs.Ythpanpedoeghoaa
