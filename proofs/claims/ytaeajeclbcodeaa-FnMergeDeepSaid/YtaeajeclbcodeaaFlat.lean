/- MADE BY PROGRAM (genflat.py). Flat structs: the laws' toX; eqX on equal arguments. -/
import Derived.Test.YtaeajeclbcodeaaRows
import Derived.Test.YtaeajeclbcodeaaMem
namespace Go.Proofs.Ytaeajeclbcodeaa
open Go.RowKit
set_option linter.unusedVariables false
set_option maxHeartbeats 400000 in
theorem L_toDeepStep (x0 : Int) (x1 : Int) (w : World) :
    Calls Try.prog 36 #[(.agg #[.int .i64 x0, .int .i64 x1])] w fun e w' => e = .returned (.agg #[.int .i64 x0, .int .i64 x1]) ∧ Below w.heap.size w w' := by
  go_enter Try.func36, Try.ntmps36
  go_wp2
  exact bodyPost_ret (v := (.agg #[.int .i64 x0, .int .i64 x1])) (by simp [results, Try.results36, go_sem]) rfl ⟨rfl, (by repeat (first | exact Below.refl _ _ | refine Below.alloc ?_ (by simp <;> omega) _ | refine Below.setCell ?_ (by simp <;> omega) _))⟩
set_option maxHeartbeats 400000 in
theorem L_eqDeepStep (x0 : Int) (x1 : Int) (w : World) :
    Calls Try.prog 42 #[(.agg #[.int .i64 x0, .int .i64 x1]), (.agg #[.int .i64 x0, .int .i64 x1])] w fun e w' => e = .returned (.bool true) ∧ Below w.heap.size w w' := by
  go_enter Try.func42, Try.ntmps42
  go_wp2
  go_ret
  exact ⟨rfl, (by repeat (first | exact Below.refl _ _ | refine Below.alloc ?_ (by simp <;> omega) _ | refine Below.setCell ?_ (by simp <;> omega) _))⟩
set_option maxHeartbeats 400000 in
theorem L_toVec (x0 : Int) (x1 : Int) (x2 : Int) (w : World) :
    Calls Try.prog 8 #[(.agg #[.int .i64 x0, .int .i64 x1, .int .i64 x2])] w fun e w' => e = .returned (.agg #[.int .i64 x0, .int .i64 x1, .int .i64 x2]) ∧ Below w.heap.size w w' := by
  go_enter Try.func8, Try.ntmps8
  go_wp2
  exact bodyPost_ret (v := (.agg #[.int .i64 x0, .int .i64 x1, .int .i64 x2])) (by simp [results, Try.results8, go_sem]) rfl ⟨rfl, (by repeat (first | exact Below.refl _ _ | refine Below.alloc ?_ (by simp <;> omega) _ | refine Below.setCell ?_ (by simp <;> omega) _))⟩
set_option maxHeartbeats 400000 in
theorem L_eqVec (x0 : Int) (x1 : Int) (x2 : Int) (w : World) :
    Calls Try.prog 10 #[(.agg #[.int .i64 x0, .int .i64 x1, .int .i64 x2]), (.agg #[.int .i64 x0, .int .i64 x1, .int .i64 x2])] w fun e w' => e = .returned (.bool true) ∧ Below w.heap.size w w' := by
  go_enter Try.func10, Try.ntmps10
  go_wp2
  go_ret
  exact ⟨rfl, (by repeat (first | exact Below.refl _ _ | refine Below.alloc ?_ (by simp <;> omega) _ | refine Below.setCell ?_ (by simp <;> omega) _))⟩
end Go.Proofs.Ytaeajeclbcodeaa
