/- MADE BY PROGRAM (genflat.py). Flat structs: the laws' toX; eqX on equal arguments. -/
import Derived.Test.YtlepnjahpmlccaaDoorRows
import Derived.Test.YtlepnjahpmlccaaDoorMem
namespace Go.Proofs.YtlepnjahpmlccaaDoor
open Go.RowKit
set_option linter.unusedVariables false
set_option maxHeartbeats 400000 in
theorem L_toFilter (x0 : Int) (x1 : Int) (w : World) :
    Calls Tryd.prog 9 #[(.agg #[.int .i64 x0, .int .i64 x1])] w fun e w' => e = .returned (.agg #[.int .i64 x0, .int .i64 x1]) ∧ Below w.heap.size w w' := by
  go_enter Tryd.func9, Tryd.ntmps9
  go_wp2
  exact bodyPost_ret (v := (.agg #[.int .i64 x0, .int .i64 x1])) (by simp [results, Tryd.results9, go_sem]) rfl ⟨rfl, (by repeat (first | exact Below.refl _ _ | refine Below.alloc ?_ (by simp <;> omega) _ | refine Below.setCell ?_ (by simp <;> omega) _))⟩
set_option maxHeartbeats 400000 in
theorem L_eqFilter (x0 : Int) (x1 : Int) (w : World) :
    Calls Tryd.prog 13 #[(.agg #[.int .i64 x0, .int .i64 x1]), (.agg #[.int .i64 x0, .int .i64 x1])] w fun e w' => e = .returned (.bool true) ∧ Below w.heap.size w w' := by
  go_enter Tryd.func13, Tryd.ntmps13
  go_wp2
  go_ret
  exact ⟨rfl, (by repeat (first | exact Below.refl _ _ | refine Below.alloc ?_ (by simp <;> omega) _ | refine Below.setCell ?_ (by simp <;> omega) _))⟩
end Go.Proofs.YtlepnjahpmlccaaDoor
