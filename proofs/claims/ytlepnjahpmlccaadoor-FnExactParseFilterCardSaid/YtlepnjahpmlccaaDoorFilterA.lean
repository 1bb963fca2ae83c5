/- The filters: IsValidFilter, FilterExtent, FilterWeight, FilterWindow, of the reference and of the program. -/
import Derived.Test.YtlepnjahpmlccaaDoorLaw
import Derived.Test.YtlepnjahpmlccaaDoorOpen
import Derived.Test.YtlepnjahpmlccaaDoorPure
import Derived.Test.YtlepnjahpmlccaaDoorFlat
namespace Go.Proofs.YtlepnjahpmlccaaDoor
open Go.ChangeShapes Go.WideShapes Go.ChangeAt Go.RowKit
set_option linter.unusedVariables false
abbrev vFilter (k r : Int) : Value := .agg #[.int .i64 k, .int .i64 r]
def validF (k r : Int) : Bool := inB k 1 2 && inB r 1 3
def extF (k r : Int) : Int := if validF k r then 16 * (2 * r - 1) else 0
theorem validF_rng {k r : Int} (h : validF k r = true) : 1 ≤ k ∧ k ≤ 2 ∧ 1 ≤ r ∧ r ≤ 3 := by
  simp [validF] at h
  have h1 := inB_true h.1
  have h2 := inB_true h.2
  omega
set_option maxHeartbeats 400000 in
theorem S_IsValidFilter (k r : Int) (w : World) :
    Calls Tryd.prog 27 #[vFilter k r] w fun e w' => e = .returned (.bool (validF k r)) ∧ Below w.heap.size w w' := by
  go_enter Tryd.func27, Tryd.ntmps27
  go_wp2_with (go_at_call 34; refine (S_in _ _ _ _).mono ?_; rintro e w' ⟨rfl, rfl⟩)
  all_goals
    go_ret
    exact ⟨ret_bool (by simp_all [validF]), (by repeat (first | (with_reducible exact Below.refl _ _) | (with_reducible assumption) | ((with_reducible refine Below.alloc ?_ ?_ _); rotate_left; (first | omega | (simp <;> omega))) | ((with_reducible refine Below.setCell ?_ ?_ _); rotate_left; (first | omega | (simp <;> omega))) | (with_reducible refine below_drewN ?_ _) | (with_reducible refine Below.drew ?_) | ((with_reducible refine Below.step (by assumption) ?_ ?_); rotate_left; (first | omega | (simp <;> omega)))))⟩
set_option maxHeartbeats 400000 in
theorem I_IsValidFilter (k r : Int) (w : World) :
    Calls Tryd.prog 29 #[vFilter k r] w fun e w' => e = .returned (.bool (validF k r)) ∧ Below w.heap.size w w' := by
  go_enter Tryd.func29, Tryd.ntmps29
  go_wp2_with (go_at_call 38; refine (I_within _ _ _ _).mono ?_; rintro e w' ⟨rfl, rfl⟩)
  all_goals
    go_ret
    exact ⟨ret_bool (by first | (simp_all [validF, inB]; done) | (rw [Bool.eq_iff_iff]; simp [validF, inB]; omega)), (by repeat (first | (with_reducible exact Below.refl _ _) | (with_reducible assumption) | ((with_reducible refine Below.alloc ?_ ?_ _); rotate_left; (first | omega | (simp <;> omega))) | ((with_reducible refine Below.setCell ?_ ?_ _); rotate_left; (first | omega | (simp <;> omega))) | (with_reducible refine below_drewN ?_ _) | (with_reducible refine Below.drew ?_) | ((with_reducible refine Below.step (by assumption) ?_ ?_); rotate_left; (first | omega | (simp <;> omega)))))⟩
theorem Arg.filter {H : Type} {enc : TypeId × Value → H} {W : World} {v : Value} (h : Arg enc W 23 v) : ∃ k r, v = vFilter k r ∧ (Lit.int .i64 k).wf = true ∧ (Lit.int .i64 r).wf = true := by
  obtain ⟨cs, rfl, hc⟩ := h.struct Tryd.underlying23
  have hl := (hc.struct_len Tryd.underlying23).trans (show Tryd.prog.cellsOf 23 = 2 by kernel_rfl)
  match cs, hl with
  | [c0, c1], _ =>
    obtain ⟨k, hk, wk⟩ := (hc.fieldAt Tryd.underlying23 0 3 0 1 rfl T.cellInt).int Tryd.underlying3
    obtain ⟨r, hr, wr⟩ := (hc.fieldAt Tryd.underlying23 1 3 1 1 rfl T.cellInt).int Tryd.underlying3
    obtain rfl : c0 = _ := List.head_eq_of_cons_eq hk
    obtain rfl : c1 = _ := List.head_eq_of_cons_eq hr
    exact ⟨k, r, rfl, wk, wr⟩
end Go.Proofs.YtlepnjahpmlccaaDoor
