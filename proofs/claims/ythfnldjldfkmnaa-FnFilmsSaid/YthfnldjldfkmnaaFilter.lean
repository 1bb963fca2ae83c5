/- The filters: IsValidFilter, FilterExtent, FilterWeight, FilterWindow, of the reference and of the program. -/
import Derived.Test.YthfnldjldfkmnaaLaw
import Derived.Test.YthfnldjldfkmnaaOpen
import Derived.Test.YthfnldjldfkmnaaPure
import Derived.Test.YthfnldjldfkmnaaFlat
namespace Go.Proofs.Ythfnldjldfkmnaa
open Go.ChangeShapes Go.WideShapes Go.ChangeAt Go.RowKit
set_option linter.unusedVariables false
abbrev vFilter (k r : Int) : Value := .agg #[.int .i64 k, .int .i64 r]
def validF (k r : Int) : Bool := inB k 1 2 && inB r 1 3
def extF (k r : Int) : Int := if validF k r then 16 * (2 * r - 1) else 0
theorem validF_rng {k r : Int} (h : validF k r = true) : 1 ≤ k ∧ k ≤ 2 ∧ 1 ≤ r ∧ r ≤ 3 := by
  simp [validF] at h
  have h1 := inB_true h.1
  have h2 := inB_true h.2
  omega
set_option maxHeartbeats 400000 in
theorem S_IsValidFilter (k r : Int) (w : World) :
    Calls Try.prog 116 #[vFilter k r] w fun e w' => e = .returned (.bool (validF k r)) ∧ Below w.heap.size w w' := by
  go_enter Try.func116, Try.ntmps116
  go_wp2_with (go_at_call 117; refine (S_in _ _ _ _).mono ?_; rintro e w' ⟨rfl, rfl⟩)
  all_goals
    go_ret
    exact ⟨ret_bool (by simp_all [validF]), (by repeat (first | (with_reducible exact Below.refl _ _) | (with_reducible assumption) | ((with_reducible refine Below.alloc ?_ ?_ _); rotate_left; (first | omega | (simp <;> omega))) | ((with_reducible refine Below.setCell ?_ ?_ _); rotate_left; (first | omega | (simp <;> omega))) | (with_reducible refine below_drewN ?_ _) | (with_reducible refine Below.drew ?_) | ((with_reducible refine Below.step (by assumption) ?_ ?_); rotate_left; (first | omega | (simp <;> omega)))))⟩
set_option maxHeartbeats 400000 in
theorem I_IsValidFilter (k r : Int) (w : World) :
    Calls Try.prog 101 #[vFilter k r] w fun e w' => e = .returned (.bool (validF k r)) ∧ Below w.heap.size w w' := by
  go_enter Try.func101, Try.ntmps101
  go_wp2_with (go_at_call 105; refine (I_within _ _ _ _).mono ?_; rintro e w' ⟨rfl, rfl⟩)
  all_goals
    go_ret
    exact ⟨ret_bool (by first | (simp_all [validF, inB]; done) | (rw [Bool.eq_iff_iff]; simp [validF, inB]; omega)), (by repeat (first | (with_reducible exact Below.refl _ _) | (with_reducible assumption) | ((with_reducible refine Below.alloc ?_ ?_ _); rotate_left; (first | omega | (simp <;> omega))) | ((with_reducible refine Below.setCell ?_ ?_ _); rotate_left; (first | omega | (simp <;> omega))) | (with_reducible refine below_drewN ?_ _) | (with_reducible refine Below.drew ?_) | ((with_reducible refine Below.step (by assumption) ?_ ?_); rotate_left; (first | omega | (simp <;> omega)))))⟩
set_option maxHeartbeats 400000 in
theorem I_extent (k r : Int) (h1 : 1 ≤ r) (h2 : r ≤ 3) (w : World) :
    Calls Try.prog 164 #[vFilter k r] w fun e w' => e = .returned (.int .i64 (16 * (2 * r - 1))) ∧ Below w.heap.size w w' := by
  go_enter Try.func164, Try.ntmps164
  go_wp2
  go_ret
  exact ⟨ret_int (by omega), (by repeat (first | (with_reducible exact Below.refl _ _) | (with_reducible assumption) | ((with_reducible refine Below.alloc ?_ ?_ _); rotate_left; (first | omega | (simp <;> omega))) | ((with_reducible refine Below.setCell ?_ ?_ _); rotate_left; (first | omega | (simp <;> omega))) | (with_reducible refine below_drewN ?_ _) | (with_reducible refine Below.drew ?_) | ((with_reducible refine Below.step (by assumption) ?_ ?_); rotate_left; (first | omega | (simp <;> omega)))))⟩
set_option maxHeartbeats 400000 in
theorem S_FilterExtent (k r : Int) (w : World) :
    Calls Try.prog 185 #[vFilter k r] w fun e w' => e = .returned (.int .i64 (extF k r)) ∧ Below w.heap.size w w' := by
  by_cases hv : validF k r = true
  · have hr := validF_rng hv
    obtain ⟨r1, r2, r3, r4⟩ := hr
    go_enter Try.func185, Try.ntmps185
    go_wp2_with (go_at_call 116; refine (S_IsValidFilter _ _ _).mono ?_; rintro e w' ⟨rfl, hb⟩; have hz := hb.size; (try simp at hz); have c0 := fun o => hb.cell (p := ⟨w.heap.size, o, none⟩) (by first | omega | (simp <;> omega)); have f0 := fun o => hb.frozen (p := ⟨w.heap.size, o, none⟩) (by first | omega | (simp <;> omega)); have z0 : w.heap.size < w'.heap.size := (by omega))
    go_ret
    exact ⟨ret_int (by unfold extF; rw [if_pos hv]), (by repeat (first | (with_reducible exact Below.refl _ _) | (with_reducible assumption) | ((with_reducible refine Below.alloc ?_ ?_ _); rotate_left; (first | omega | (simp <;> omega))) | ((with_reducible refine Below.setCell ?_ ?_ _); rotate_left; (first | omega | (simp <;> omega))) | (with_reducible refine below_drewN ?_ _) | (with_reducible refine Below.drew ?_) | ((with_reducible refine Below.step (by assumption) ?_ ?_); rotate_left; (first | omega | (simp <;> omega)))))⟩
  · have hv' : validF k r = false := by simpa using hv
    go_enter Try.func185, Try.ntmps185
    go_wp2_with (go_at_call 116; refine (S_IsValidFilter _ _ _).mono ?_; rintro e w' ⟨rfl, hb⟩; have hz := hb.size; (try simp at hz); have c0 := fun o => hb.cell (p := ⟨w.heap.size, o, none⟩) (by first | omega | (simp <;> omega)); have f0 := fun o => hb.frozen (p := ⟨w.heap.size, o, none⟩) (by first | omega | (simp <;> omega)); have z0 : w.heap.size < w'.heap.size := (by omega))
    go_ret
    exact ⟨ret_int (by unfold extF; rw [if_neg hv]), (by repeat (first | (with_reducible exact Below.refl _ _) | (with_reducible assumption) | ((with_reducible refine Below.alloc ?_ ?_ _); rotate_left; (first | omega | (simp <;> omega))) | ((with_reducible refine Below.setCell ?_ ?_ _); rotate_left; (first | omega | (simp <;> omega))) | (with_reducible refine below_drewN ?_ _) | (with_reducible refine Below.drew ?_) | ((with_reducible refine Below.step (by assumption) ?_ ?_); rotate_left; (first | omega | (simp <;> omega)))))⟩
theorem Arg.filter {H : Type} {enc : TypeId × Value → H} {W : World} {v : Value} (h : Arg enc W 69 v) : ∃ k r, v = vFilter k r ∧ (Lit.int .i64 k).wf = true ∧ (Lit.int .i64 r).wf = true := by
  obtain ⟨cs, rfl, hc⟩ := h.struct Try.underlying69
  have hl := (hc.struct_len Try.underlying69).trans (show Try.prog.cellsOf 69 = 2 by kernel_rfl)
  match cs, hl with
  | [c0, c1], _ =>
    obtain ⟨k, hk, wk⟩ := (hc.fieldAt Try.underlying69 0 3 0 1 rfl T.cellInt).int Try.underlying3
    obtain ⟨r, hr, wr⟩ := (hc.fieldAt Try.underlying69 1 3 1 1 rfl T.cellInt).int Try.underlying3
    obtain rfl : c0 = _ := List.head_eq_of_cons_eq hk
    obtain rfl : c1 = _ := List.head_eq_of_cons_eq hr
    exact ⟨k, r, rfl, wk, wr⟩
end Go.Proofs.Ythfnldjldfkmnaa
