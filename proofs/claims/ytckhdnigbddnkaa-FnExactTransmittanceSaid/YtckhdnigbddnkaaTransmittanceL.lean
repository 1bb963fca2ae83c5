/- MADE BY PROGRAM (exlaw.py). The law FnExactTransmittance. -/
import Derived.Test.YtckhdnigbddnkaaDeepT
import Derived.Deep.RegionHeld3
namespace Go.Proofs.Ytckhdnigbddnkaa
open Go.ChangeShapes Go.WideShapes Go.ChangeAt Go.RowKit
set_option linter.unusedVariables false
set_option maxHeartbeats 2000000 in
theorem L_ExTransmittance (A0 : Option Addr) (p0 : Nat) (l0 : List EDeepStep) (y1 : Int) (w : World) (h0 : RS w 2 A0 l0.length p0 (rDeepStep l0)) :
    Calls Try.prog 14 #[(.slice A0 l0.length p0), .int .i64 y1] w fun e w' => e = .returned (.bool true) ∧ Below w.heap.size w w' := by
  have mh0 := h0.len
  rcases szF_or (1048576) l0.length with hz0 | ⟨hz0, hy0, sh0⟩
  · go_enter Try.func14, Try.ntmps14
    go_wp2_with fail
    refine (L_szDeepStepS _ (by first | omega | assumption) (by first | omega | assumption) (by assumption)).mono ?_
    rintro e w' ⟨rfl, rfl⟩
    go_wp2
    go_ret
    exact ⟨rfl, (by repeat (first | (with_reducible exact Below.refl _ _) | (with_reducible assumption) | ((with_reducible refine Below.alloc ?_ ?_ _); rotate_left; (first | omega | (simp <;> omega))) | ((with_reducible refine Below.setCell ?_ ?_ _); rotate_left; (first | omega | (simp <;> omega))) | (with_reducible refine below_drewN ?_ _) | (with_reducible refine Below.drew ?_) | ((with_reducible refine Below.step (by assumption) ?_ ?_); rotate_left; (first | omega | (simp <;> omega)))))⟩
  have th0 : l0.length ≤ 1048576 := by omega
  go_enter Try.func14, Try.ntmps14
  go_wp2_with fail
  refine (L_szDeepStepS _ (by first | omega | assumption) (by first | omega | assumption) (by assumption)).mono ?_
  rintro e w' ⟨rfl, rfl⟩
  go_wp2_with fail
  refine (L_toDeepStepS _ (by assumption) (by first | (with_reducible assumption) | ((with_reducible refine RS.step ?_ (by assumption)); repeat (first | (with_reducible exact Below.refl _ _) | (with_reducible assumption) | ((with_reducible refine Below.alloc ?_ ?_ _); rotate_left; (first | omega | (simp <;> omega))) | ((with_reducible refine Below.setCell ?_ ?_ _); rotate_left; (first | omega | (simp <;> omega))) | (with_reducible refine below_drewN ?_ _) | (with_reducible refine Below.drew ?_) | ((with_reducible refine Below.step (by assumption) ?_ ?_); rotate_left; (first | omega | (simp <;> omega))))))).mono ?_
  rintro e w' ⟨rfl, ho2, hr2, hb⟩; have hz := hb.size; (try simp at hz)
  obtain ⟨w2, rfl⟩ : ∃ w2, w2 = w' := ⟨_, rfl⟩
  go_wp2_with fail
  refine (S_Transmittance _ (by first | (with_reducible assumption) | ((with_reducible refine RS.step ?_ (by assumption)); repeat (first | (with_reducible exact Below.refl _ _) | (with_reducible assumption) | ((with_reducible refine Below.alloc ?_ ?_ _); rotate_left; (first | omega | (simp <;> omega))) | ((with_reducible refine Below.setCell ?_ ?_ _); rotate_left; (first | omega | (simp <;> omega))) | (with_reducible refine below_drewN ?_ _) | (with_reducible refine Below.drew ?_) | ((with_reducible refine Below.step (by assumption) ?_ ?_); rotate_left; (first | omega | (simp <;> omega))))))).mono ?_
  rintro e w' ⟨rfl, hb⟩; have hz := hb.size; (try simp at hz)
  obtain ⟨w3, rfl⟩ : ∃ w3, w3 = w' := ⟨_, rfl⟩
  go_wp2_with fail
  refine (L_toDeepStepS _ (by assumption) (by first | (with_reducible assumption) | ((with_reducible refine RS.step ?_ (by assumption)); repeat (first | (with_reducible exact Below.refl _ _) | (with_reducible assumption) | ((with_reducible refine Below.alloc ?_ ?_ _); rotate_left; (first | omega | (simp <;> omega))) | ((with_reducible refine Below.setCell ?_ ?_ _); rotate_left; (first | omega | (simp <;> omega))) | (with_reducible refine below_drewN ?_ _) | (with_reducible refine Below.drew ?_) | ((with_reducible refine Below.step (by assumption) ?_ ?_); rotate_left; (first | omega | (simp <;> omega))))))).mono ?_
  rintro e w' ⟨rfl, ho4, hr4, hb⟩; have hz := hb.size; (try simp at hz)
  obtain ⟨w4, rfl⟩ : ∃ w4, w4 = w' := ⟨_, rfl⟩
  go_wp2_with fail
  refine (I_Transmittance _ (by first | (with_reducible assumption) | ((with_reducible refine RS.step ?_ (by assumption)); repeat (first | (with_reducible exact Below.refl _ _) | (with_reducible assumption) | ((with_reducible refine Below.alloc ?_ ?_ _); rotate_left; (first | omega | (simp <;> omega))) | ((with_reducible refine Below.setCell ?_ ?_ _); rotate_left; (first | omega | (simp <;> omega))) | (with_reducible refine below_drewN ?_ _) | (with_reducible refine Below.drew ?_) | ((with_reducible refine Below.step (by assumption) ?_ ?_); rotate_left; (first | omega | (simp <;> omega))))))).mono ?_
  rintro e w' ⟨rfl, hb⟩; have hz := hb.size; (try simp at hz)
  obtain ⟨w5, rfl⟩ : ∃ w5, w5 = w' := ⟨_, rfl⟩
  go_wp2_with fail
  refine (L_toDeepStepS _ (by assumption) (by first | (with_reducible assumption) | ((with_reducible refine RS.step ?_ (by assumption)); repeat (first | (with_reducible exact Below.refl _ _) | (with_reducible assumption) | ((with_reducible refine Below.alloc ?_ ?_ _); rotate_left; (first | omega | (simp <;> omega))) | ((with_reducible refine Below.setCell ?_ ?_ _); rotate_left; (first | omega | (simp <;> omega))) | (with_reducible refine below_drewN ?_ _) | (with_reducible refine Below.drew ?_) | ((with_reducible refine Below.step (by assumption) ?_ ?_); rotate_left; (first | omega | (simp <;> omega))))))).mono ?_
  rintro e w' ⟨rfl, ho6, hr6, hb⟩; have hz := hb.size; (try simp at hz)
  obtain ⟨w6, rfl⟩ : ∃ w6, w6 = w' := ⟨_, rfl⟩
  go_wp2_with fail
  refine (L_eqDeepStepS _ (by first | (with_reducible assumption) | ((with_reducible refine RS.step ?_ (by assumption)); repeat (first | (with_reducible exact Below.refl _ _) | (with_reducible assumption) | ((with_reducible refine Below.alloc ?_ ?_ _); rotate_left; (first | omega | (simp <;> omega))) | ((with_reducible refine Below.setCell ?_ ?_ _); rotate_left; (first | omega | (simp <;> omega))) | (with_reducible refine below_drewN ?_ _) | (with_reducible refine Below.drew ?_) | ((with_reducible refine Below.step (by assumption) ?_ ?_); rotate_left; (first | omega | (simp <;> omega)))))) (by first | (with_reducible assumption) | ((with_reducible refine RS.step ?_ (by assumption)); repeat (first | (with_reducible exact Below.refl _ _) | (with_reducible assumption) | ((with_reducible refine Below.alloc ?_ ?_ _); rotate_left; (first | omega | (simp <;> omega))) | ((with_reducible refine Below.setCell ?_ ?_ _); rotate_left; (first | omega | (simp <;> omega))) | (with_reducible refine below_drewN ?_ _) | (with_reducible refine Below.drew ?_) | ((with_reducible refine Below.step (by assumption) ?_ ?_); rotate_left; (first | omega | (simp <;> omega))))))).mono ?_
  rintro e w' ⟨rfl, hb⟩; have hz := hb.size; (try simp at hz)
  obtain ⟨w7, rfl⟩ : ∃ w7, w7 = w' := ⟨_, rfl⟩
  go_wp2
  go_ret
  exact ⟨rfl, (by repeat (first | (with_reducible exact Below.refl _ _) | (with_reducible assumption) | ((with_reducible refine Below.alloc ?_ ?_ _); rotate_left; (first | omega | (simp <;> omega))) | ((with_reducible refine Below.setCell ?_ ?_ _); rotate_left; (first | omega | (simp <;> omega))) | (with_reducible refine below_drewN ?_ _) | (with_reducible refine Below.drew ?_) | ((with_reducible refine Below.step (by assumption) ?_ ?_); rotate_left; (first | omega | (simp <;> omega)))))⟩
theorem FnExactTransmittance_walk : LawWalk 14 [31, 3] := by
  intro H enc W base args ds ps hA hval hlt
  obtain ⟨v0, v1, rfl, a0, a1⟩ := args2 hA hval
  obtain ⟨A0, p0, l0, rfl, h0⟩ := a0.deepStepS
  obtain ⟨y1, rfl, _⟩ := a1.int Try.underlying3
  exact L_ExTransmittance A0 p0 l0 y1 W h0
end Go.Proofs.Ytckhdnigbddnkaa
