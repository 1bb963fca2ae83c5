/- IsValidImage of the reference and of the program; the law FnExactIsValidImage. -/
import Derived.Test.YthfnldjldfkmnaaRecs
import Derived.Test.YthfnldjldfkmnaaWithin
import Derived.Deep.RegionHeld3
namespace Go.Proofs.Ythfnldjldfkmnaa
open Go.ChangeShapes Go.WideShapes Go.ChangeAt Go.RowKit
set_option linter.unusedVariables false
def sizeB (W H : Int) : Bool := inB W 1 12 && inB H 1 12
theorem sizeB_true {W H : Int} (h : sizeB W H = true) : (1 ≤ W ∧ W ≤ 12) ∧ 1 ≤ H ∧ H ≤ 12 := by
  simp [sizeB] at h
  exact ⟨inB_true h.1, inB_true h.2⟩
/-- a product of two sides, bounded -/
theorem area_rng {W H : Int} (h : sizeB W H = true) : 1 ≤ W * H ∧ W * H ≤ 144 := by
  obtain ⟨⟨a, b⟩, c, d⟩ := sizeB_true h
  refine ⟨?_, ?_⟩
  · have : (1 : Int) * 1 ≤ W * H := Int.mul_le_mul a c (by omega) (by omega)
    omega
  · have : W * H ≤ 12 * 12 := Int.mul_le_mul b d (by omega) (by omega)
    omega
def validImg (W H : Int) (l : List Int) : Bool := sizeB W H && (decide ((l.length : Int) = W * H) && allIn l 0 256)
theorem sizeB_cases (W H : Int) : (sizeB W H = true ∧ inB W 1 12 = true ∧ inB H 1 12 = true) ∨ (sizeB W H = false ∧ inB W 1 12 = false) ∨ (sizeB W H = false ∧ inB W 1 12 = true ∧ inB H 1 12 = false) := by
  unfold sizeB
  cases inB W 1 12 <;> cases inB H 1 12 <;> simp
set_option maxHeartbeats 400000 in
theorem I_sizeOk (W H : Int) (w : World) :
    Calls Try.prog 113 #[.int .i64 W, .int .i64 H] w fun e w' => e = .returned (.bool (sizeB W H)) ∧ w = w' := by
  go_enter Try.func113, Try.ntmps113
  go_wp2_with (go_at_call 105; refine (I_within _ _ _ _).mono ?_; rintro e w' ⟨rfl, rfl⟩)
  all_goals
    go_ret
    exact ⟨ret_bool (by simp_all [sizeB]), rfl⟩
set_option maxHeartbeats 1000000 in
theorem I_IsValidImage {W H : Int} {A : Option Addr} {c : Nat} {l : List Int} (w : World) (h : RS w 1 A l.length c (ints l)) :
    Calls Try.prog 92 #[vImage W H (.slice A l.length c)] w fun e w' => e = .returned (.bool (validImg W H l)) ∧ Below w.heap.size w w' := by
  have HH := Lib.hid (h.alloc (.cells #[.int .i64 W, .int .i64 H, .slice A l.length c] 38))
  have hlen := h.len
  unfold maxLen at hlen
  clear h
  by_cases hv : sizeB W H = true
  · obtain ⟨a1, a2⟩ := area_rng hv
    have hp : IntKind.i64.wrap (W * H) = W * H := IntWalk.i64_in _ (by omega)
    by_cases hl : (l.length : Int) = W * H
    · have e1 : validImg W H l = allIn l 0 256 := by unfold validImg; rw [hv]; simp [hl]
      have e2 : ((l.length : Int) == W * H) = true := by simp [hl]
      have E1 := Lib.hid e1
      clear e1 hl
      go_enter Try.func92, Try.ntmps92
      go_wp2_with (first | (go_at_call 113; refine (I_sizeOk _ _ _).mono ?_; rintro e w' ⟨rfl, rfl⟩) | (go_at_call 106; refine (I_allWithin _ _ _ _ _ _ HH.out).mono ?_; rintro e w' ⟨rfl, rfl⟩))
      go_ret
      exact ⟨ret_bool E1.out.symm, (by repeat (first | (with_reducible exact Below.refl _ _) | (with_reducible assumption) | ((with_reducible refine Below.alloc ?_ ?_ _); rotate_left; (first | omega | (simp <;> omega))) | ((with_reducible refine Below.setCell ?_ ?_ _); rotate_left; (first | omega | (simp <;> omega))) | (with_reducible refine below_drewN ?_ _) | (with_reducible refine Below.drew ?_) | ((with_reducible refine Below.step (by assumption) ?_ ?_); rotate_left; (first | omega | (simp <;> omega)))))⟩
    · have e1 : validImg W H l = false := by unfold validImg; simp [hl]
      have e2 : ((l.length : Int) == W * H) = false := by simp [hl]
      have E1 := Lib.hid e1
      clear e1 hl
      go_enter Try.func92, Try.ntmps92
      go_wp2_with (first | (go_at_call 113; refine (I_sizeOk _ _ _).mono ?_; rintro e w' ⟨rfl, rfl⟩) | (go_at_call 106; refine (I_allWithin _ _ _ _ _ _ HH.out).mono ?_; rintro e w' ⟨rfl, rfl⟩))
      go_ret
      exact ⟨ret_bool E1.out.symm, (by repeat (first | (with_reducible exact Below.refl _ _) | (with_reducible assumption) | ((with_reducible refine Below.alloc ?_ ?_ _); rotate_left; (first | omega | (simp <;> omega))) | ((with_reducible refine Below.setCell ?_ ?_ _); rotate_left; (first | omega | (simp <;> omega))) | (with_reducible refine below_drewN ?_ _) | (with_reducible refine Below.drew ?_) | ((with_reducible refine Below.step (by assumption) ?_ ?_); rotate_left; (first | omega | (simp <;> omega)))))⟩
  · have hv' : sizeB W H = false := by simpa using hv
    have e1 : validImg W H l = false := by unfold validImg; rw [hv']; rfl
    have E1 := Lib.hid e1
    clear e1 hv
    go_enter Try.func92, Try.ntmps92
    go_wp2_with (first | (go_at_call 113; refine (I_sizeOk _ _ _).mono ?_; rintro e w' ⟨rfl, rfl⟩) | (go_at_call 106; refine (I_allWithin _ _ _ _ _ _ HH.out).mono ?_; rintro e w' ⟨rfl, rfl⟩))
    go_ret
    exact ⟨ret_bool E1.out.symm, (by repeat (first | (with_reducible exact Below.refl _ _) | (with_reducible assumption) | ((with_reducible refine Below.alloc ?_ ?_ _); rotate_left; (first | omega | (simp <;> omega))) | ((with_reducible refine Below.setCell ?_ ?_ _); rotate_left; (first | omega | (simp <;> omega))) | (with_reducible refine below_drewN ?_ _) | (with_reducible refine Below.drew ?_) | ((with_reducible refine Below.step (by assumption) ?_ ?_); rotate_left; (first | omega | (simp <;> omega)))))⟩
end Go.Proofs.Ythfnldjldfkmnaa
