/- FilterWindow of the reference and of the program. -/
import Derived.Test.YthfnldjldfkmnaaCamera
import Derived.Test.YthfnldjldfkmnaaFilter
import Derived.Deep.RegionHeld3
import Derived.BigQuiet
import Derived.Deep.QuietTactic
namespace Go.Proofs.Ythfnldjldfkmnaa
open Go.RowKit
set_option linter.unusedVariables false
def winX (i r : Int) : Int := max 0 (i - r + 1)
def winW (a i r : Int) : Int := min (a - 1) (i + r - 1) - winX i r + 1
def okWin (k r a b c d f g i j : Int) : Bool := validF k r && (validCam a b c d f g && inImg a b i j)
def winV (k r a b c d f g i j : Int) : Value := if okWin k r a b c d f g i j then vBucket (winX i r) (winX j r) (winW a i r) (winW b j r) else vBucket 0 0 0 0
theorem ret_bucket {x y z u x' y' z' u' : Int} (h1 : x = x') (h2 : y = y') (h3 : z = z') (h4 : u = u') : Ending.returned (vBucket x y z u) = .returned (vBucket x' y' z' u') := by rw [h1, h2, h3, h4]
theorem okWin_true {k r a b c d f g i j : Int} (h : okWin k r a b c d f g i j = true) : validF k r = true ∧ validCam a b c d f g = true ∧ inImg a b i j = true ∧ (1 ≤ r ∧ r ≤ 3) ∧ (1 ≤ a ∧ a ≤ 12) ∧ (1 ≤ b ∧ b ≤ 12) ∧ (0 ≤ i ∧ i ≤ a - 1) ∧ 0 ≤ j ∧ j ≤ b - 1 := by
  simp only [okWin, Bool.and_eq_true] at h
  obtain ⟨h1, h2, h3⟩ := h
  have q1 := validF_rng h1
  have q2 := validCam_true h2
  have h3' := h3
  simp only [inImg, Bool.and_eq_true] at h3'
  have q3 := inB_true h3'.1
  have q4 := inB_true h3'.2
  exact ⟨h1, h2, h3, q1.2.2, q2.1, q2.2.1, q3, q4⟩
theorem okWin_false {k r a b c d f g i j : Int} (h : ¬ okWin k r a b c d f g i j = true) : validF k r = false ∨ (validF k r = true ∧ validCam a b c d f g = false) ∨ (validF k r = true ∧ validCam a b c d f g = true ∧ inImg a b i j = false) := by
  simp only [okWin, Bool.and_eq_true] at h
  cases h1 : validF k r <;> cases h2 : validCam a b c d f g <;> cases h3 : inImg a b i j <;> simp_all
set_option maxHeartbeats 1000000 in
theorem I_window {k r a b c d : Int} {e : Bool} {f g i j : Int} (w : World) (hr : 1 ≤ r ∧ r ≤ 3) (ha : 1 ≤ a ∧ a ≤ 12) (hb : 1 ≤ b ∧ b ≤ 12) (hi : 0 ≤ i ∧ i ≤ a - 1) (hj : 0 ≤ j ∧ j ≤ b - 1) :
    Calls Try.prog 104 #[vFilter k r, vCamera a b c d e f g, .int .i64 i, .int .i64 j] w fun x w' => x = .returned (vBucket (winX i r) (winX j r) (winW a i r) (winW b j r)) ∧ Below w.heap.size w w' := by
  obtain ⟨r1, r2⟩ := hr
  obtain ⟨a1, a2⟩ := ha
  obtain ⟨b1, b2⟩ := hb
  obtain ⟨i1, i2⟩ := hi
  obtain ⟨j1, j2⟩ := hj
  go_enter Try.func104, Try.ntmps104
  go_wp2
  go_quiet (fail)
  go_wp2
  all_goals
    exact bodyPost_ret (v := vBucket (winX i r) (winX j r) (winW a i r) (winW b j r)) (by simp [results, Try.results104, go_sem]; (repeat' apply And.intro) <;> (simp only [winX, winW]; omega)) rfl ⟨rfl, (by repeat (first | (with_reducible exact Below.refl _ _) | (with_reducible assumption) | ((with_reducible refine Below.alloc ?_ ?_ _); rotate_left; (first | omega | (simp <;> omega))) | ((with_reducible refine Below.setCell ?_ ?_ _); rotate_left; (first | omega | (simp <;> omega))) | (with_reducible refine below_drewN ?_ _) | (with_reducible refine Below.drew ?_) | ((with_reducible refine Below.step (by assumption) ?_ ?_); rotate_left; (first | omega | (simp <;> omega)))))⟩
set_option maxHeartbeats 1000000 in
theorem I_FilterWindow {k r a b c d : Int} {e : Bool} {f g i j : Int} (w : World) :
    Calls Try.prog 27 #[vFilter k r, vCamera a b c d e f g, .int .i64 i, .int .i64 j] w fun x w' => x = .returned (winV k r a b c d f g i j) ∧ Below w.heap.size w w' := by
  by_cases ho : okWin k r a b c d f g i j = true
  case neg =>
    have HE : Hid (winV k r a b c d f g i j = vBucket 0 0 0 0) := by unfold Hid winV; rw [if_neg ho]
    have HC : Hid (validCam a b c d f g = true → (1 ≤ a ∧ a ≤ 12) ∧ (1 ≤ b ∧ b ≤ 12)) := fun h => ⟨(validCam_true h).1, (validCam_true h).2.1⟩
    rcases okWin_false ho with h1 | ⟨h1, h2⟩ | ⟨h1, h2, h3⟩
    all_goals
      clear ho
      go_enter Try.func27, Try.ntmps27
      go_wp2_with (first | (go_at_call 101; refine (I_IsValidFilter _ _ _).mono ?_; rintro e w' ⟨rfl, hb⟩; have hz := hb.size; (try simp at hz); have c0 := fun o => hb.cell (p := ⟨w.heap.size, o, none⟩) (by first | omega | (simp <;> omega)); have f0 := fun o => hb.frozen (p := ⟨w.heap.size, o, none⟩) (by first | omega | (simp <;> omega)); have z0 : w.heap.size < w'.heap.size := (by omega); have c1 := fun o => hb.cell (p := ⟨w.heap.size + 1, o, none⟩) (by first | omega | (simp <;> omega)); have f1 := fun o => hb.frozen (p := ⟨w.heap.size + 1, o, none⟩) (by first | omega | (simp <;> omega)); have z1 : w.heap.size + 1 < w'.heap.size := (by omega); have c2 := fun o => hb.cell (p := ⟨w.heap.size + 1 + 1, o, none⟩) (by first | omega | (simp <;> omega)); have f2 := fun o => hb.frozen (p := ⟨w.heap.size + 1 + 1, o, none⟩) (by first | omega | (simp <;> omega)); have z2 : w.heap.size + 1 + 1 < w'.heap.size := (by omega)) | (go_at_call 102; refine (I_IsValidCamera _).mono ?_; rintro e w' ⟨rfl, hb⟩; have hz := hb.size; (try simp at hz); have c0 := fun o => hb.cell (p := ⟨w.heap.size, o, none⟩) (by first | omega | (simp <;> omega)); have f0 := fun o => hb.frozen (p := ⟨w.heap.size, o, none⟩) (by first | omega | (simp <;> omega)); have z0 : w.heap.size < w'.heap.size := (by omega); have c1 := fun o => hb.cell (p := ⟨w.heap.size + 1, o, none⟩) (by first | omega | (simp <;> omega)); have f1 := fun o => hb.frozen (p := ⟨w.heap.size + 1, o, none⟩) (by first | omega | (simp <;> omega)); have z1 : w.heap.size + 1 < w'.heap.size := (by omega); have c2 := fun o => hb.cell (p := ⟨w.heap.size + 1 + 1, o, none⟩) (by first | omega | (simp <;> omega)); have f2 := fun o => hb.frozen (p := ⟨w.heap.size + 1 + 1, o, none⟩) (by first | omega | (simp <;> omega)); have z2 : w.heap.size + 1 + 1 < w'.heap.size := (by omega)) | (go_at_call 103; refine (I_inImage _ (HC.out h2).1.1 (HC.out h2).1.2 (HC.out h2).2.1 (HC.out h2).2.2).mono ?_; rintro e w' ⟨rfl, hb⟩; have hz := hb.size; (try simp at hz); have c0 := fun o => hb.cell (p := ⟨w.heap.size, o, none⟩) (by first | omega | (simp <;> omega)); have f0 := fun o => hb.frozen (p := ⟨w.heap.size, o, none⟩) (by first | omega | (simp <;> omega)); have z0 : w.heap.size < w'.heap.size := (by omega); have c1 := fun o => hb.cell (p := ⟨w.heap.size + 1, o, none⟩) (by first | omega | (simp <;> omega)); have f1 := fun o => hb.frozen (p := ⟨w.heap.size + 1, o, none⟩) (by first | omega | (simp <;> omega)); have z1 : w.heap.size + 1 < w'.heap.size := (by omega); have c2 := fun o => hb.cell (p := ⟨w.heap.size + 1 + 1, o, none⟩) (by first | omega | (simp <;> omega)); have f2 := fun o => hb.frozen (p := ⟨w.heap.size + 1 + 1, o, none⟩) (by first | omega | (simp <;> omega)); have z2 : w.heap.size + 1 + 1 < w'.heap.size := (by omega)))
      rw [HE.out]
      exact bodyPost_ret (v := vBucket 0 0 0 0) (by simp [results, Try.results27, go_sem, *]) rfl ⟨rfl, (by repeat (first | (with_reducible exact Below.refl _ _) | (with_reducible assumption) | ((with_reducible refine Below.alloc ?_ ?_ _); rotate_left; (first | omega | (simp <;> omega))) | ((with_reducible refine Below.setCell ?_ ?_ _); rotate_left; (first | omega | (simp <;> omega))) | (with_reducible refine below_drewN ?_ _) | (with_reducible refine Below.drew ?_) | ((with_reducible refine Below.step (by assumption) ?_ ?_); rotate_left; (first | omega | (simp <;> omega)))))⟩
  case pos =>
    have HE : Hid (winV k r a b c d f g i j = vBucket (winX i r) (winX j r) (winW a i r) (winW b j r)) := by unfold Hid winV; rw [if_pos ho]
    obtain ⟨h1, h2, h3, hr, ha, hb0, hi, hj⟩ := okWin_true ho
    have HR := Lib.hid hr
    have HA := Lib.hid ha
    have HB := Lib.hid hb0
    have HI := Lib.hid hi
    have HJ := Lib.hid hj
    clear ho hr ha hb0 hi hj
    go_enter Try.func27, Try.ntmps27
    go_wp2_with (first | (go_at_call 101; refine (I_IsValidFilter _ _ _).mono ?_; rintro e w' ⟨rfl, hb⟩; have hz := hb.size; (try simp at hz); have c0 := fun o => hb.cell (p := ⟨w.heap.size, o, none⟩) (by first | omega | (simp <;> omega)); have f0 := fun o => hb.frozen (p := ⟨w.heap.size, o, none⟩) (by first | omega | (simp <;> omega)); have z0 : w.heap.size < w'.heap.size := (by omega); have c1 := fun o => hb.cell (p := ⟨w.heap.size + 1, o, none⟩) (by first | omega | (simp <;> omega)); have f1 := fun o => hb.frozen (p := ⟨w.heap.size + 1, o, none⟩) (by first | omega | (simp <;> omega)); have z1 : w.heap.size + 1 < w'.heap.size := (by omega); have c2 := fun o => hb.cell (p := ⟨w.heap.size + 1 + 1, o, none⟩) (by first | omega | (simp <;> omega)); have f2 := fun o => hb.frozen (p := ⟨w.heap.size + 1 + 1, o, none⟩) (by first | omega | (simp <;> omega)); have z2 : w.heap.size + 1 + 1 < w'.heap.size := (by omega)) | (go_at_call 102; refine (I_IsValidCamera _).mono ?_; rintro e w' ⟨rfl, hb⟩; have hz := hb.size; (try simp at hz); have c0 := fun o => hb.cell (p := ⟨w.heap.size, o, none⟩) (by first | omega | (simp <;> omega)); have f0 := fun o => hb.frozen (p := ⟨w.heap.size, o, none⟩) (by first | omega | (simp <;> omega)); have z0 : w.heap.size < w'.heap.size := (by omega); have c1 := fun o => hb.cell (p := ⟨w.heap.size + 1, o, none⟩) (by first | omega | (simp <;> omega)); have f1 := fun o => hb.frozen (p := ⟨w.heap.size + 1, o, none⟩) (by first | omega | (simp <;> omega)); have z1 : w.heap.size + 1 < w'.heap.size := (by omega); have c2 := fun o => hb.cell (p := ⟨w.heap.size + 1 + 1, o, none⟩) (by first | omega | (simp <;> omega)); have f2 := fun o => hb.frozen (p := ⟨w.heap.size + 1 + 1, o, none⟩) (by first | omega | (simp <;> omega)); have z2 : w.heap.size + 1 + 1 < w'.heap.size := (by omega)) | (go_at_call 103; refine (I_inImage _ HA.out.1 HA.out.2 HB.out.1 HB.out.2).mono ?_; rintro e w' ⟨rfl, hb⟩; have hz := hb.size; (try simp at hz); have c0 := fun o => hb.cell (p := ⟨w.heap.size, o, none⟩) (by first | omega | (simp <;> omega)); have f0 := fun o => hb.frozen (p := ⟨w.heap.size, o, none⟩) (by first | omega | (simp <;> omega)); have z0 : w.heap.size < w'.heap.size := (by omega); have c1 := fun o => hb.cell (p := ⟨w.heap.size + 1, o, none⟩) (by first | omega | (simp <;> omega)); have f1 := fun o => hb.frozen (p := ⟨w.heap.size + 1, o, none⟩) (by first | omega | (simp <;> omega)); have z1 : w.heap.size + 1 < w'.heap.size := (by omega); have c2 := fun o => hb.cell (p := ⟨w.heap.size + 1 + 1, o, none⟩) (by first | omega | (simp <;> omega)); have f2 := fun o => hb.frozen (p := ⟨w.heap.size + 1 + 1, o, none⟩) (by first | omega | (simp <;> omega)); have z2 : w.heap.size + 1 + 1 < w'.heap.size := (by omega)) | (go_at_call 104; refine (I_window _ HR.out HA.out HB.out HI.out HJ.out).mono ?_; rintro e w' ⟨rfl, hb⟩; have hz := hb.size; (try simp at hz); have c0 := fun o => hb.cell (p := ⟨w.heap.size, o, none⟩) (by first | omega | (simp <;> omega)); have f0 := fun o => hb.frozen (p := ⟨w.heap.size, o, none⟩) (by first | omega | (simp <;> omega)); have z0 : w.heap.size < w'.heap.size := (by omega); have c1 := fun o => hb.cell (p := ⟨w.heap.size + 1, o, none⟩) (by first | omega | (simp <;> omega)); have f1 := fun o => hb.frozen (p := ⟨w.heap.size + 1, o, none⟩) (by first | omega | (simp <;> omega)); have z1 : w.heap.size + 1 < w'.heap.size := (by omega); have c2 := fun o => hb.cell (p := ⟨w.heap.size + 1 + 1, o, none⟩) (by first | omega | (simp <;> omega)); have f2 := fun o => hb.frozen (p := ⟨w.heap.size + 1 + 1, o, none⟩) (by first | omega | (simp <;> omega)); have z2 : w.heap.size + 1 + 1 < w'.heap.size := (by omega)))
    rw [HE.out]
    exact bodyPost_ret (v := vBucket (winX i r) (winX j r) (winW a i r) (winW b j r)) (by simp [results, Try.results27, go_sem, *]) rfl ⟨rfl, (by repeat (first | (with_reducible exact Below.refl _ _) | (with_reducible assumption) | ((with_reducible refine Below.alloc ?_ ?_ _); rotate_left; (first | omega | (simp <;> omega))) | ((with_reducible refine Below.setCell ?_ ?_ _); rotate_left; (first | omega | (simp <;> omega))) | (with_reducible refine below_drewN ?_ _) | (with_reducible refine Below.drew ?_) | ((with_reducible refine Below.step (by assumption) ?_ ?_); rotate_left; (first | omega | (simp <;> omega)))))⟩
end Go.Proofs.Ythfnldjldfkmnaa
