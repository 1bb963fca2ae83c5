/- FilterWeight and FilterWindow, of the reference and of the program. -/
import Derived.Test.YthfnldjldfkmnaaFilter
import Derived.Test.YthfnldjldfkmnaaWithin
import Derived.Deep.RegionHeld3
import Derived.Deep.RegionWith
import Derived.BigRegion
namespace Go.Proofs.Ythfnldjldfkmnaa
open Go.ChangeShapes Go.WideShapes Go.ChangeAt Go.RowKit
set_option linter.unusedVariables false
abbrev vSample (x y t a b : Int) : Value := .agg #[.int .i64 x, .int .i64 y, .int .i64 t, .int .i64 a, .int .i64 b]
def distF (p i : Int) : Int := absF (2 * p + 1 - 16 * (2 * i + 1))
def nearF (e dx dy : Int) : Bool := decide (dx < e) && decide (dy < e)
def wtF (k e dx dy : Int) : Int := if nearF e dx dy then (if k = 1 then 1 else (e - dx) * (e - dy)) else 0
def okW (i j x y : Int) : Bool := inB i 0 11 && inB j 0 11 && inB x 0 191 && inB y 0 191
def weightF (k r i j x y : Int) : Int := if okW i j x y then wtF k (extF k r) (distF x i) (distF y j) else 0
theorem distF_rng {p i : Int} (h1 : 0 ≤ p) (h2 : p ≤ 191) (h3 : 0 ≤ i) (h4 : i ≤ 11) : 0 ≤ distF p i ∧ distF p i ≤ 1000 := by unfold distF absF; split <;> omega
theorem okW_true {i j x y : Int} (h : okW i j x y = true) : (0 ≤ i ∧ i ≤ 11) ∧ (0 ≤ j ∧ j ≤ 11) ∧ (0 ≤ x ∧ x ≤ 191) ∧ (0 ≤ y ∧ y ≤ 191) := by
  simp [okW] at h
  exact ⟨inB_true h.1.1.1, inB_true h.1.1.2, inB_true h.1.2, inB_true h.2⟩
theorem extF_rng (k r : Int) : 0 ≤ extF k r ∧ extF k r ≤ 80 := by
  unfold extF
  split
  · have := validF_rng ‹_›; omega
  · omega
theorem S_dist (p i : Int) (h1 : 0 ≤ p) (h2 : p ≤ 191) (h3 : 0 ≤ i) (h4 : i ≤ 11) (w : World) : Calls Try.prog 186 #[.int .i64 (2 * p + 1 - 16 * (2 * i + 1))] w fun e w' => e = .returned (.int .i64 (distF p i)) ∧ w = w' :=
  S_abs _ (by omega) w
theorem I_dist (p i : Int) (h1 : 0 ≤ p) (h2 : p ≤ 191) (h3 : 0 ≤ i) (h4 : i ≤ 11) (w : World) : Calls Try.prog 95 #[.int .i64 (2 * p + 1 - 16 * (2 * i + 1))] w fun e w' => e = .returned (.int .i64 (distF p i)) ∧ w = w' :=
  I_abs _ (by omega) (by omega) w
theorem okW_cases {i j x y : Int} (ho : ¬ okW i j x y = true) : inB i 0 11 = false ∨ (inB i 0 11 = true ∧ inB j 0 11 = false) ∨ (inB i 0 11 = true ∧ inB j 0 11 = true ∧ inB x 0 191 = false) ∨ (inB i 0 11 = true ∧ inB j 0 11 = true ∧ inB x 0 191 = true ∧ inB y 0 191 = false) := by
  simp [okW] at ho
  cases h1 : inB i 0 11 <;> cases h2 : inB j 0 11 <;> cases h3 : inB x 0 191 <;> cases h4 : inB y 0 191 <;> simp_all
theorem prod_rng {e dx dy : Int} (e2 : e ≤ 80) (d1 : 0 ≤ dx) (d3 : 0 ≤ dy) (n1 : dx < e) (n2 : dy < e) : 0 ≤ (e - dx) * (e - dy) ∧ (e - dx) * (e - dy) ≤ 6400 := by
  refine ⟨Int.mul_nonneg (by omega) (by omega), ?_⟩
  have : (e - dx) * (e - dy) ≤ 80 * 80 := Int.mul_le_mul (by omega) (by omega) (by omega) (by omega)
  omega
/-- The three ways through the last part of a filter's weight. -/
theorem wt_cases (k e dx dy : Int) (e2 : e ≤ 80) (d1 : 0 ≤ dx) (d3 : 0 ≤ dy) : (dx < e ∧ dy < e ∧ k = 1 ∧ wtF k e dx dy = 1) ∨ (dx < e ∧ dy < e ∧ (k == 1) = false ∧ (0 ≤ (e - dx) * (e - dy) ∧ (e - dx) * (e - dy) ≤ 6400) ∧ wtF k e dx dy = (e - dx) * (e - dy)) ∨ (e ≤ dx ∧ wtF k e dx dy = 0) ∨ (dx < e ∧ e ≤ dy ∧ wtF k e dx dy = 0) := by
  have hp := prod_rng (e := e) (dx := dx) (dy := dy) e2 d1 d3
  generalize hm : (e - dx) * (e - dy) = m at *
  unfold wtF nearF
  by_cases h1 : dx < e
  · by_cases h2 : dy < e
    · have := hp h1 h2
      by_cases h3 : k = 1
      · exact .inl ⟨h1, h2, h3, by simp [h1, h2, h3]⟩
      · exact .inr (.inl ⟨h1, h2, by simp [h3], this, by simp [h1, h2, h3, hm]⟩)
    · exact .inr (.inr (.inr ⟨h1, by omega, by simp [h2]⟩))
  · exact .inr (.inr (.inl ⟨by omega, by simp [h1]⟩))
set_option maxHeartbeats 1000000 in
theorem S_FilterWeight (k r i j x y t a b : Int) (w : World) :
    Calls Try.prog 168 #[vFilter k r, .int .i64 i, .int .i64 j, vSample x y t a b] w fun e w' => e = .returned (.int .i64 (weightF k r i j x y)) ∧ Below w.heap.size w w' := by
  by_cases ho : okW i j x y = true
  case neg =>
    have he : weightF k r i j x y = 0 := by unfold weightF; rw [if_neg ho]
    have HE := Lib.hid he
    have ho' := okW_cases ho
    clear he ho
    rcases ho' with h1 | ⟨h1, h2⟩ | ⟨h1, h2, h3⟩ | ⟨h1, h2, h3, h4⟩
    all_goals
      go_enter Try.func168, Try.ntmps168
      go_wp2_with (go_at_call 117; refine (S_in _ _ _ _).mono ?_; rintro e w' ⟨rfl, rfl⟩)
      go_ret
      exact ⟨ret_int HE.out.symm, (by repeat (first | (with_reducible exact Below.refl _ _) | (with_reducible assumption) | ((with_reducible refine Below.alloc ?_ ?_ _); rotate_left; (first | omega | (simp <;> omega))) | ((with_reducible refine Below.setCell ?_ ?_ _); rotate_left; (first | omega | (simp <;> omega))) | (with_reducible refine below_drewN ?_ _) | (with_reducible refine Below.drew ?_) | ((with_reducible refine Below.step (by assumption) ?_ ?_); rotate_left; (first | omega | (simp <;> omega)))))⟩
  case pos =>
    have h0 := ho
    simp only [okW, Bool.and_eq_true] at h0
    obtain ⟨⟨⟨h1, h2⟩, h3⟩, h4⟩ := h0
    obtain ⟨⟨i1, i2⟩, ⟨j1, j2⟩, ⟨x1, x2⟩, y1, y2⟩ := okW_true ho
    have he : weightF k r i j x y = wtF k (extF k r) (distF x i) (distF y j) := by unfold weightF; rw [if_pos ho]
    obtain ⟨e1, e2⟩ := extF_rng k r
    obtain ⟨d1, d2⟩ := distF_rng x1 x2 i1 i2
    obtain ⟨d3, d4⟩ := distF_rng y1 y2 j1 j2
    clear ho
    rcases wt_cases k (extF k r) (distF x i) (distF y j) e2 d1 d3 with ⟨n1, n2, rfl, n4⟩ | ⟨n1, n2, n3, ⟨m1, m2⟩, n4⟩ | ⟨n1, n4⟩ | ⟨n1, n2, n4⟩
    all_goals
      have HE := Lib.hid (he.trans n4)
      clear he n4
      go_enter Try.func168, Try.ntmps168
      go_wp2_with (first | (go_at_call 117; refine (S_in _ _ _ _).mono ?_; rintro e w' ⟨rfl, rfl⟩) | (go_at_call 185; refine (S_FilterExtent _ _ _).mono ?_; rintro e w' ⟨rfl, hb⟩; have hz := hb.size; (try simp at hz); have c0 := fun o => hb.cell (p := ⟨w.heap.size, o, none⟩) (by first | omega | (simp <;> omega)); have f0 := fun o => hb.frozen (p := ⟨w.heap.size, o, none⟩) (by first | omega | (simp <;> omega)); have z0 : w.heap.size < w'.heap.size := (by omega); have c1 := fun o => hb.cell (p := ⟨w.heap.size + 1, o, none⟩) (by first | omega | (simp <;> omega)); have f1 := fun o => hb.frozen (p := ⟨w.heap.size + 1, o, none⟩) (by first | omega | (simp <;> omega)); have z1 : w.heap.size + 1 < w'.heap.size := (by omega)) | (go_at_call 186; refine (S_dist _ _ (by omega) (by omega) (by omega) (by omega) _).mono ?_; rintro e w' ⟨rfl, rfl⟩))
      go_ret
      exact ⟨ret_int HE.out.symm, (by repeat (first | (with_reducible exact Below.refl _ _) | (with_reducible assumption) | ((with_reducible refine Below.alloc ?_ ?_ _); rotate_left; (first | omega | (simp <;> omega))) | ((with_reducible refine Below.setCell ?_ ?_ _); rotate_left; (first | omega | (simp <;> omega))) | (with_reducible refine below_drewN ?_ _) | (with_reducible refine Below.drew ?_) | ((with_reducible refine Below.step (by assumption) ?_ ?_); rotate_left; (first | omega | (simp <;> omega)))))⟩
set_option maxHeartbeats 1000000 in
theorem I_weight (k r i j x y t a b : Int) (hv : validF k r = true) (ho : okW i j x y = true) (w : World) :
    Calls Try.prog 107 #[vFilter k r, .int .i64 i, .int .i64 j, vSample x y t a b] w fun e w' => e = .returned (.int .i64 (weightF k r i j x y)) ∧ Below w.heap.size w w' := by
  obtain ⟨⟨i1, i2⟩, ⟨j1, j2⟩, ⟨x1, x2⟩, y1, y2⟩ := okW_true ho
  obtain ⟨_, _, r1, r2⟩ := validF_rng hv
  have he : weightF k r i j x y = wtF k (16 * (2 * r - 1)) (distF x i) (distF y j) := by unfold weightF; rw [if_pos ho, extF, if_pos hv]
  obtain ⟨d1, d2⟩ := distF_rng x1 x2 i1 i2
  obtain ⟨d3, d4⟩ := distF_rng y1 y2 j1 j2
  clear ho hv
  rcases wt_cases k (16 * (2 * r - 1)) (distF x i) (distF y j) (by omega) d1 d3 with ⟨n1, n2, rfl, n4⟩ | ⟨n1, n2, n3, ⟨m1, m2⟩, n4⟩ | ⟨n1, n4⟩ | ⟨n1, n2, n4⟩
  all_goals
    have HE := Lib.hid (he.trans n4)
    clear he n4
    go_enter Try.func107, Try.ntmps107
    go_wp2_with (first | (go_at_call 164; refine (I_extent _ _ (by omega) (by omega) _).mono ?_; rintro e w' ⟨rfl, hb⟩; have hz := hb.size; (try simp at hz); have c0 := fun o => hb.cell (p := ⟨w.heap.size, o, none⟩) (by first | omega | (simp <;> omega)); have f0 := fun o => hb.frozen (p := ⟨w.heap.size, o, none⟩) (by first | omega | (simp <;> omega)); have z0 : w.heap.size < w'.heap.size := (by omega); have c1 := fun o => hb.cell (p := ⟨w.heap.size + 1, o, none⟩) (by first | omega | (simp <;> omega)); have f1 := fun o => hb.frozen (p := ⟨w.heap.size + 1, o, none⟩) (by first | omega | (simp <;> omega)); have z1 : w.heap.size + 1 < w'.heap.size := (by omega)) | (go_at_call 95; refine (I_dist _ _ (by omega) (by omega) (by omega) (by omega) _).mono ?_; rintro e w' ⟨rfl, rfl⟩))
    go_ret
    exact ⟨ret_int HE.out.symm, (by repeat (first | (with_reducible exact Below.refl _ _) | (with_reducible assumption) | ((with_reducible refine Below.alloc ?_ ?_ _); rotate_left; (first | omega | (simp <;> omega))) | ((with_reducible refine Below.setCell ?_ ?_ _); rotate_left; (first | omega | (simp <;> omega))) | (with_reducible refine below_drewN ?_ _) | (with_reducible refine Below.drew ?_) | ((with_reducible refine Below.step (by assumption) ?_ ?_); rotate_left; (first | omega | (simp <;> omega)))))⟩
end Go.Proofs.Ythfnldjldfkmnaa
