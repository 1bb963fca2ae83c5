/- Windows and weights of a filter: plain laws; PixelAt and IsValidBucket of the program. -/
import Derived.Test.YthfnldjldfkmnaaSmpM
import Derived.Test.YthfnldjldfkmnaaCrop
import Derived.Test.YthfnldjldfkmnaaWindow
import Derived.Test.YthfnldjldfkmnaaFilterL
namespace Go.Proofs.Ythfnldjldfkmnaa
open Go.RowKit
set_option linter.unusedVariables false
set_option maxRecDepth 100000
theorem distF_far {p i r : Int} (hp : 0 ≤ p) (h : p / 16 < i - r + 1 ∨ i + r ≤ p / 16) : 16 * (2 * r - 1) ≤ distF p i := by
  unfold distF absF
  split <;> omega
theorem distF_near {p i : Int} (hp : 0 ≤ p) (h : p / 16 = i) : distF p i ≤ 15 := by
  unfold distF absF
  split <;> omega
theorem weightF_nn (k r i j x y : Int) : 0 ≤ weightF k r i j x y := by
  unfold weightF
  split
  · next h =>
    obtain ⟨⟨i1, i2⟩, ⟨j1, j2⟩, ⟨x1, x2⟩, y1, y2⟩ := okW_true h
    have e := extF_rng k r
    have d1 := distF_rng x1 x2 i1 i2
    have d2 := distF_rng y1 y2 j1 j2
    rcases wt_cases k (extF k r) (distF x i) (distF y j) e.2 d1.1 d2.1 with ⟨_, _, _, h4⟩ | ⟨_, _, _, h3, h4⟩ | ⟨_, h4⟩ | ⟨_, _, h4⟩ <;> rw [h4] <;> omega
  · omega
theorem weightF_out {k r i j x y : Int} (hf : validF k r = true) (hx : 0 ≤ x) (hy : 0 ≤ y) (h : (x / 16 < i - r + 1 ∨ i + r ≤ x / 16) ∨ (y / 16 < j - r + 1 ∨ j + r ≤ y / 16)) : weightF k r i j x y = 0 := by
  unfold weightF
  split
  · unfold wtF nearF
    have he : extF k r = 16 * (2 * r - 1) := by unfold extF; rw [if_pos hf]
    rw [he, if_neg]
    simp only [Bool.and_eq_true, decide_eq_true_eq]
    rcases h with h | h
    · have := distF_far hx h; omega
    · have := distF_far hy h; omega
  · rfl
theorem weightF_own {k r i j x y : Int} (hf : validF k r = true) (ho : okW i j x y = true) (h1 : x / 16 = i) (h2 : y / 16 = j) : 0 < weightF k r i j x y := by
  obtain ⟨⟨i1, i2⟩, ⟨j1, j2⟩, ⟨x1, x2⟩, y1, y2⟩ := okW_true ho
  unfold weightF
  rw [if_pos ho]
  obtain ⟨_, _, r1, r2⟩ := validF_rng hf
  have he : extF k r = 16 * (2 * r - 1) := by unfold extF; rw [if_pos hf]
  have d1 := distF_near x1 h1
  have d2 := distF_near y1 h2
  generalize distF x i = D1 at *
  generalize distF y j = D2 at *
  unfold wtF nearF
  rw [if_pos (by simp; omega)]
  split
  · omega
  · have h1 : 1 ≤ extF k r - D1 := by omega
    have h2 : 1 ≤ extF k r - D2 := by omega
    have := Int.mul_le_mul h1 h2 (by omega) (by omega)
    omega
theorem win_inside {a b : Nat} {i j r : Int} (hr : 1 ≤ r ∧ r ≤ 3) (hi : 0 ≤ i ∧ i ≤ a - 1) (hj : 0 ≤ j ∧ j ≤ b - 1) : insideF (winX i r) (winX j r) (winW a i r) (winW b j r) a b = true := by
  unfold insideF winW winX
  rw [inB_mk (by omega) (by omega), inB_mk (by omega) (by omega), inB_mk (by omega) (by omega), inB_mk (by omega) (by omega)]; rfl
/-- How a sample of the pixel (X, Y) lies to the window (bx, by, bw, bh), and its weight. -/
theorem win_ways {a b : Nat} {k r i j x y : Int} (ha : 1 ≤ a ∧ a ≤ 12) (hb : 1 ≤ b ∧ b ≤ 12) (hf : validF k r = true) (hi : 0 ≤ i ∧ i ≤ a - 1) (hj : 0 ≤ j ∧ j ≤ b - 1) (hx : 0 ≤ x ∧ x ≤ a * 16 - 1) (hy : 0 ≤ y ∧ y ≤ b * 16 - 1) :
    (((winX i r ≤ x / 16 ∧ x / 16 < winX i r + winW a i r) ∧ winX j r ≤ y / 16 ∧ y / 16 < winX j r + winW b j r) ∧ ((¬ x / 16 = i) ∨ (x / 16 = i ∧ ¬ y / 16 = j) ∨ (x / 16 = i ∧ y / 16 = j ∧ 0 < weightF k r i j x y))) ∨
    ((x / 16 < winX i r ∧ ¬ x / 16 = i) ∧ weightF k r i j x y = 0) ∨
    ((winX i r ≤ x / 16 ∧ ¬ x / 16 < winX i r + winW a i r ∧ ¬ x / 16 = i) ∧ weightF k r i j x y = 0) ∨
    (((winX i r ≤ x / 16 ∧ x / 16 < winX i r + winW a i r) ∧ y / 16 < winX j r ∧ ¬ y / 16 = j) ∧ weightF k r i j x y = 0) ∨
    (((winX i r ≤ x / 16 ∧ x / 16 < winX i r + winW a i r) ∧ winX j r ≤ y / 16 ∧ ¬ y / 16 < winX j r + winW b j r ∧ ¬ y / 16 = j) ∧ weightF k r i j x y = 0) := by
  obtain ⟨_, _, r1, r2⟩ := validF_rng hf
  have own := weightF_own (i := i) (j := j) (x := x) (y := y) hf (by unfold okW; rw [inB_mk (by omega) (by omega), inB_mk (by omega) (by omega), inB_mk (by omega) (by omega), inB_mk (by omega) (by omega)]; rfl)
  have out := weightF_out (i := i) (j := j) hf hx.1 hy.1
  generalize weightF k r i j x y = W at *
  unfold winW winX at *
  by_cases h1 : max 0 (i - r + 1) ≤ x / 16
  · by_cases h2 : x / 16 < max 0 (i - r + 1) + (min ((a : Int) - 1) (i + r - 1) - max 0 (i - r + 1) + 1)
    · by_cases h3 : max 0 (j - r + 1) ≤ y / 16
      · by_cases h4 : y / 16 < max 0 (j - r + 1) + (min ((b : Int) - 1) (j + r - 1) - max 0 (j - r + 1) + 1)
        · left
          refine ⟨⟨⟨h1, h2⟩, h3, h4⟩, ?_⟩
          by_cases e1 : x / 16 = i
          · by_cases e2 : y / 16 = j
            · exact .inr (.inr ⟨e1, e2, own e1 e2⟩)
            · exact .inr (.inl ⟨e1, e2⟩)
          · exact .inl e1
        · exact .inr (.inr (.inr (.inr ⟨⟨⟨h1, h2⟩, h3, h4, by omega⟩, out (by omega)⟩)))
      · exact .inr (.inr (.inr (.inl ⟨⟨⟨h1, h2⟩, by omega, by omega⟩, out (by omega)⟩)))
    · exact .inr (.inr (.inl ⟨⟨h1, h2, by omega⟩, out (by omega)⟩))
  · exact .inr (.inl ⟨⟨by omega, by omega⟩, out (by omega)⟩)
set_option maxHeartbeats 1000000 in
theorem I_PixelAt {a b : Nat} {x y u v : Int} {e : Bool} {p q : Int} (w : World) (hv : validCam a b x y u v = true) (hp : 0 ≤ p ∧ p ≤ a * 16 - 1) (hq : 0 ≤ q ∧ q ≤ b * 16 - 1) :
    Calls Try.prog 28 #[vCamera a b x y e u v, .int .i64 p, .int .i64 q] w fun r w' => r = .returned (.tuple #[.int .i64 (p / 16), .int .i64 (q / 16), .bool true]) ∧ Below w.heap.size w w' := by
  obtain ⟨⟨a1, a2⟩, ⟨b1, b2⟩, _⟩ := validCam_true hv
  have hp1 := inB_mk hp.1 hp.2
  have hq1 := inB_mk hq.1 hq.2
  obtain ⟨p0, p9⟩ := hp
  obtain ⟨q0, q9⟩ := hq
  have e1 : Int.tdiv p 16 = p / 16 := Int.tdiv_eq_ediv_of_nonneg p0
  have e2 : Int.tdiv q 16 = q / 16 := Int.tdiv_eq_ediv_of_nonneg q0
  have y1' : IntKind.i64.wrap (p / 16) = p / 16 := IntWalk.i64_in _ (by omega)
  have y2' : IntKind.i64.wrap (q / 16) = q / 16 := IntWalk.i64_in _ (by omega)
  have y3' : IntKind.i64.wrap ((a : Int) * 16) = (a : Int) * 16 := IntWalk.i64_in _ (by omega)
  have y4' : IntKind.i64.wrap ((b : Int) * 16) = (b : Int) * 16 := IntWalk.i64_in _ (by omega)
  have y5' : IntKind.i64.wrap ((a : Int) * 16 - 1) = (a : Int) * 16 - 1 := IntWalk.i64_in _ (by omega)
  have y6' : IntKind.i64.wrap ((b : Int) * 16 - 1) = (b : Int) * 16 - 1 := IntWalk.i64_in _ (by omega)
  go_enter Try.func28, Try.ntmps28
  go_wp2_with (first | (go_at_call 102; refine (I_IsValidCamera _).mono ?_; rintro e w' ⟨rfl, hb⟩; have hz := hb.size; (try simp at hz); have c0 := fun o => hb.cell (p := ⟨w.heap.size, o, none⟩) (by first | omega | (simp <;> omega)); have f0 := fun o => hb.frozen (p := ⟨w.heap.size, o, none⟩) (by first | omega | (simp <;> omega)); have z0 : w.heap.size < w'.heap.size := (by omega)) | (go_at_call 105; refine (I_within _ _ _ _).mono ?_; rintro e w' ⟨rfl, rfl⟩) | fail)
  refine bodyPost_ret (v := .tuple #[.int .i64 (p / 16), .int .i64 (q / 16), .bool true]) (by simp [results, Try.results28, go_sem, *]) rfl ⟨rfl, (by repeat (first | (with_reducible exact Below.refl _ _) | (with_reducible assumption) | ((with_reducible refine Below.alloc ?_ ?_ _); rotate_left; (first | omega | (simp <;> omega))) | ((with_reducible refine Below.setCell ?_ ?_ _); rotate_left; (first | omega | (simp <;> omega))) | (with_reducible refine below_drewN ?_ _) | (with_reducible refine Below.drew ?_) | ((with_reducible refine Below.step (by assumption) ?_ ?_); rotate_left; (first | omega | (simp <;> omega)))))⟩
set_option maxHeartbeats 1000000 in
theorem I_IsValidBucket {a b : Nat} {x y u v : Int} {e : Bool} {p q r s : Int} (w : World) (hv : validCam a b x y u v = true) :
    Calls Try.prog 30 #[vCamera a b x y e u v, vBucket p q r s] w fun z w' => z = .returned (.bool (insideF p q r s a b)) ∧ Below w.heap.size w w' := by
  obtain ⟨ha, hb0, _⟩ := validCam_true hv
  have HA := Lib.hid (And.intro ha hb0)
  clear ha hb0
  go_enter Try.func30, Try.ntmps30
  go_wp2_with (first | (go_at_call 102; refine (I_IsValidCamera _).mono ?_; rintro e w' ⟨rfl, hb⟩; have hz := hb.size; (try simp at hz); have c0 := fun o => hb.cell (p := ⟨w.heap.size, o, none⟩) (by first | omega | (simp <;> omega)); have f0 := fun o => hb.frozen (p := ⟨w.heap.size, o, none⟩) (by first | omega | (simp <;> omega)); have z0 : w.heap.size < w'.heap.size := (by omega); have c1 := fun o => hb.cell (p := ⟨w.heap.size + 1, o, none⟩) (by first | omega | (simp <;> omega)); have f1 := fun o => hb.frozen (p := ⟨w.heap.size + 1, o, none⟩) (by first | omega | (simp <;> omega)); have z1 : w.heap.size + 1 < w'.heap.size := (by omega)) | (go_at_call 108; refine (I_inside _ HA.out.1 HA.out.2).mono ?_; rintro e w' ⟨rfl, hb⟩; have hz := hb.size; (try simp at hz); have c0 := fun o => hb.cell (p := ⟨w.heap.size, o, none⟩) (by first | omega | (simp <;> omega)); have f0 := fun o => hb.frozen (p := ⟨w.heap.size, o, none⟩) (by first | omega | (simp <;> omega)); have z0 : w.heap.size < w'.heap.size := (by omega); have c1 := fun o => hb.cell (p := ⟨w.heap.size + 1, o, none⟩) (by first | omega | (simp <;> omega)); have f1 := fun o => hb.frozen (p := ⟨w.heap.size + 1, o, none⟩) (by first | omega | (simp <;> omega)); have z1 : w.heap.size + 1 < w'.heap.size := (by omega)) | fail)
  go_ret
  exact ⟨rfl, (by repeat (first | (with_reducible exact Below.refl _ _) | (with_reducible assumption) | ((with_reducible refine Below.alloc ?_ ?_ _); rotate_left; (first | omega | (simp <;> omega))) | ((with_reducible refine Below.setCell ?_ ?_ _); rotate_left; (first | omega | (simp <;> omega))) | (with_reducible refine below_drewN ?_ _) | (with_reducible refine Below.drew ?_) | ((with_reducible refine Below.step (by assumption) ?_ ?_); rotate_left; (first | omega | (simp <;> omega)))))⟩
end Go.Proofs.Ythfnldjldfkmnaa
