/- FilterWindow of the reference; the law FnExactFilterWindow. -/
import Derived.Test.YtckhdnigbddnkaaWindow
namespace Go.Proofs.Ytckhdnigbddnkaa
open Go.ChangeShapes Go.WideShapes Go.ChangeAt Go.RowKit
set_option linter.unusedVariables false
theorem inImg_cases {a b i j : Int} (h : inImg a b i j = false) : inB i 0 (a - 1) = false ∨ (inB i 0 (a - 1) = true ∧ inB j 0 (b - 1) = false) := by
  unfold inImg at h
  cases h1 : inB i 0 (a - 1) <;> cases h2 : inB j 0 (b - 1) <;> simp_all
set_option maxHeartbeats 2000000 in
theorem S_FilterWindow {k r a b c d : Int} {e : Bool} {f g i j : Int} (w : World) :
    Calls Try.prog 34 #[vFilter k r, vCamera a b c d e f g, .int .i64 i, .int .i64 j] w fun x w' => x = .returned (winV k r a b c d f g i j) ∧ Below w.heap.size w w' := by
  by_cases ho : okWin k r a b c d f g i j = true
  case neg =>
    have HE : Hid (winV k r a b c d f g i j = vBucket 0 0 0 0) := by unfold Hid winV; rw [if_neg ho]
    have hcases : validF k r = false ∨ (validF k r = true ∧ validCam a b c d f g = false) ∨ (validF k r = true ∧ validCam a b c d f g = true ∧ inB i 0 (a - 1) = false ∧ (1 ≤ a ∧ a ≤ 12) ∧ (1 ≤ b ∧ b ≤ 12)) ∨ (validF k r = true ∧ validCam a b c d f g = true ∧ inB i 0 (a - 1) = true ∧ inB j 0 (b - 1) = false ∧ (1 ≤ a ∧ a ≤ 12) ∧ (1 ≤ b ∧ b ≤ 12)) := by
      rcases okWin_false ho with h1 | ⟨h1, h2⟩ | ⟨h1, h2, h3⟩
      · exact .inl h1
      · exact .inr (.inl ⟨h1, h2⟩)
      · have q := validCam_true h2
        rcases inImg_cases h3 with h4 | ⟨h4, h5⟩
        · exact .inr (.inr (.inl ⟨h1, h2, h4, q.1, q.2.1⟩))
        · exact .inr (.inr (.inr ⟨h1, h2, h4, h5, q.1, q.2.1⟩))
    clear ho
    rcases hcases with h1 | ⟨h1, h2⟩ | ⟨h1, h2, h3, ⟨a1, a2⟩, b1, b2⟩ | ⟨h1, h2, h3, h4, ⟨a1, a2⟩, b1, b2⟩
    all_goals
      go_enter Try.func34, Try.ntmps34
      go_wp2_with (first | (go_at_call 17; refine (S_IsValidFilter _ _ _).mono ?_; rintro e w' ⟨rfl, hb⟩; have hz := hb.size; (try simp at hz); have c0 := fun o => hb.cell (p := ⟨w.heap.size, o, none⟩) (by first | omega | (simp <;> omega)); have f0 := fun o => hb.frozen (p := ⟨w.heap.size, o, none⟩) (by first | omega | (simp <;> omega)); have z0 : w.heap.size < w'.heap.size := (by omega); have c1 := fun o => hb.cell (p := ⟨w.heap.size + 1, o, none⟩) (by first | omega | (simp <;> omega)); have f1 := fun o => hb.frozen (p := ⟨w.heap.size + 1, o, none⟩) (by first | omega | (simp <;> omega)); have z1 : w.heap.size + 1 < w'.heap.size := (by omega); have c2 := fun o => hb.cell (p := ⟨w.heap.size + 1 + 1, o, none⟩) (by first | omega | (simp <;> omega)); have f2 := fun o => hb.frozen (p := ⟨w.heap.size + 1 + 1, o, none⟩) (by first | omega | (simp <;> omega)); have z2 : w.heap.size + 1 + 1 < w'.heap.size := (by omega)) | (go_at_call 67; refine (S_IsValidCamera _).mono ?_; rintro e w' ⟨rfl, hb⟩; have hz := hb.size; (try simp at hz); have c0 := fun o => hb.cell (p := ⟨w.heap.size, o, none⟩) (by first | omega | (simp <;> omega)); have f0 := fun o => hb.frozen (p := ⟨w.heap.size, o, none⟩) (by first | omega | (simp <;> omega)); have z0 : w.heap.size < w'.heap.size := (by omega); have c1 := fun o => hb.cell (p := ⟨w.heap.size + 1, o, none⟩) (by first | omega | (simp <;> omega)); have f1 := fun o => hb.frozen (p := ⟨w.heap.size + 1, o, none⟩) (by first | omega | (simp <;> omega)); have z1 : w.heap.size + 1 < w'.heap.size := (by omega); have c2 := fun o => hb.cell (p := ⟨w.heap.size + 1 + 1, o, none⟩) (by first | omega | (simp <;> omega)); have f2 := fun o => hb.frozen (p := ⟨w.heap.size + 1 + 1, o, none⟩) (by first | omega | (simp <;> omega)); have z2 : w.heap.size + 1 + 1 < w'.heap.size := (by omega)) | (go_at_call 56; refine (S_in _ _ _ _).mono ?_; rintro e w' ⟨rfl, rfl⟩))
      rw [HE.out]
      exact bodyPost_ret (v := vBucket 0 0 0 0) (by simp [results, Try.results34, go_sem, *]) rfl ⟨rfl, (by repeat (first | (with_reducible exact Below.refl _ _) | (with_reducible assumption) | ((with_reducible refine Below.alloc ?_ ?_ _); rotate_left; (first | omega | (simp <;> omega))) | ((with_reducible refine Below.setCell ?_ ?_ _); rotate_left; (first | omega | (simp <;> omega))) | (with_reducible refine below_drewN ?_ _) | (with_reducible refine Below.drew ?_) | ((with_reducible refine Below.step (by assumption) ?_ ?_); rotate_left; (first | omega | (simp <;> omega)))))⟩
  case pos =>
    have HE : Hid (winV k r a b c d f g i j = vBucket (winX i r) (winX j r) (winW a i r) (winW b j r)) := by unfold Hid winV; rw [if_pos ho]
    obtain ⟨h1, h2, h3, ⟨r1, r2⟩, ⟨a1, a2⟩, ⟨b1, b2⟩, ⟨i1, i2⟩, j1, j2⟩ := okWin_true ho
    have h4 : inB i 0 (a - 1) = true := inB_mk i1 i2
    have h5 : inB j 0 (b - 1) = true := inB_mk j1 j2
    clear ho h3
    go_enter Try.func34, Try.ntmps34
    go_wp2_with (first | (go_at_call 17; refine (S_IsValidFilter _ _ _).mono ?_; rintro e w' ⟨rfl, hb⟩; have hz := hb.size; (try simp at hz); have c0 := fun o => hb.cell (p := ⟨w.heap.size, o, none⟩) (by first | omega | (simp <;> omega)); have f0 := fun o => hb.frozen (p := ⟨w.heap.size, o, none⟩) (by first | omega | (simp <;> omega)); have z0 : w.heap.size < w'.heap.size := (by omega); have c1 := fun o => hb.cell (p := ⟨w.heap.size + 1, o, none⟩) (by first | omega | (simp <;> omega)); have f1 := fun o => hb.frozen (p := ⟨w.heap.size + 1, o, none⟩) (by first | omega | (simp <;> omega)); have z1 : w.heap.size + 1 < w'.heap.size := (by omega); have c2 := fun o => hb.cell (p := ⟨w.heap.size + 1 + 1, o, none⟩) (by first | omega | (simp <;> omega)); have f2 := fun o => hb.frozen (p := ⟨w.heap.size + 1 + 1, o, none⟩) (by first | omega | (simp <;> omega)); have z2 : w.heap.size + 1 + 1 < w'.heap.size := (by omega)) | (go_at_call 67; refine (S_IsValidCamera _).mono ?_; rintro e w' ⟨rfl, hb⟩; have hz := hb.size; (try simp at hz); have c0 := fun o => hb.cell (p := ⟨w.heap.size, o, none⟩) (by first | omega | (simp <;> omega)); have f0 := fun o => hb.frozen (p := ⟨w.heap.size, o, none⟩) (by first | omega | (simp <;> omega)); have z0 : w.heap.size < w'.heap.size := (by omega); have c1 := fun o => hb.cell (p := ⟨w.heap.size + 1, o, none⟩) (by first | omega | (simp <;> omega)); have f1 := fun o => hb.frozen (p := ⟨w.heap.size + 1, o, none⟩) (by first | omega | (simp <;> omega)); have z1 : w.heap.size + 1 < w'.heap.size := (by omega); have c2 := fun o => hb.cell (p := ⟨w.heap.size + 1 + 1, o, none⟩) (by first | omega | (simp <;> omega)); have f2 := fun o => hb.frozen (p := ⟨w.heap.size + 1 + 1, o, none⟩) (by first | omega | (simp <;> omega)); have z2 : w.heap.size + 1 + 1 < w'.heap.size := (by omega)) | (go_at_call 56; refine (S_in _ _ _ _).mono ?_; rintro e w' ⟨rfl, rfl⟩) | (go_at_call 68; refine (S_max _ _ _).mono ?_; rintro e w' ⟨rfl, rfl⟩))
    have y1 : IntKind.i64.wrap (a - 1) = a - 1 := IntWalk.i64_in _ (by omega)
    have y2 : IntKind.i64.wrap (b - 1) = b - 1 := IntWalk.i64_in _ (by omega)
    have y3 : IntKind.i64.wrap (i + r) = i + r := IntWalk.i64_in _ (by omega)
    have y4 : IntKind.i64.wrap (j + r) = j + r := IntWalk.i64_in _ (by omega)
    have y5 : IntKind.i64.wrap (i + r - 1) = i + r - 1 := IntWalk.i64_in _ (by omega)
    have y6 : IntKind.i64.wrap (j + r - 1) = j + r - 1 := IntWalk.i64_in _ (by omega)
    have y7 : IntKind.i64.wrap (min (a - 1) (i + r - 1) - max 0 (i - r + 1)) = min (a - 1) (i + r - 1) - max 0 (i - r + 1) := IntWalk.i64_in _ (by omega)
    have y8 : IntKind.i64.wrap (min (b - 1) (j + r - 1) - max 0 (j - r + 1)) = min (b - 1) (j + r - 1) - max 0 (j - r + 1) := IntWalk.i64_in _ (by omega)
    have y9 : IntKind.i64.wrap (min (a - 1) (i + r - 1) - max 0 (i - r + 1) + 1) = min (a - 1) (i + r - 1) - max 0 (i - r + 1) + 1 := IntWalk.i64_in _ (by omega)
    have y10 : IntKind.i64.wrap (min (b - 1) (j + r - 1) - max 0 (j - r + 1) + 1) = min (b - 1) (j + r - 1) - max 0 (j - r + 1) + 1 := IntWalk.i64_in _ (by omega)
    have hne : ¬ w.heap.size = w.heap.size + 1 + 1 := by omega
    have hne' : ¬ w.heap.size + 1 + 1 = w.heap.size := by omega
    go_region_held3 (fun w' => w'.cell? ⟨w.heap.size, 1, none⟩ = some (.int .i64 r) ∧ w'.cell? ⟨w.heap.size + 1, 0, none⟩ = some (.int .i64 a) ∧ w'.cell? ⟨w.heap.size + 1, 1, none⟩ = some (.int .i64 b))
      (first | go_keep | (dsimp only; refine ⟨?_, ?_, ?_⟩ <;> go_simp))
      (first | (go_at_call 69; refine (S_min _ _ _).mono ?_; rintro e w' ⟨rfl, rfl⟩))
    clear y1 y2 y3 y4 y5 y6 y7 y8 y9 y10
    go_wp2
    rw [HE.out]
    exact bodyPost_ret (v := vBucket (winX i r) (winX j r) (winW a i r) (winW b j r)) (by simp [results, Try.results34, go_sem, winX, winW, *]) rfl ⟨rfl, (by repeat (first | (with_reducible exact Below.refl _ _) | (with_reducible assumption) | ((with_reducible refine Below.alloc ?_ ?_ _); rotate_left; (first | omega | (simp <;> omega))) | ((with_reducible refine Below.setCell ?_ ?_ _); rotate_left; (first | omega | (simp <;> omega))) | (with_reducible refine below_drewN ?_ _) | (with_reducible refine Below.drew ?_) | ((with_reducible refine Below.step (by assumption) ?_ ?_); rotate_left; (first | omega | (simp <;> omega)))))⟩
end Go.Proofs.Ytckhdnigbddnkaa
