/- The program's FilterWeight; the law FnExactFilterWeight. -/
import Derived.Test.YthfnldjldfkmnaaFilterW
namespace Go.Proofs.Ythfnldjldfkmnaa
open Go.ChangeShapes Go.WideShapes Go.ChangeAt Go.RowKit
set_option linter.unusedVariables false
theorem two_rs (w : World) (x y : Int) : RS (w.alloc (.cells #[.int .i64 x, .int .i64 y] 3)) 1 (some ⟨w.heap.size, 0, none⟩) 2 2 (ints [x, y]) :=
  (Own.new w 3 #[.int .i64 x, .int .i64 y]).rs (n := 2) (by simp) (by omega)
def in2 (x y lo hi : Int) : Bool := inB x lo hi && inB y lo hi
theorem allIn_two (x y lo hi : Int) : allIn [x, y] lo hi = in2 x y lo hi := by simp [allIn, in2]
set_option maxHeartbeats 1000000 in
theorem I_two (g : Nat) (x y lo hi : Int) (w : World) (hg : g = w.heap.size) :
    Calls Try.prog 106 #[.slice (some ⟨g, 0, none⟩) 2 2, .int .i64 lo, .int .i64 hi] (w.alloc (.cells #[.int .i64 x, .int .i64 y] 3)) fun e w' => e = .returned (.bool (in2 x y lo hi)) ∧ w.alloc (.cells #[.int .i64 x, .int .i64 y] 3) = w' := by
  subst hg
  have := I_allWithin _ 2 [x, y] lo hi _ (two_rs w x y)
  rwa [allIn_two] at this
set_option maxHeartbeats 1000000 in
theorem I_FilterWeight (k r i j x y t a b : Int) (w : World) :
    Calls Try.prog 29 #[vFilter k r, .int .i64 i, .int .i64 j, vSample x y t a b] w fun e w' => e = .returned (.int .i64 (weightF k r i j x y)) ∧ Below w.heap.size w w' := by
  by_cases hv : validF k r = true
  case neg =>
    have hv' : validF k r = false := by simpa using hv
    have he : weightF k r i j x y = 0 := by
      unfold weightF
      split
      · next ho =>
        obtain ⟨⟨i1, i2⟩, ⟨j1, j2⟩, ⟨x1, x2⟩, y1, y2⟩ := okW_true ho
        have := (distF_rng x1 x2 i1 i2).1
        unfold wtF nearF extF
        rw [if_neg hv, if_neg (by simp; omega)]
      · rfl
    have HE := Lib.hid he
    clear he hv
    go_enter Try.func29, Try.ntmps29
    go_wp2_with (first | (go_at_call 101; refine (I_IsValidFilter _ _ _).mono ?_; rintro e w' ⟨rfl, hb⟩; have hz := hb.size; (try simp at hz); have c0 := fun o => hb.cell (p := ⟨w.heap.size, o, none⟩) (by first | omega | (simp <;> omega)); have f0 := fun o => hb.frozen (p := ⟨w.heap.size, o, none⟩) (by first | omega | (simp <;> omega)); have z0 : w.heap.size < w'.heap.size := (by omega); have c1 := fun o => hb.cell (p := ⟨w.heap.size + 1, o, none⟩) (by first | omega | (simp <;> omega)); have f1 := fun o => hb.frozen (p := ⟨w.heap.size + 1, o, none⟩) (by first | omega | (simp <;> omega)); have z1 : w.heap.size + 1 < w'.heap.size := (by omega)) | (go_at_call 106; refine (I_two _ _ _ _ _ _ (by first | rfl | simp)).mono ?_; rintro e w' ⟨rfl, rfl⟩))
    go_ret
    exact ⟨ret_int HE.out.symm, (by repeat (first | (with_reducible exact Below.refl _ _) | (with_reducible assumption) | ((with_reducible refine Below.alloc ?_ ?_ _); rotate_left; (first | omega | (simp <;> omega))) | ((with_reducible refine Below.setCell ?_ ?_ _); rotate_left; (first | omega | (simp <;> omega))) | (with_reducible refine below_drewN ?_ _) | (with_reducible refine Below.drew ?_) | ((with_reducible refine Below.step (by assumption) ?_ ?_); rotate_left; (first | omega | (simp <;> omega)))))⟩
  case pos =>
    by_cases ho : okW i j x y = true
    case neg =>
      have he : weightF k r i j x y = 0 := by unfold weightF; rw [if_neg ho]
      have HE := Lib.hid he
      have ho' : in2 i j 0 11 = false ∨ (in2 i j 0 11 = true ∧ in2 x y 0 191 = false) := by
        simp [okW] at ho
        unfold in2
        cases h1 : inB i 0 11 <;> cases h2 : inB j 0 11 <;> cases h3 : inB x 0 191 <;> cases h4 : inB y 0 191 <;> simp_all
      clear he ho
      rcases ho' with h1 | ⟨h1, h2⟩
      all_goals
        go_enter Try.func29, Try.ntmps29
        go_wp2_with (first | (go_at_call 101; refine (I_IsValidFilter _ _ _).mono ?_; rintro e w' ⟨rfl, hb⟩; have hz := hb.size; (try simp at hz); have c0 := fun o => hb.cell (p := ⟨w.heap.size, o, none⟩) (by first | omega | (simp <;> omega)); have f0 := fun o => hb.frozen (p := ⟨w.heap.size, o, none⟩) (by first | omega | (simp <;> omega)); have z0 : w.heap.size < w'.heap.size := (by omega); have c1 := fun o => hb.cell (p := ⟨w.heap.size + 1, o, none⟩) (by first | omega | (simp <;> omega)); have f1 := fun o => hb.frozen (p := ⟨w.heap.size + 1, o, none⟩) (by first | omega | (simp <;> omega)); have z1 : w.heap.size + 1 < w'.heap.size := (by omega)) | (go_at_call 106; refine (I_two _ _ _ _ _ _ (by first | rfl | simp)).mono ?_; rintro e w' ⟨rfl, rfl⟩))
        go_ret
        exact ⟨ret_int HE.out.symm, (by repeat (first | (with_reducible exact Below.refl _ _) | (with_reducible assumption) | ((with_reducible refine Below.alloc ?_ ?_ _); rotate_left; (first | omega | (simp <;> omega))) | ((with_reducible refine Below.setCell ?_ ?_ _); rotate_left; (first | omega | (simp <;> omega))) | (with_reducible refine below_drewN ?_ _) | (with_reducible refine Below.drew ?_) | ((with_reducible refine Below.step (by assumption) ?_ ?_); rotate_left; (first | omega | (simp <;> omega)))))⟩
    case pos =>
      have h1 : in2 i j 0 11 = true := by unfold in2; simp [okW] at ho; simp [ho]
      have h2 : in2 x y 0 191 = true := by unfold in2; simp [okW] at ho; simp [ho]
      go_enter Try.func29, Try.ntmps29
      go_wp2_with (first | (go_at_call 101; refine (I_IsValidFilter _ _ _).mono ?_; rintro e w' ⟨rfl, hb⟩; have hz := hb.size; (try simp at hz); have c0 := fun o => hb.cell (p := ⟨w.heap.size, o, none⟩) (by first | omega | (simp <;> omega)); have f0 := fun o => hb.frozen (p := ⟨w.heap.size, o, none⟩) (by first | omega | (simp <;> omega)); have z0 : w.heap.size < w'.heap.size := (by omega); have c1 := fun o => hb.cell (p := ⟨w.heap.size + 1, o, none⟩) (by first | omega | (simp <;> omega)); have f1 := fun o => hb.frozen (p := ⟨w.heap.size + 1, o, none⟩) (by first | omega | (simp <;> omega)); have z1 : w.heap.size + 1 < w'.heap.size := (by omega)) | (go_at_call 106; refine (I_two _ _ _ _ _ _ (by first | rfl | simp)).mono ?_; rintro e w' ⟨rfl, rfl⟩) | (go_at_call 107; refine (I_weight _ _ _ _ _ _ _ _ _ hv ho _).mono ?_; rintro e w' ⟨rfl, hb⟩; have hz := hb.size; (try simp at hz); have c0 := fun o => hb.cell (p := ⟨w.heap.size, o, none⟩) (by first | omega | (simp <;> omega)); have f0 := fun o => hb.frozen (p := ⟨w.heap.size, o, none⟩) (by first | omega | (simp <;> omega)); have z0 : w.heap.size < w'.heap.size := (by omega); have c1 := fun o => hb.cell (p := ⟨w.heap.size + 1, o, none⟩) (by first | omega | (simp <;> omega)); have f1 := fun o => hb.frozen (p := ⟨w.heap.size + 1, o, none⟩) (by first | omega | (simp <;> omega)); have z1 : w.heap.size + 1 < w'.heap.size := (by omega)))
      go_ret
      exact ⟨rfl, (by repeat (first | (with_reducible exact Below.refl _ _) | (with_reducible assumption) | ((with_reducible refine Below.alloc ?_ ?_ _); rotate_left; (first | omega | (simp <;> omega))) | ((with_reducible refine Below.setCell ?_ ?_ _); rotate_left; (first | omega | (simp <;> omega))) | (with_reducible refine below_drewN ?_ _) | (with_reducible refine Below.drew ?_) | ((with_reducible refine Below.step (by assumption) ?_ ?_); rotate_left; (first | omega | (simp <;> omega)))))⟩
theorem Arg.sample {H : Type} {enc : TypeId × Value → H} {W : World} {v : Value} (h : Arg enc W 70 v) : ∃ x y t a b, v = vSample x y t a b := by
  obtain ⟨cs, rfl, hc⟩ := h.struct Try.underlying70
  have hl := (hc.struct_len Try.underlying70).trans (show Try.prog.cellsOf 70 = 5 by kernel_rfl)
  match cs, hl with
  | [c0, c1, c2, c3, c4], _ =>
    obtain ⟨x0, h0, _⟩ := (hc.fieldAt Try.underlying70 0 3 0 1 rfl T.cellInt).int Try.underlying3
    obtain ⟨x1, h1, _⟩ := (hc.fieldAt Try.underlying70 1 3 1 1 rfl T.cellInt).int Try.underlying3
    obtain ⟨x2, h2, _⟩ := (hc.fieldAt Try.underlying70 2 3 2 1 rfl T.cellInt).int Try.underlying3
    obtain ⟨x3, h3, _⟩ := (hc.fieldAt Try.underlying70 3 3 3 1 rfl T.cellInt).int Try.underlying3
    obtain ⟨x4, h4, _⟩ := (hc.fieldAt Try.underlying70 4 3 4 1 rfl T.cellInt).int Try.underlying3
    obtain rfl : c0 = _ := List.head_eq_of_cons_eq h0
    obtain rfl : c1 = _ := List.head_eq_of_cons_eq h1
    obtain rfl : c2 = _ := List.head_eq_of_cons_eq h2
    obtain rfl : c3 = _ := List.head_eq_of_cons_eq h3
    obtain rfl : c4 = _ := List.head_eq_of_cons_eq h4
    exact ⟨x0, x1, x2, x3, x4, rfl⟩
end Go.Proofs.Ythfnldjldfkmnaa
