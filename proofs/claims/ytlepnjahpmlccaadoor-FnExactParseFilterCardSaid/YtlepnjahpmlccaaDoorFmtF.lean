/- The law FnExactFormatFilter. -/
import Derived.Test.YtlepnjahpmlccaaDoorTxtF
import Derived.Test.YtlepnjahpmlccaaDoorFilterA
namespace Go.Proofs.YtlepnjahpmlccaaDoor
open Go.ChangeShapes Go.WideShapes Go.ChangeAt Go.RowKit Go.Lib
set_option linter.unusedVariables false
set_option maxRecDepth 100000
/-- The text of a filter. -/
def fmtF (k r : Int) : List UInt8 := if validF k r then (if k = 1 then [98, 111, 120, 32] else [116, 101, 110, 116, 32]) ++ fmtI r else []
theorem fmtF_len (k r : Int) : (fmtF k r).length ≤ 16 := by
  unfold fmtF
  have := fmtI_len r
  split
  · split <;> simp <;> omega
  · simp
set_option maxHeartbeats 4000000 in
theorem S_FormatFilter (k r : Int) (w : World) :
    Calls Tryd.prog 8 #[vFilter k r] w fun e w' => e = .returned (str (fmtF k r)) ∧ Below w.heap.size w w' := by
  by_cases hv : validF k r = true
  · have hr := validF_rng hv
    obtain ⟨r1, r2, r3, r4⟩ := hr
    have hsl : ¬ 9223372036854775807 < 4 + (fmtI r).length := by have := fmtI_len r; omega
    have hsl' : ¬ 9223372036854775807 < 5 + (fmtI r).length := by have := fmtI_len r; omega
    have hk : k = 1 ∨ k = 2 := by omega
    clear r1 r2 r3 r4
    rcases hk with rfl | rfl
    · have HF : Hid (fmtF 1 r = [98, 111, 120, 32] ++ fmtI r) := Lib.hid (by unfold fmtF; rw [if_pos hv, if_pos rfl])
      go_enter Tryd.func8, Tryd.ntmps8
      go_wp2_with (first | (go_at_call 27; refine (S_IsValidFilter _ _ _).mono ?_; rw [hv]; rintro e w' ⟨rfl, hb⟩; have hz := hb.size; (try simp at hz); have c0 := fun o => hb.cell (p := ⟨w.heap.size, o, none⟩) (by first | omega | (simp <;> omega)); have f0 := fun o => hb.frozen (p := ⟨w.heap.size, o, none⟩) (by first | omega | (simp <;> omega)); have z0 : w.heap.size < w'.heap.size := (by omega)) | fail)
      obtain ⟨wA, rfl⟩ : ∃ wA, wA = w' := ⟨_, rfl⟩
      have e0 : ¬ w.heap.size = wA.heap.size := by omega
      have e1 : ¬ wA.heap.size = w.heap.size := by omega
      go_region_with (first | (go_at_call 28; (with_reducible refine (S_FormatInt _ _).mono ?_); rintro e wB ⟨rfl, hbB⟩; have hzB := hbB.size; (try simp at hzB); (try (refine with_box hbB (w.heap.size) ?_ ?_; (first | omega | (simp <;> omega)); intro m0 mf0 mz0)); (try (refine with_box hbB (wA.heap.size) ?_ ?_; (first | omega | (simp <;> omega)); intro n0 nf0 nz0))) | fail)
      all_goals
        go_wp2_with fail
        go_ret
        refine ⟨?_, (by repeat (first | (with_reducible exact Below.refl _ _) | (with_reducible assumption) | ((with_reducible refine Below.alloc ?_ ?_ _); rotate_left; (first | omega | (simp <;> omega))) | ((with_reducible refine Below.setCell ?_ ?_ _); rotate_left; (first | omega | (simp <;> omega))) | (with_reducible refine below_drewN ?_ _) | (with_reducible refine Below.drew ?_) | ((with_reducible refine Below.step (by assumption) ?_ ?_); rotate_left; (first | omega | (simp <;> omega)))))⟩
        rw [HF.out]
        exact congrArg (fun s => Ending.returned (Value.string s)) (str_cat [98, 111, 120, 32] (fmtI r))
    · have HF : Hid (fmtF 2 r = [116, 101, 110, 116, 32] ++ fmtI r) := Lib.hid (by unfold fmtF; rw [if_pos hv, if_neg (by decide)])
      go_enter Tryd.func8, Tryd.ntmps8
      go_wp2_with (first | (go_at_call 27; refine (S_IsValidFilter _ _ _).mono ?_; rw [hv]; rintro e w' ⟨rfl, hb⟩; have hz := hb.size; (try simp at hz); have c0 := fun o => hb.cell (p := ⟨w.heap.size, o, none⟩) (by first | omega | (simp <;> omega)); have f0 := fun o => hb.frozen (p := ⟨w.heap.size, o, none⟩) (by first | omega | (simp <;> omega)); have z0 : w.heap.size < w'.heap.size := (by omega)) | fail)
      obtain ⟨wA, rfl⟩ : ∃ wA, wA = w' := ⟨_, rfl⟩
      have e0 : ¬ w.heap.size = wA.heap.size := by omega
      have e1 : ¬ wA.heap.size = w.heap.size := by omega
      go_region_with (first | (go_at_call 28; (with_reducible refine (S_FormatInt _ _).mono ?_); rintro e wB ⟨rfl, hbB⟩; have hzB := hbB.size; (try simp at hzB); (try (refine with_box hbB (w.heap.size) ?_ ?_; (first | omega | (simp <;> omega)); intro m0 mf0 mz0)); (try (refine with_box hbB (wA.heap.size) ?_ ?_; (first | omega | (simp <;> omega)); intro n0 nf0 nz0))) | fail)
      all_goals
        go_wp2_with fail
        go_ret
        refine ⟨?_, (by repeat (first | (with_reducible exact Below.refl _ _) | (with_reducible assumption) | ((with_reducible refine Below.alloc ?_ ?_ _); rotate_left; (first | omega | (simp <;> omega))) | ((with_reducible refine Below.setCell ?_ ?_ _); rotate_left; (first | omega | (simp <;> omega))) | (with_reducible refine below_drewN ?_ _) | (with_reducible refine Below.drew ?_) | ((with_reducible refine Below.step (by assumption) ?_ ?_); rotate_left; (first | omega | (simp <;> omega)))))⟩
        rw [HF.out]
        exact congrArg (fun s => Ending.returned (Value.string s)) (str_cat [116, 101, 110, 116, 32] (fmtI r))
  · have hv' : validF k r = false := by simpa using hv
    have HF : Hid (fmtF k r = []) := Lib.hid (by unfold fmtF; rw [hv']; rfl)
    clear hv
    go_enter Tryd.func8, Tryd.ntmps8
    go_wp2_with (first | (go_at_call 27; refine (S_IsValidFilter _ _ _).mono ?_; rw [hv']; rintro e w' ⟨rfl, hb⟩; have hz := hb.size; (try simp at hz); have c0 := fun o => hb.cell (p := ⟨w.heap.size, o, none⟩) (by first | omega | (simp <;> omega)); have f0 := fun o => hb.frozen (p := ⟨w.heap.size, o, none⟩) (by first | omega | (simp <;> omega)); have z0 : w.heap.size < w'.heap.size := (by omega)) | fail)
    go_ret
    exact ⟨by rw [HF.out]; rfl, (by repeat (first | (with_reducible exact Below.refl _ _) | (with_reducible assumption) | ((with_reducible refine Below.alloc ?_ ?_ _); rotate_left; (first | omega | (simp <;> omega))) | ((with_reducible refine Below.setCell ?_ ?_ _); rotate_left; (first | omega | (simp <;> omega))) | (with_reducible refine below_drewN ?_ _) | (with_reducible refine Below.drew ?_) | ((with_reducible refine Below.step (by assumption) ?_ ?_); rotate_left; (first | omega | (simp <;> omega)))))⟩
set_option maxHeartbeats 4000000 in
theorem I_FormatFilter (k r : Int) (w : World) (ht : Tab w) :
    Calls Tryd.prog 10 #[vFilter k r] w fun e w' => e = .returned (str (fmtF k r)) ∧ Below w.heap.size w w' := by
  have HT := Lib.hid ht
  clear ht
  by_cases hv : validF k r = true
  · have hr := validF_rng hv
    obtain ⟨r1, r2, r3, r4⟩ := hr
    have hsl : ¬ 9223372036854775807 < 4 + (fmtI r).length := by have := fmtI_len r; omega
    have hsl' : ¬ 9223372036854775807 < 5 + (fmtI r).length := by have := fmtI_len r; omega
    have hk : k = 1 ∨ k = 2 := by omega
    clear r1 r2 r3 r4
    rcases hk with rfl | rfl
    · have HF : Hid (fmtF 1 r = [98, 111, 120, 32] ++ fmtI r) := Lib.hid (by unfold fmtF; rw [if_pos hv, if_pos rfl])
      go_enter Tryd.func10, Tryd.ntmps10
      go_wp2_with (first | (go_at_call 29; refine (I_IsValidFilter _ _ _).mono ?_; rw [hv]; rintro e w' ⟨rfl, hb⟩; have hz := hb.size; (try simp at hz); have c0 := fun o => hb.cell (p := ⟨w.heap.size, o, none⟩) (by first | omega | (simp <;> omega)); have f0 := fun o => hb.frozen (p := ⟨w.heap.size, o, none⟩) (by first | omega | (simp <;> omega)); have z0 : w.heap.size < w'.heap.size := (by omega)) | fail)
      obtain ⟨wA, rfl⟩ : ∃ wA, wA = w' := ⟨_, rfl⟩
      refine (I_FormatInt r _ (HT.out.step (by repeat (first | (with_reducible exact Below.refl _ _) | (with_reducible assumption) | ((with_reducible refine Below.alloc ?_ ?_ _); rotate_left; (first | omega | (simp <;> omega))) | ((with_reducible refine Below.setCell ?_ ?_ _); rotate_left; (first | omega | (simp <;> omega))) | (with_reducible refine below_drewN ?_ _) | (with_reducible refine Below.drew ?_) | ((with_reducible refine Below.step (by assumption) ?_ ?_); rotate_left; (first | omega | (simp <;> omega))))))).mono ?_
      rintro e w' ⟨rfl, hb2⟩
      go_wp2_with fail
      go_ret
      refine ⟨?_, (by repeat (first | (with_reducible exact Below.refl _ _) | (with_reducible assumption) | ((with_reducible refine Below.alloc ?_ ?_ _); rotate_left; (first | omega | (simp <;> omega))) | ((with_reducible refine Below.setCell ?_ ?_ _); rotate_left; (first | omega | (simp <;> omega))) | (with_reducible refine below_drewN ?_ _) | (with_reducible refine Below.drew ?_) | ((with_reducible refine Below.step (by assumption) ?_ ?_); rotate_left; (first | omega | (simp <;> omega)))))⟩
      rw [HF.out]
      exact congrArg (fun s => Ending.returned (Value.string s)) (str_cat [98, 111, 120, 32] (fmtI r))
    · have HF : Hid (fmtF 2 r = [116, 101, 110, 116, 32] ++ fmtI r) := Lib.hid (by unfold fmtF; rw [if_pos hv, if_neg (by decide)])
      go_enter Tryd.func10, Tryd.ntmps10
      go_wp2_with (first | (go_at_call 29; refine (I_IsValidFilter _ _ _).mono ?_; rw [hv]; rintro e w' ⟨rfl, hb⟩; have hz := hb.size; (try simp at hz); have c0 := fun o => hb.cell (p := ⟨w.heap.size, o, none⟩) (by first | omega | (simp <;> omega)); have f0 := fun o => hb.frozen (p := ⟨w.heap.size, o, none⟩) (by first | omega | (simp <;> omega)); have z0 : w.heap.size < w'.heap.size := (by omega)) | fail)
      obtain ⟨wA, rfl⟩ : ∃ wA, wA = w' := ⟨_, rfl⟩
      refine (I_FormatInt r _ (HT.out.step (by repeat (first | (with_reducible exact Below.refl _ _) | (with_reducible assumption) | ((with_reducible refine Below.alloc ?_ ?_ _); rotate_left; (first | omega | (simp <;> omega))) | ((with_reducible refine Below.setCell ?_ ?_ _); rotate_left; (first | omega | (simp <;> omega))) | (with_reducible refine below_drewN ?_ _) | (with_reducible refine Below.drew ?_) | ((with_reducible refine Below.step (by assumption) ?_ ?_); rotate_left; (first | omega | (simp <;> omega))))))).mono ?_
      rintro e w' ⟨rfl, hb2⟩
      go_wp2_with fail
      go_ret
      refine ⟨?_, (by repeat (first | (with_reducible exact Below.refl _ _) | (with_reducible assumption) | ((with_reducible refine Below.alloc ?_ ?_ _); rotate_left; (first | omega | (simp <;> omega))) | ((with_reducible refine Below.setCell ?_ ?_ _); rotate_left; (first | omega | (simp <;> omega))) | (with_reducible refine below_drewN ?_ _) | (with_reducible refine Below.drew ?_) | ((with_reducible refine Below.step (by assumption) ?_ ?_); rotate_left; (first | omega | (simp <;> omega)))))⟩
      rw [HF.out]
      exact congrArg (fun s => Ending.returned (Value.string s)) (str_cat [116, 101, 110, 116, 32] (fmtI r))
  · have hv' : validF k r = false := by simpa using hv
    have HF : Hid (fmtF k r = []) := Lib.hid (by unfold fmtF; rw [hv']; rfl)
    clear hv
    go_enter Tryd.func10, Tryd.ntmps10
    go_wp2_with (first | (go_at_call 29; refine (I_IsValidFilter _ _ _).mono ?_; rw [hv']; rintro e w' ⟨rfl, hb⟩; have hz := hb.size; (try simp at hz); have c0 := fun o => hb.cell (p := ⟨w.heap.size, o, none⟩) (by first | omega | (simp <;> omega)); have f0 := fun o => hb.frozen (p := ⟨w.heap.size, o, none⟩) (by first | omega | (simp <;> omega)); have z0 : w.heap.size < w'.heap.size := (by omega)) | fail)
    go_ret
    exact ⟨by rw [HF.out]; rfl, (by repeat (first | (with_reducible exact Below.refl _ _) | (with_reducible assumption) | ((with_reducible refine Below.alloc ?_ ?_ _); rotate_left; (first | omega | (simp <;> omega))) | ((with_reducible refine Below.setCell ?_ ?_ _); rotate_left; (first | omega | (simp <;> omega))) | (with_reducible refine below_drewN ?_ _) | (with_reducible refine Below.drew ?_) | ((with_reducible refine Below.step (by assumption) ?_ ?_); rotate_left; (first | omega | (simp <;> omega)))))⟩
set_option maxHeartbeats 4000000 in
theorem L_ExFormatFilter (k r : Int) (w : World) (ht : Tab w) :
    Calls Tryd.prog 3 #[vFilter k r] w fun e w' => e = .returned (.bool true) ∧ Below w.heap.size w w' := by
  have HT := Lib.hid ht
  clear ht
  go_enter Tryd.func3, Tryd.ntmps3
  go_wp2_with fail
  refine (L_toFilter _ _ _).mono ?_
  rintro e w' ⟨rfl, hb⟩; have hz := hb.size; (try simp at hz); have c0 := fun o => hb.cell (p := ⟨w.heap.size, o, none⟩) (by first | omega | (simp <;> omega)); have f0 := fun o => hb.frozen (p := ⟨w.heap.size, o, none⟩) (by first | omega | (simp <;> omega)); have z0 : w.heap.size < w'.heap.size := (by omega)
  obtain ⟨wA, rfl⟩ : ∃ wA, wA = w' := ⟨_, rfl⟩
  have bA : Below w.heap.size w wA := (by repeat (first | (with_reducible exact Below.refl _ _) | (with_reducible assumption) | ((with_reducible refine Below.alloc ?_ ?_ _); rotate_left; (first | omega | (simp <;> omega))) | ((with_reducible refine Below.setCell ?_ ?_ _); rotate_left; (first | omega | (simp <;> omega))) | (with_reducible refine below_drewN ?_ _) | (with_reducible refine Below.drew ?_) | ((with_reducible refine Below.step (by assumption) ?_ ?_); rotate_left; (first | omega | (simp <;> omega)))))
  go_wp2_with fail
  refine (S_FormatFilter _ _ _).mono ?_
  rintro e wB ⟨rfl, hbB⟩
  have bB : Below w.heap.size w wB := (by repeat (first | (with_reducible exact Below.refl _ _) | (with_reducible assumption) | ((with_reducible refine Below.alloc ?_ ?_ _); rotate_left; (first | omega | (simp <;> omega))) | ((with_reducible refine Below.setCell ?_ ?_ _); rotate_left; (first | omega | (simp <;> omega))) | (with_reducible refine below_drewN ?_ _) | (with_reducible refine Below.drew ?_) | ((with_reducible refine Below.step (by assumption) ?_ ?_); rotate_left; (first | omega | (simp <;> omega)))))
  have zB := hbB.size
  have d0 := fun o => hbB.cell (p := ⟨w.heap.size, o, none⟩) (by omega)
  go_wp2_with fail
  refine (L_toFilter _ _ _).mono ?_
  rintro e wC ⟨rfl, hbC⟩
  have bC : Below w.heap.size w wC := (by repeat (first | (with_reducible exact Below.refl _ _) | (with_reducible assumption) | ((with_reducible refine Below.alloc ?_ ?_ _); rotate_left; (first | omega | (simp <;> omega))) | ((with_reducible refine Below.setCell ?_ ?_ _); rotate_left; (first | omega | (simp <;> omega))) | (with_reducible refine below_drewN ?_ _) | (with_reducible refine Below.drew ?_) | ((with_reducible refine Below.step (by assumption) ?_ ?_); rotate_left; (first | omega | (simp <;> omega)))))
  have zC := hbC.size
  go_wp2_with fail
  refine (I_FormatFilter _ _ _ (HT.out.step (by repeat (first | (with_reducible exact Below.refl _ _) | (with_reducible assumption) | ((with_reducible refine Below.alloc ?_ ?_ _); rotate_left; (first | omega | (simp <;> omega))) | ((with_reducible refine Below.setCell ?_ ?_ _); rotate_left; (first | omega | (simp <;> omega))) | (with_reducible refine below_drewN ?_ _) | (with_reducible refine Below.drew ?_) | ((with_reducible refine Below.step (by assumption) ?_ ?_); rotate_left; (first | omega | (simp <;> omega))))))).mono ?_
  rintro e wD ⟨rfl, hbD⟩
  go_wp2_with fail
  go_ret
  exact ⟨rfl, (by repeat (first | (with_reducible exact Below.refl _ _) | (with_reducible assumption) | ((with_reducible refine Below.alloc ?_ ?_ _); rotate_left; (first | omega | (simp <;> omega))) | ((with_reducible refine Below.setCell ?_ ?_ _); rotate_left; (first | omega | (simp <;> omega))) | (with_reducible refine below_drewN ?_ _) | (with_reducible refine Below.drew ?_) | ((with_reducible refine Below.step (by assumption) ?_ ?_); rotate_left; (first | omega | (simp <;> omega)))))⟩
def fnExactFormatFilterLaid : List (String × DataW Unit) := [("math/bits.deBruijn32tab", Rows.laid_math_bits_deBruijn32tab), ("math/bits.deBruijn64tab", Rows.laid_math_bits_deBruijn64tab), ("internal/strconv.uint64pow10", Rows.laid_internal_strconv_uint64pow10)]
theorem FnExactFormatFilter_walk : LawWalkD fnExactFormatFilterLaid 3 [23] := by
  intro H enc W base args ds ps hA hval hlt hsz hL hsh
  obtain ⟨v0, rfl, h0⟩ := args1 hA hval
  obtain ⟨k, r, rfl, _, _⟩ := h0.filter
  exact L_ExFormatFilter k r W (tab_of_laid hL)
end Go.Proofs.YtlepnjahpmlccaaDoor
