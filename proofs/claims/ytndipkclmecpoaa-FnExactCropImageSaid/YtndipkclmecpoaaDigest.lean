/- ImageDigest of the reference and of the program. -/
import Derived.Test.YtndipkclmecpoaaImageV
import Derived.Test.YtndipkclmecpoaaDivs
import Derived.Test.YtndipkclmecpoaaApp
namespace Go.Proofs.Ytndipkclmecpoaa
open Go.RowKit
set_option linter.unusedVariables false
def digF (W H : Int) (l : List Int) : Int := if validImg W H l then hashF (W :: H :: l) else -1
theorem validImg_len {W H : Int} {l : List Int} (h : validImg W H l = true) : (1 ≤ W ∧ W ≤ 12) ∧ (1 ≤ H ∧ H ≤ 12) ∧ (l.length : Int) = W * H ∧ l.length ≤ 144 ∧ allIn l 0 256 = true := by
  unfold validImg at h
  simp only [Bool.and_eq_true, decide_eq_true_eq] at h
  obtain ⟨h1, h2, h3⟩ := h
  obtain ⟨a, b⟩ := sizeB_true h1
  have := area_rng h1
  exact ⟨a, b, h2, by omega, h3⟩
set_option maxHeartbeats 1000000 in
theorem S_ImageDigest {W H : Int} {A : Option Addr} {c : Nat} {l : List Int} (w : World) (h : RS w 1 A l.length c (ints l)) :
    Calls Try.prog 44 #[vImage W H (.slice A l.length c)] w fun e w' => e = .returned (.int .i64 (digF W H l)) ∧ Below w.heap.size w w' := by
  have H0 := Lib.hid h
  clear h
  by_cases hv : validImg W H l = true
  · have HE := Lib.hid (show digF W H l = hashF (W :: H :: l) by unfold digF; rw [if_pos hv])
    have HL := Lib.hid (validImg_len hv).2.2.2.1
    go_enter Try.func44, Try.ntmps44
    go_wp2_with fail
    refine (S_IsValidImage _ (RS.alloc H0.out _)).mono ?_
    rintro e w' ⟨rfl, hb⟩; have hz := hb.size; (try simp at hz); have c0 := fun o => hb.cell (p := ⟨w.heap.size, o, none⟩) (by first | omega | (simp <;> omega)); have f0 := fun o => hb.frozen (p := ⟨w.heap.size, o, none⟩) (by first | omega | (simp <;> omega)); have z0 : w.heap.size < w'.heap.size := (by omega)
    have H1 := Lib.hid (RS.step hb (RS.alloc H0.out _))
    have HB := Lib.hid hb
    clear hb
    go_wp2_with (at_builtin; refine wpList_app (by rfl) _ _ 22 (by rfl) w'.heap.size 3 (.int .i64 0) 1 8 Try.underlying22 T.infoInt rfl (by decide) (xs := ints [W, H]) (ys := ints l) (by rfl) (Grow.lit _ _ 2 rfl (Nat.le_refl _) (by unfold maxLen; omega)) (by rfl) (RS.alloc H1.out _) (ints_one _) (by have := HL.out; unfold maxLen; omega) (by have := HL.out; omega) (by simp) ?_; rintro A' c' w2 ⟨g1, g2, g3, g4, g5⟩; have hB2 : Hid (Below w.heap.size w w2) := ((Below.alloc (Below.alloc (Below.refl _ _) (Nat.le_refl _) _ |>.trans (HB.out.mono (by simp))) (by omega) _).trans (g2.mono (by omega))); have hR := Lib.hid (Grow.rs g1); clear g1 g2 g3 g4 g5)
    refine (S_HashInts _ (l := W :: H :: l) (by simp; omega) hR.out).mono ?_
    rintro e w' ⟨rfl, rfl⟩
    go_wp2
    go_ret
    exact ⟨ret_int HE.out.symm, hB2.out⟩
  · have hv' : validImg W H l = false := by simpa using hv
    have HE := Lib.hid (show digF W H l = -1 by unfold digF; rw [if_neg hv])
    clear hv
    go_enter Try.func44, Try.ntmps44
    go_wp2_with fail
    refine (S_IsValidImage _ (RS.alloc H0.out _)).mono ?_
    rintro e w' ⟨rfl, hb⟩; have hz := hb.size; (try simp at hz); have c0 := fun o => hb.cell (p := ⟨w.heap.size, o, none⟩) (by first | omega | (simp <;> omega)); have f0 := fun o => hb.frozen (p := ⟨w.heap.size, o, none⟩) (by first | omega | (simp <;> omega)); have z0 : w.heap.size < w'.heap.size := (by omega)
    go_wp2
    go_ret
    exact ⟨ret_int HE.out.symm, (by repeat (first | (with_reducible exact Below.refl _ _) | (with_reducible assumption) | ((with_reducible refine Below.alloc ?_ ?_ _); rotate_left; (first | omega | (simp <;> omega))) | ((with_reducible refine Below.setCell ?_ ?_ _); rotate_left; (first | omega | (simp <;> omega))) | (with_reducible refine below_drewN ?_ _) | (with_reducible refine Below.drew ?_) | ((with_reducible refine Below.step (by assumption) ?_ ?_); rotate_left; (first | omega | (simp <;> omega)))))⟩
set_option maxHeartbeats 1000000 in
theorem I_ImageDigest {W H : Int} {A : Option Addr} {c : Nat} {l : List Int} (w : World) (h : RS w 1 A l.length c (ints l)) :
    Calls Try.prog 45 #[vImage W H (.slice A l.length c)] w fun e w' => e = .returned (.int .i64 (digF W H l)) ∧ Below w.heap.size w w' := by
  have H0 := Lib.hid h
  clear h
  by_cases hv : validImg W H l = true
  · have HE := Lib.hid (show digF W H l = hashF (W :: H :: l) by unfold digF; rw [if_pos hv])
    have HL := Lib.hid (validImg_len hv).2.2.2.1
    go_enter Try.func45, Try.ntmps45
    go_wp2_with fail
    refine (I_IsValidImage _ (RS.alloc H0.out _)).mono ?_
    rintro e w' ⟨rfl, hb⟩; have hz := hb.size; (try simp at hz); have c0 := fun o => hb.cell (p := ⟨w.heap.size, o, none⟩) (by first | omega | (simp <;> omega)); have f0 := fun o => hb.frozen (p := ⟨w.heap.size, o, none⟩) (by first | omega | (simp <;> omega)); have z0 : w.heap.size < w'.heap.size := (by omega)
    have H1 := Lib.hid (RS.step hb (RS.alloc H0.out _))
    have HB := Lib.hid hb
    clear hb
    go_wp2_with (at_builtin; refine wpList_app (by rfl) _ _ 22 (by rfl) w'.heap.size 3 (.int .i64 0) 1 8 Try.underlying22 T.infoInt rfl (by decide) (xs := ints [W, H]) (ys := ints l) (by rfl) (Grow.lit _ _ 2 rfl (Nat.le_refl _) (by unfold maxLen; omega)) (by rfl) (RS.alloc H1.out _) (ints_one _) (by have := HL.out; unfold maxLen; omega) (by have := HL.out; omega) (by simp) ?_; rintro A' c' w2 ⟨g1, g2, g3, g4, g5⟩; have hB2 : Hid (Below w.heap.size w w2) := ((Below.alloc (Below.alloc (Below.refl _ _) (Nat.le_refl _) _ |>.trans (HB.out.mono (by simp))) (by omega) _).trans (g2.mono (by omega))); have hR := Lib.hid (Grow.rs g1); clear g1 g2 g3 g4 g5)
    refine (I_HashInts _ (l := W :: H :: l) (by simp; omega) hR.out).mono ?_
    rintro e w' ⟨rfl, rfl⟩
    go_wp2
    go_ret
    exact ⟨ret_int HE.out.symm, hB2.out⟩
  · have hv' : validImg W H l = false := by simpa using hv
    have HE := Lib.hid (show digF W H l = -1 by unfold digF; rw [if_neg hv])
    clear hv
    go_enter Try.func45, Try.ntmps45
    go_wp2_with fail
    refine (I_IsValidImage _ (RS.alloc H0.out _)).mono ?_
    rintro e w' ⟨rfl, hb⟩; have hz := hb.size; (try simp at hz); have c0 := fun o => hb.cell (p := ⟨w.heap.size, o, none⟩) (by first | omega | (simp <;> omega)); have f0 := fun o => hb.frozen (p := ⟨w.heap.size, o, none⟩) (by first | omega | (simp <;> omega)); have z0 : w.heap.size < w'.heap.size := (by omega)
    go_wp2
    go_ret
    exact ⟨ret_int HE.out.symm, (by repeat (first | (with_reducible exact Below.refl _ _) | (with_reducible assumption) | ((with_reducible refine Below.alloc ?_ ?_ _); rotate_left; (first | omega | (simp <;> omega))) | ((with_reducible refine Below.setCell ?_ ?_ _); rotate_left; (first | omega | (simp <;> omega))) | (with_reducible refine below_drewN ?_ _) | (with_reducible refine Below.drew ?_) | ((with_reducible refine Below.step (by assumption) ?_ ?_); rotate_left; (first | omega | (simp <;> omega)))))⟩
end Go.Proofs.Ytndipkclmecpoaa
