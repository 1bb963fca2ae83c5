/- slices.Clone on ints and bools; the copies of accumulation buffers, films and images. -/
import Derived.Test.YthpanpedoeghoaaMade
import Derived.Test.YthpanpedoeghoaaBools
import Derived.WalkSpells
import Derived.Deep.RegionHeld3
set_option linter.unusedVariables false
set_option linter.unusedSimpArgs false
set_option linter.unnecessarySimpa false
namespace Go.Proofs.Ythpanpedoeghoaa
open Go.RowKit
set_option linter.unusedVariables false
set_option maxRecDepth 20000
set_option maxHeartbeats 1000000 in
theorem G_CloneInt {A : Option Addr} {c : Nat} {l : List Int} (w : World) (hs : l.length ≤ 1048576) (h : RS w 1 A l.length c (ints l)) :
    Calls Try.prog 33 #[.slice A l.length c] w (MadeRow 3 1 l.length (ints l) w) := by
  have H0 := Lib.hid h
  have heq := fun (wx : World) => Lib.run_eql_slice_nil (P := Try.prog) wx 29 3 A l.length c 0 0 Try.underlying29
  rcases A with _ | a
  · have h0 : l.length = 0 := by
      rcases Nat.eq_zero_or_pos l.length with h0 | h0
      · exact h0
      · obtain ⟨b, o, hA, _⟩ := h.open_.2.2 h0; cases hA
    obtain rfl : l = [] := List.eq_nil_of_length_eq_zero h0
    clear h h0
    simp only [List.length_nil, Option.isNone_none] at heq
    go_enter Try.func33, Try.ntmps33
    go_wp2
    go_ret
    exact MadeRow.none_ _ _ _ (by repeat (first | (with_reducible exact Below.refl _ _) | (with_reducible assumption) | ((with_reducible refine Below.alloc ?_ ?_ _); rotate_left; (first | omega | (simp <;> omega))) | ((with_reducible refine Below.setCell ?_ ?_ _); rotate_left; (first | omega | (simp <;> omega))) | (with_reducible refine below_drewN ?_ _) | (with_reducible refine Below.drew ?_) | ((with_reducible refine Below.step (by assumption) ?_ ?_); rotate_left; (first | omega | (simp <;> omega)))))
  · clear h
    have HR := Lib.hid (RS.alloc H0.out (.cells #[] 3))
    have HG : Hid (Grow (w.alloc (.cells #[] 3)) w.heap.size 3 1 (some ⟨w.heap.size, 0, none⟩) 0 0 []) := Grow.lit w #[] 0 rfl (Nat.le_refl _) (Nat.zero_le _)
    go_enter Try.func33, Try.ntmps33
    go_wp2_with (at_builtin; refine wpList_app (by rfl) _ _ 29 (by rfl) (w.heap.size) 3 (.int .i64 0) 1 8 Try.underlying29 T.infoInt rfl (by decide) (xs := []) (by rfl) ?_ (ys := ints l) (by rfl) ?_ (ints_one _) ?_ ?_ ?_ ?_; (exact (by repeat (first | (with_reducible exact HG.out) | (with_reducible refine Grow.alloc ?_ _) | (with_reducible refine Grow.drewN ?_ _) | (with_reducible refine Grow.drew ?_) | ((with_reducible refine Grow.far ?_ ?_ _); rotate_left; (first | omega | (simp <;> omega))) | (with_reducible refine Grow.step (by assumption) ?_)))); (exact HR.out); (unfold maxLen; omega); (omega); (first | omega | (simp <;> omega)); rintro A' c' w2 gA; have HA := Lib.hid gA; clear gA)
    go_ret
    have g := HA.out
    have g1 := g.1
    simp only [List.nil_append, Nat.zero_add] at g1 ⊢
    exact Grow.made g1 (Nat.le_refl _) (Below.trans (by repeat (first | (with_reducible exact Below.refl _ _) | (with_reducible assumption) | ((with_reducible refine Below.alloc ?_ ?_ _); rotate_left; (first | omega | (simp <;> omega))) | ((with_reducible refine Below.setCell ?_ ?_ _); rotate_left; (first | omega | (simp <;> omega))) | (with_reducible refine below_drewN ?_ _) | (with_reducible refine Below.drew ?_) | ((with_reducible refine Below.step (by assumption) ?_ ?_); rotate_left; (first | omega | (simp <;> omega))))) g.2.1)
set_option maxHeartbeats 1000000 in
theorem G_CloneBool {A : Option Addr} {c : Nat} {l : List Bool} (w : World) (hs : l.length ≤ 1048576) (h : RS w 1 A l.length c (bools l)) :
    Calls Try.prog 34 #[.slice A l.length c] w (MadeRow 4 1 l.length (bools l) w) := by
  have H0 := Lib.hid h
  have heq := fun (wx : World) => Lib.run_eql_slice_nil (P := Try.prog) wx 30 4 A l.length c 0 0 Try.underlying30
  rcases A with _ | a
  · have h0 : l.length = 0 := by
      rcases Nat.eq_zero_or_pos l.length with h0 | h0
      · exact h0
      · obtain ⟨b, o, hA, _⟩ := h.open_.2.2 h0; cases hA
    obtain rfl : l = [] := List.eq_nil_of_length_eq_zero h0
    clear h h0
    simp only [List.length_nil, Option.isNone_none] at heq
    go_enter Try.func34, Try.ntmps34
    go_wp2
    go_ret
    exact MadeRow.none_ _ _ _ (by repeat (first | (with_reducible exact Below.refl _ _) | (with_reducible assumption) | ((with_reducible refine Below.alloc ?_ ?_ _); rotate_left; (first | omega | (simp <;> omega))) | ((with_reducible refine Below.setCell ?_ ?_ _); rotate_left; (first | omega | (simp <;> omega))) | (with_reducible refine below_drewN ?_ _) | (with_reducible refine Below.drew ?_) | ((with_reducible refine Below.step (by assumption) ?_ ?_); rotate_left; (first | omega | (simp <;> omega)))))
  · clear h
    have HR := Lib.hid (RS.alloc H0.out (.cells #[] 4))
    have HG : Hid (Grow (w.alloc (.cells #[] 4)) w.heap.size 4 1 (some ⟨w.heap.size, 0, none⟩) 0 0 []) := Grow.lit w #[] 0 rfl (Nat.le_refl _) (Nat.zero_le _)
    go_enter Try.func34, Try.ntmps34
    go_wp2_with (at_builtin; refine wpList_app (by rfl) _ _ 30 (by rfl) (w.heap.size) 4 (.bool false) 1 1 Try.underlying30 T.infoBool rfl (by decide) (xs := []) (by rfl) ?_ (ys := bools l) (by rfl) ?_ (bools_one _) ?_ ?_ ?_ ?_; (exact (by repeat (first | (with_reducible exact HG.out) | (with_reducible refine Grow.alloc ?_ _) | (with_reducible refine Grow.drewN ?_ _) | (with_reducible refine Grow.drew ?_) | ((with_reducible refine Grow.far ?_ ?_ _); rotate_left; (first | omega | (simp <;> omega))) | (with_reducible refine Grow.step (by assumption) ?_)))); (exact HR.out); (unfold maxLen; omega); (omega); (first | omega | (simp <;> omega)); rintro A' c' w2 gA; have HA := Lib.hid gA; clear gA)
    go_ret
    have g := HA.out
    have g1 := g.1
    simp only [List.nil_append, Nat.zero_add] at g1 ⊢
    exact Grow.made g1 (Nat.le_refl _) (Below.trans (by repeat (first | (with_reducible exact Below.refl _ _) | (with_reducible assumption) | ((with_reducible refine Below.alloc ?_ ?_ _); rotate_left; (first | omega | (simp <;> omega))) | ((with_reducible refine Below.setCell ?_ ?_ _); rotate_left; (first | omega | (simp <;> omega))) | (with_reducible refine below_drewN ?_ _) | (with_reducible refine Below.drew ?_) | ((with_reducible refine Below.step (by assumption) ?_ ?_); rotate_left; (first | omega | (simp <;> omega))))) g.2.1)
end Go.Proofs.Ythpanpedoeghoaa
