/- MADE BY PROGRAM (gendeep.py). DeepOf of the reference. -/
import Derived.Test.YtaeajeclbcodeaaFragS
import Derived.Test.YtaeajeclbcodeaaMerge
namespace Go.Proofs.Ytaeajeclbcodeaa
open Go.RowKit
set_option linter.unusedVariables false
set_option maxRecDepth 100000
set_option maxHeartbeats 1000000 in
theorem S_cut_no {A : Option Addr} {n c : Nat} (w : World) (hn : n ≤ 64) : Calls Try.prog 35 #[.slice A n c] w fun e w' => e = .returned (.slice A n c) ∧ w = w' := by
  have h1 : ¬ (64 : Int) < (n : Int) := by omega
  go_enter Try.func35, Try.ntmps35
  go_wp2
  go_ret
  exact ⟨rfl, rfl⟩
set_option maxHeartbeats 2000000 in
theorem S_cut_yes {b o c : Nat} {l : List EDeepStep} (w : World) (hn : 64 < l.length) (h : RS w 2 (some ⟨b, o, none⟩) l.length c (rDeepStep l)) :
    Calls Try.prog 35 #[.slice (some ⟨b, o, none⟩) l.length c] w (MadeRow 61 2 (l.take 64).length (rDeepStep (l.take 64)) w) := by
  have h1 : (64 : Int) < (l.length : Int) := by omega
  have hlc := h.open_.1
  have hcm := h.open_.2.1
  unfold maxLen at hcm
  have HR : Hid (∀ wx, Below w.heap.size w wx → RS wx 2 (some ⟨b, o, none⟩) 64 c (rDeepStep (l.take 64))) := fun wx hx => by
    have := RS.part (RS.step hx h) rfl 0 64 c (Nat.zero_le _) (by omega) (by omega) (by unfold maxLen; omega)
    rw [rDeepStep_take]
    simpa using this
  have HL : Hid ((l.take 64).length = 64) := by show _ = _; rw [List.length_take]; omega
  have hc2 : (64 : Int) ≤ (c : Int) := by omega
  clear h
  go_enter Try.func35, Try.ntmps35
  go_wp2_with (at_builtin; refine wpList_app (by rfl) _ _ 37 (by rfl) (w.heap.size) 61 (.agg #[.int .i64 0, .int .i64 0]) 2 16 Try.underlying37 T.infoDeepStep rfl (by decide) (xs := []) (by rfl) ?_ (ys := rDeepStep (l.take 64)) (by rfl) ?_ (rDeepStep_one _) ?_ ?_ ?_ ?_; (exact (by repeat (first | (with_reducible assumption) | (with_reducible refine Grow.drewN ?_ _) | (with_reducible refine Grow.drew ?_) | ((with_reducible refine Grow.app (by assumption) ?_ ?_); rotate_left; (intro x hx hy; simp [gOf] at hx hy; omega)) | ((refine Grow.lit_at ?_ (by rfl) ?_ (Nat.zero_le _)); (focus (simp; done)); (first | omega | (simp <;> omega))) | (with_reducible refine Grow.alloc ?_ _)))); (exact HR.out _ (by repeat (first | (with_reducible exact Below.refl _ _) | (with_reducible assumption) | ((with_reducible refine Below.alloc ?_ ?_ _); rotate_left; (first | omega | (simp <;> omega))) | ((with_reducible refine Below.setCell ?_ ?_ _); rotate_left; (first | omega | (simp <;> omega))) | (with_reducible refine below_drewN ?_ _) | (with_reducible refine Below.drew ?_) | ((with_reducible refine Below.step (by assumption) ?_ ?_); rotate_left; (first | omega | (simp <;> omega)))))); (unfold maxLen; omega); (omega); (first | omega | (simp <;> omega)); rintro A' c' w2 gA)
  go_ret
  have hq := Grow.made gA.1 (Nat.le_refl _) (Below.trans (by repeat (first | (with_reducible exact Below.refl _ _) | (with_reducible assumption) | ((with_reducible refine Below.alloc ?_ ?_ _); rotate_left; (first | omega | (simp <;> omega))) | ((with_reducible refine Below.setCell ?_ ?_ _); rotate_left; (first | omega | (simp <;> omega))) | (with_reducible refine below_drewN ?_ _) | (with_reducible refine Below.drew ?_) | ((with_reducible refine Below.step (by assumption) ?_ ?_); rotate_left; (first | omega | (simp <;> omega))))) gA.2.1)
  rw [Nat.zero_add, List.nil_append] at hq
  rw [HL.out]
  exact hq
end Go.Proofs.Ytaeajeclbcodeaa
