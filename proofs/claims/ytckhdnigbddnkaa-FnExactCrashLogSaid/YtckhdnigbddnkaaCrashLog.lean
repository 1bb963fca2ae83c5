/- FnExactCrashLog: for every text and every number, the program's CrashLog returns what the reference's returns. -/
import Derived.Test.YtckhdnigbddnkaaLaw
import Derived.Test.YtckhdnigbddnkaaOpen
import Derived.Test.YtckhdnigbddnkaaPure
namespace Go.Proofs.Ytckhdnigbddnkaa
open Go.ChangeShapes Go.WideShapes Go.ChangeAt Go.RowKit
set_option linter.unusedVariables false
theorem clampF_rng (n : Int) (m : Nat) : 0 ≤ clampF n 0 m ∧ clampF n 0 m ≤ m := by unfold clampF; (repeat' split) <;> omega
def crashF (s : ByteArray) (k : Int) : ByteArray := s.extract 0 (clampF k 0 s.size).toNat
set_option maxHeartbeats 400000 in
theorem S_CrashLog (s : ByteArray) (k : Int) (hs : s.size ≤ maxLen) (w : World) :
    Calls Try.prog 15 #[.string s, .int .i64 k] w fun e w' => e = .returned (.string (crashF s k)) ∧ w = w' := by
  unfold maxLen at hs
  have hr := clampF_rng k s.size
  go_enter Try.func15, Try.ntmps15
  go_wp2_with (go_at_call 54; refine (S_Clamp _ _ _ _).mono ?_; rintro e w' ⟨rfl, rfl⟩)
  go_ret
  exact ⟨rfl, rfl⟩
set_option maxHeartbeats 400000 in
theorem I_CrashLog (s : ByteArray) (k : Int) (hs : s.size ≤ maxLen) (w : World) :
    Calls Try.prog 16 #[.string s, .int .i64 k] w fun e w' => e = .returned (.string (crashF s k)) ∧ w = w' := by
  unfold maxLen at hs
  have hr := clampF_rng k s.size
  go_enter Try.func16, Try.ntmps16
  go_wp2_with (go_at_call 55; refine (I_Clamp _ _ _ _).mono ?_; rintro e w' ⟨rfl, rfl⟩)
  go_ret
  exact ⟨rfl, rfl⟩
set_option maxHeartbeats 400000 in
theorem L_CrashLog (s : ByteArray) (k : Int) (hs : s.size ≤ maxLen) (w : World) :
    Calls Try.prog 3 #[.string s, .int .i64 k] w fun e w' => e = .returned (.bool true) ∧ Below w.heap.size w w' := by
  have hm := hs
  unfold maxLen at hs
  go_enter Try.func3, Try.ntmps3
  go_wp2_with (first | (go_at_call 15; refine (S_CrashLog _ _ (by assumption) _).mono ?_; rintro e w' ⟨rfl, rfl⟩) | (go_at_call 16; refine (I_CrashLog _ _ (by assumption) _).mono ?_; rintro e w' ⟨rfl, rfl⟩))
  all_goals
    go_ret
    exact ⟨rfl, Below.refl _ _⟩
theorem FnExactCrashLog_walk : LawWalk 3 [9, 3] := by
  intro H enc W base args ds ps hA hval hlt
  obtain ⟨v0, v1, rfl, h0, h1⟩ := args2 hA hval
  obtain ⟨s, rfl, hs⟩ := h0.string Try.underlying9
  obtain ⟨k, rfl, _⟩ := h1.int Try.underlying3
  exact L_CrashLog s k hs W
/-- THE STATEMENT. -/
theorem FnExactCrashLog_holds : Rows.FnExactCrashLogSaid :=
  OpenClaim.holds_of_wide 3 Try.f3 rfl rfl rfl rfl rfl rfl rfl ⟨rfl, rfl, rfl, rfl, rfl⟩ rfl rfl rfl rfl rfl (by kernel_rfl) Try.func3 (by kernel_rfl)
    (of_decide_eq_true (by kernel_rfl)) (by unfold Func.isWrapper; first | (rw [if_pos (by decide +kernel)]; kernel_rfl) | (rw [if_neg (by decide +kernel)]; exact ⟨rfl, rfl⟩))
    (fun os started H enc _ => law_lifted 3 Try.f3 Rows.fnExactCrashLogSpec [9, 3] os started H enc Try.func3 (by kernel_rfl) rfl rfl rfl
      (fun ds hl => by match ds, hl with | [d0, d1], _ => exact ⟨rfl, rfl, rfl⟩)
      (List.forall_mem_cons.2 ⟨⟨by kernel_rfl, of_decide_eq_true (by kernel_rfl)⟩, List.forall_mem_cons.2 ⟨⟨by kernel_rfl, of_decide_eq_true (by kernel_rfl)⟩, (fun _ h => absurd h List.not_mem_nil)⟩⟩)
      (ChangeSpec.witness6 (enc := enc) (C := Try.checked) false ⟨#[], #[.string ByteArray.empty, .int .i64 0], []⟩ 8 (by kernel_rfl) (by kernel_rfl) (by kernel_rfl) (by kernel_rfl)) FnExactCrashLog_walk)
#print axioms FnExactCrashLog_holds

end Go.Proofs.Ytckhdnigbddnkaa
