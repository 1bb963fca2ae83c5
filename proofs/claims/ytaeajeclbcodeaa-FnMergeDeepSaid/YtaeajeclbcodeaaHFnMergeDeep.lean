/- FnMergeDeep: the statement, for every input that can be read as data; no further condition. Its walk lies in the text that is imported. -/
import Derived.Test.YtaeajeclbcodeaaFnMrgL
namespace Go.Proofs.Ytaeajeclbcodeaa
open Go.ChangeShapes Go.WideShapes Go.ChangeAt Go.RowKit
/-- THE STATEMENT. -/
theorem FnMergeDeep_holds : Rows.FnMergeDeepSaid :=
  OpenClaim.holds_of_wide 5 Try.f5 rfl rfl rfl rfl rfl rfl rfl ⟨rfl, rfl, rfl, rfl, rfl⟩ rfl rfl rfl rfl rfl (by kernel_rfl) Try.func5 (by kernel_rfl)
    (of_decide_eq_true (by kernel_rfl)) (by unfold Func.isWrapper; first | (rw [if_pos (by decide +kernel)]; kernel_rfl) | (rw [if_neg (by decide +kernel)]; exact ⟨rfl, rfl⟩))
    (fun os started H enc _ => law_lifted 5 Try.f5 Rows.fnMergeDeepSpec [43] os started H enc Try.func5 (by kernel_rfl) rfl rfl rfl
      (fun ds hl => by match ds, hl with | [d0], _ => exact ⟨rfl, rfl, rfl⟩)
      (List.forall_mem_cons.2 ⟨⟨by kernel_rfl, of_decide_eq_true (by kernel_rfl)⟩, (fun _ h => absurd h List.not_mem_nil)⟩)
      (ChangeSpec.witness6 (enc := enc) (C := Try.checked) false ⟨#[], #[.slice none 0 0], []⟩ 8 (by kernel_rfl) (by kernel_rfl) (by kernel_rfl) (by kernel_rfl)) FnMergeDeep_walk)
#print axioms FnMergeDeep_holds
end Go.Proofs.Ytaeajeclbcodeaa
