/- FnExactFormatFilter: the statement, for every input that can be read as data; no further condition. Its walk lies in the text that is imported. -/
import Derived.Test.YtlepnjahpmlccaaDoorFmtF
namespace Go.Proofs.YtlepnjahpmlccaaDoor
open Go.ChangeShapes Go.WideShapes Go.ChangeAt Go.RowKit
theorem FnExactFormatFilter_laid (os : Os) (args : Array Value) : laidMet Tryd.prog fnExactFormatFilterLaid ((laidWorld os).forCall (fun _ _ => 0) ⟨#[], args, []⟩).memory :=
  laidMet_of_run' 8 (by kernel_rfl) (by kernel_rfl)
theorem FnExactFormatFilter_row : Rows.FnExactFormatFilterSaid :=
  OpenClaim.holds_of_wide 3 Tryd.f3 rfl rfl rfl rfl rfl rfl rfl ⟨rfl, rfl, rfl, rfl, rfl⟩ rfl rfl rfl rfl rfl (by kernel_rfl) Tryd.func3 (by kernel_rfl)
    (of_decide_eq_true (by kernel_rfl)) (by unfold Func.isWrapper; first | (rw [if_pos (by decide +kernel)]; kernel_rfl) | (rw [if_neg (by decide +kernel)]; exact ⟨rfl, rfl⟩))
    (fun os started H enc _ => law_liftedD fnExactFormatFilterLaid 3 Tryd.f3 Rows.fnExactFormatFilterSpec [23] os started H enc Tryd.func3 (by kernel_rfl) rfl rfl rfl
      (fun ds hl => by match ds, hl with | [d0], _ => exact ⟨rfl, rfl, rfl⟩)
      (List.forall_mem_cons.2 ⟨⟨by kernel_rfl, of_decide_eq_true (by kernel_rfl)⟩, (fun _ h => absurd h List.not_mem_nil)⟩)
      (ChangeSpec.witness_at (enc := enc) (C := Tryd.checked) (os := os) (X := fun w _ => laidMet Tryd.prog fnExactFormatFilterLaid w) false (laidWorld os) #[.agg #[.int .i64 0, .int .i64 0]] 8 rfl (by kernel_rfl) (by kernel_rfl) (by kernel_rfl) (by kernel_rfl) (by kernel_rfl) (FnExactFormatFilter_laid os _)) FnExactFormatFilter_walk)
/-- THE STATEMENT: the card: the row, with what it lists tied to the program's text. -/
theorem FnExactFormatFilter_holds : Rows.FnExactFormatFilterCardSaid :=
  Claim7.holds_tied_plain_at .later [] [.data, .data, .data] true (true, "e392d3c3bbbede21fe53e1a2833aa5612d58460bdac8ba0eefcb04c4575deeba") true
    FnExactFormatFilter_row (fun _ h => by cases h) (by kernel_rfl) (fun _ h => by cases h) fnExactFormatFilter_row_tie rfl ⟨rfl, rfl⟩ (by kernel_rfl) rfl
    (fun f fn hf hfn => by
      obtain rfl : f = 3 := Option.some.inj ((show Tryd.prog.funcNamed "loop.example/g00809/laws.FnExactFormatFilter" = some 3 by kernel_rfl).symm.trans hf) |>.symm
      obtain rfl : fn = Tryd.f3 := (Option.some.inj (Tryd.func3.symm.trans hfn)).symm
      exact ⟨by kernel_rfl, fun j t ht => by
          rw [Tryd.params3] at ht
          rcases j with _ | j
          · obtain rfl : t = 23 := by simpa using ht.symm
            exact (show Tryd.prog.wantsStandIn 23 = false by kernel_rfl)
          · simp at ht
⟩)
    (by kernel_rfl)
#print axioms FnExactFormatFilter_holds
end Go.Proofs.YtlepnjahpmlccaaDoor
