/- FnExactFormatRecord: the statement, for every input that can be read as data; no further condition. Its walk lies in the text that is imported. -/
import Derived.Test.YtlepnjahpmlccaaDoorFormatRecordL
namespace Go.Proofs.YtlepnjahpmlccaaDoor
open Go.ChangeShapes Go.WideShapes Go.ChangeAt Go.RowKit
theorem FnExactFormatRecord_laid (os : Os) (args : Array Value) : laidMet Tryd.prog fnExactFormatRecordLaid ((laidWorld os).forCall (fun _ _ => 0) ⟨#[], args, []⟩).memory :=
  laidMet_of_run' 8 (by kernel_rfl) (by kernel_rfl)
theorem FnExactFormatRecord_row : Rows.FnExactFormatRecordSaid :=
  OpenClaim.holds_of_wide 5 Tryd.f5 rfl rfl rfl rfl rfl rfl rfl ⟨rfl, rfl, rfl, rfl, rfl⟩ rfl rfl rfl rfl rfl (by kernel_rfl) Tryd.func5 (by kernel_rfl)
    (of_decide_eq_true (by kernel_rfl)) (by unfold Func.isWrapper; first | (rw [if_pos (by decide +kernel)]; kernel_rfl) | (rw [if_neg (by decide +kernel)]; exact ⟨rfl, rfl⟩))
    (fun os started H enc _ => law_liftedD fnExactFormatRecordLaid 5 Tryd.f5 Rows.fnExactFormatRecordSpec [34] os started H enc Tryd.func5 (by kernel_rfl) rfl rfl rfl
      (fun ds hl => by match ds, hl with | [d0], _ => exact ⟨rfl, rfl, rfl⟩)
      (List.forall_mem_cons.2 ⟨⟨by kernel_rfl, of_decide_eq_true (by kernel_rfl)⟩, (fun _ h => absurd h List.not_mem_nil)⟩)
      (ChangeSpec.witness_at (enc := enc) (C := Tryd.checked) (os := os) (X := fun w _ => laidMet Tryd.prog fnExactFormatRecordLaid w) false (laidWorld os) #[.agg #[.int .i64 0, .slice none 0 0]] 8 rfl (by kernel_rfl) (by kernel_rfl) (by kernel_rfl) (by kernel_rfl) (by kernel_rfl) (FnExactFormatRecord_laid os _)) FnExactFormatRecord_walk)
/-- THE STATEMENT: the card: the row, with what it lists tied to the program's text. -/
theorem FnExactFormatRecord_holds : Rows.FnExactFormatRecordCardSaid :=
  Claim7.holds_tied_plain_at .later [] [.data, .data, .data] true (true, "e392d3c3bbbede21fe53e1a2833aa5612d58460bdac8ba0eefcb04c4575deeba") true
    FnExactFormatRecord_row (fun _ h => by cases h) (by kernel_rfl) (fun _ h => by cases h) fnExactFormatRecord_row_tie rfl ⟨rfl, rfl⟩ (by kernel_rfl) rfl
    (fun f fn hf hfn => by
      obtain rfl : f = 5 := Option.some.inj ((show Tryd.prog.funcNamed "loop.example/g00809/laws.FnExactFormatRecord" = some 5 by kernel_rfl).symm.trans hf) |>.symm
      obtain rfl : fn = Tryd.f5 := (Option.some.inj (Tryd.func5.symm.trans hfn)).symm
      exact ⟨by kernel_rfl, fun j t ht => by
          rw [Tryd.params5] at ht
          rcases j with _ | j
          · obtain rfl : t = 34 := by simpa using ht.symm
            exact (show Tryd.prog.wantsStandIn 34 = false by kernel_rfl)
          · simp at ht
⟩)
    (by kernel_rfl)
#print axioms FnExactFormatRecord_holds
end Go.Proofs.YtlepnjahpmlccaaDoor
