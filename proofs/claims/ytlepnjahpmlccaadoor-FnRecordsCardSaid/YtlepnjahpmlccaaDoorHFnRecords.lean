/- FnRecords: the statement, for every input that can be read as data; no further condition. Its walk lies in the text that is imported. -/
import Derived.Test.YtlepnjahpmlccaaDoorFnRecsL
namespace Go.Proofs.YtlepnjahpmlccaaDoor
open Go.ChangeShapes Go.WideShapes Go.ChangeAt Go.RowKit
theorem FnRecords_laid (os : Os) (args : Array Value) : laidMet Tryd.prog fnRecordsLaid ((laidWorld os).forCall (fun _ _ => 0) ⟨#[], args, []⟩).memory :=
  laidMet_of_run' 8 (by kernel_rfl) (by kernel_rfl)
theorem FnRecords_row : Rows.FnRecordsSaid :=
  OpenClaim.holds_of_wide 7 Tryd.f7 rfl rfl rfl rfl rfl rfl rfl ⟨rfl, rfl, rfl, rfl, rfl⟩ rfl rfl rfl rfl rfl (by kernel_rfl) Tryd.func7 (by kernel_rfl)
    (of_decide_eq_true (by kernel_rfl)) (by unfold Func.isWrapper; first | (rw [if_pos (by decide +kernel)]; kernel_rfl) | (rw [if_neg (by decide +kernel)]; exact ⟨rfl, rfl⟩))
    (fun os started H enc _ => law_liftedV (n := "loop.example/g00809/impl.errDamaged") (g := 0) (ti := 70) (by kernel_rfl) (by kernel_rfl) Tryd.underlying70 fnRecordsLaid 7 Tryd.f7 Rows.fnRecordsSpec [44] os started H enc Tryd.func7 (by kernel_rfl) rfl rfl rfl (fun W h => by obtain ⟨tp, p, hd⟩ := Dam.var_of_laid h; exact hd)
      (fun ds y hl => by match ds, hl with | [d0], _ => exact ⟨rfl, rfl, rfl⟩)
      (List.forall_mem_cons.2 ⟨⟨by kernel_rfl, of_decide_eq_true (by kernel_rfl)⟩, (fun _ h => absurd h List.not_mem_nil)⟩)
      (ChangeSpec.witness_at (enc := enc) (C := Tryd.checked) (os := os) (X := fun w _ => laidMet Tryd.prog fnRecordsLaid w) false (laidWorld os) #[.slice none 0 0] 8 rfl (by kernel_rfl) (by kernel_rfl) (by kernel_rfl) (by kernel_rfl) (by kernel_rfl) (FnRecords_laid os _)) FnRecords_walk)
/-- THE STATEMENT: the card: the row, with what it lists tied to the program's text. -/
theorem FnRecords_holds : Rows.FnRecordsCardSaid :=
  Claim7.holds_tied_plain_at .later [] [.data, .data, .data, .sentinel, .sentinel, .sentinel] true (true, "e392d3c3bbbede21fe53e1a2833aa5612d58460bdac8ba0eefcb04c4575deeba") true
    FnRecords_row (fun _ h => by cases h) (by kernel_rfl) (fun _ h => by cases h) fnRecords_row_tie rfl ⟨rfl, rfl⟩ (by kernel_rfl) rfl
    (fun f fn hf hfn => by
      obtain rfl : f = 7 := Option.some.inj ((show Tryd.prog.funcNamed "loop.example/g00809/laws.FnRecords" = some 7 by kernel_rfl).symm.trans hf) |>.symm
      obtain rfl : fn = Tryd.f7 := (Option.some.inj (Tryd.func7.symm.trans hfn)).symm
      exact ⟨by kernel_rfl, fun j t ht => by
          rw [Tryd.params7] at ht
          rcases j with _ | j
          · obtain rfl : t = 44 := by simpa using ht.symm
            exact (show Tryd.prog.wantsStandIn 44 = false by kernel_rfl)
          · simp at ht
⟩)
    (by kernel_rfl)
#print axioms FnRecords_holds
end Go.Proofs.YtlepnjahpmlccaaDoor
