/- FnExactParse: the statement, for every input that can be read as data; no further condition. Its walk lies in the text that is imported. -/
import Derived.Test.YtnlbojckobgjpaaDoorParseL
namespace Go.Proofs.YtnlbojckobgjpaaDoor
open Go.ChangeShapes Go.WideShapes Go.ChangeAt Go.RowKit
theorem FnExactParse_laid (os : Os) (args : Array Value) : laidMetH Tryd.prog fnExactParseLaid ((laidWorldH os).forCall (fun _ _ => 0) ⟨#[], args, []⟩).memory :=
  laidMetH_of_parts (laidMet_nil _ _) (by kernel_rfl)
theorem FnExactParse_row : Rows.FnExactParseSaid :=
  OpenClaim.holds_of_wide 3 Tryd.f3 rfl rfl rfl rfl rfl rfl rfl ⟨rfl, rfl, rfl, rfl, rfl⟩ rfl rfl rfl rfl rfl (by kernel_rfl) Tryd.func3 (by kernel_rfl)
    (of_decide_eq_true (by kernel_rfl)) (by unfold Func.isWrapper; first | (rw [if_pos (by decide +kernel)]; kernel_rfl) | (rw [if_neg (by decide +kernel)]; exact ⟨rfl, rfl⟩))
    (fun os started H enc _ => law_liftedH fnExactParseLaid 3 Tryd.f3 Rows.fnExactParseSpec [9] os started H enc Tryd.func3 (by kernel_rfl) rfl rfl rfl
      (fun ds hl => by match ds, hl with | [d0], _ => exact ⟨rfl, rfl, rfl⟩)
      (List.forall_mem_cons.2 ⟨⟨by kernel_rfl, of_decide_eq_true (by kernel_rfl)⟩, (fun _ h => absurd h List.not_mem_nil)⟩)
      (ChangeSpec.witness_at (enc := enc) (C := Tryd.checked) (os := os) (X := fun w _ => laidMetH Tryd.prog fnExactParseLaid w) false (laidWorldH os) #[.string ByteArray.empty] 8 rfl (by kernel_rfl) (by kernel_rfl) (by kernel_rfl) (by kernel_rfl) (by kernel_rfl) (FnExactParse_laid os _)) FnExactParse_walk)
/-- THE STATEMENT: the card: the row, with what it lists tied to the program's text. -/
theorem FnExactParse_holds : Rows.FnExactParseCardSaid :=
  Claim7.holds_tied_plain_at .later [] [.handle] true (true, "a95736659d645f0b6eb0d090a8765d420d75e27d6ec2fe4821fb5d172098e522") true
    FnExactParse_row (fun _ h => by cases h) (by kernel_rfl) (fun _ h => by cases h) fnExactParse_row_tie rfl ⟨rfl, rfl⟩ (by kernel_rfl) rfl
    (fun f fn hf hfn => by
      obtain rfl : f = 3 := Option.some.inj ((show Tryd.prog.funcNamed "loop.example/g00809/laws.FnExactParse" = some 3 by kernel_rfl).symm.trans hf) |>.symm
      obtain rfl : fn = Tryd.f3 := (Option.some.inj (Tryd.func3.symm.trans hfn)).symm
      exact ⟨by kernel_rfl, fun j t ht => by
          rw [Tryd.params3] at ht
          rcases j with _ | j
          · obtain rfl : t = 9 := by simpa using ht.symm
            exact (show Tryd.prog.wantsStandIn 9 = false by kernel_rfl)
          · simp at ht
⟩)
    (by kernel_rfl)
#print axioms FnExactParse_holds
end Go.Proofs.YtnlbojckobgjpaaDoor
