/- FnExactFormatHeader: the statement, for every input that can be read as data; no further condition. Its walk lies in the text that is imported. -/
import Derived.Test.YtjipfgadamokaaaGreatDoorFormatHeaderL
set_option linter.unusedVariables false
set_option linter.unusedSimpArgs false
namespace Go.Proofs.YtjipfgadamokaaaGreatDoor
open Go.ChangeShapes Go.WideShapes Go.ChangeAt Go.RowKit
theorem FnExactFormatHeader_laid (os : Os) (args : Array Value) : laidMet Tryz.prog fnExactFormatHeaderLaid ((laidWorld os).forCall (fun _ _ => 0) ⟨#[], args, []⟩).memory :=
  laidMet_of_run' 8 (by kernel_rfl) (by kernel_rfl)
theorem FnExactFormatHeader_row : Rows.FnExactFormatHeaderSaid :=
  OpenClaim.holds_of_wide 4 Tryz.f4 rfl rfl rfl rfl rfl rfl rfl ⟨rfl, rfl, rfl, rfl, rfl⟩ rfl rfl rfl rfl rfl (by kernel_rfl) Tryz.func4 (by kernel_rfl)
    (of_decide_eq_true (by kernel_rfl)) (by unfold Func.isWrapper; first | (rw [if_pos (by decide +kernel)]; kernel_rfl) | (rw [if_neg (by decide +kernel)]; exact ⟨rfl, rfl⟩))
    (fun os started H enc _ => law_liftedD fnExactFormatHeaderLaid 4 Tryz.f4 Rows.fnExactFormatHeaderSpec [30, 3] os started H enc Tryz.func4 (by kernel_rfl) rfl rfl rfl
      (fun ds hl => by match ds, hl with | [d0, d1], _ => exact ⟨rfl, rfl, rfl⟩)
      (List.forall_mem_cons.2 ⟨⟨by kernel_rfl, of_decide_eq_true (by kernel_rfl)⟩, List.forall_mem_cons.2 ⟨⟨by kernel_rfl, of_decide_eq_true (by kernel_rfl)⟩, (fun _ h => absurd h List.not_mem_nil)⟩⟩)
      (ChangeSpec.witness_at (enc := enc) (C := Tryz.checked) (os := os) (X := fun w _ => laidMet Tryz.prog fnExactFormatHeaderLaid w) false (laidWorld os) #[.agg #[.int .i64 0, .int .i64 0, .int .i64 0, .int .i64 0, .bool false, .int .i64 0, .int .i64 0, .int .i64 0, .slice none 0 0, .slice none 0 0, .slice none 0 0, .int .i64 0], .int .i64 0] 8 rfl (by kernel_rfl) (by kernel_rfl) (by kernel_rfl) (by kernel_rfl) (by kernel_rfl) (FnExactFormatHeader_laid os _)) FnExactFormatHeader_walk)
/-- THE STATEMENT: the card: the row, with what it lists tied to the program's text. -/
theorem FnExactFormatHeader_holds : Rows.FnExactFormatHeaderCardSaid :=
  Claim7.holds_tied_plain_at .later [] [.data, .data, .data, .data, .pinned] true (true, "3903bdd1d000e2dae66c4014925948058403e2b3505cb364b45343d14e3de51c") true
    FnExactFormatHeader_row (fun _ h => by cases h) (by kernel_rfl) (fun _ h => by cases h) fnExactFormatHeader_row_tie rfl ⟨rfl, rfl⟩ (by kernel_rfl) rfl
    (fun f fn hf hfn => by
      obtain rfl : f = 4 := Option.some.inj ((show Tryz.prog.funcNamed "loop.example/g00809/laws.FnExactFormatHeader" = some 4 by kernel_rfl).symm.trans hf) |>.symm
      obtain rfl : fn = Tryz.f4 := (Option.some.inj (Tryz.func4.symm.trans hfn)).symm
      exact ⟨by kernel_rfl, fun j t ht => by
          rw [Tryz.params4] at ht
          rcases j with _ | j
          · obtain rfl : t = 30 := by simpa using ht.symm
            exact (show Tryz.prog.wantsStandIn 30 = false by kernel_rfl)
          rcases j with _ | j
          · obtain rfl : t = 3 := by simpa using ht.symm
            exact (show Tryz.prog.wantsStandIn 3 = false by kernel_rfl)
          · simp at ht
⟩)
    (by kernel_rfl)
#print axioms FnExactFormatHeader_holds
end Go.Proofs.YtjipfgadamokaaaGreatDoor
