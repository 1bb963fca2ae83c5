/-
  DERIVED. GIVEN WITH THE SEED: THE CARDS: each row of YtlepnjahpmlccaaDoorRows.lean that lists a variable, with what it lists TIED to the program's text (the seventh form; the later family's looks); each row that meets fmt, with fmt's text TOLD by the authors' own Lean function (tested against real Go, not proved from fmt's source: count such statements apart). THE CARD IS WHAT COUNTS. Prove the row's statement (the work); the ties are given (YtlepnjahpmlccaaDoorTie.lean); close each card by the builder's one call (the guide's Derived/Test/ToyasCard.lean, 'card_holds'). Laid BY PROGRAM, IN A SANDBOX (cutbox-door.mjs). By AI agents, Wed Nov 11 2026. No macro, syntax, notation, axiom, sorry.
-/
import Derived.Test.YtlepnjahpmlccaaDoorRows
import GoSem.ClaimSeven
namespace Go.Proofs.YtlepnjahpmlccaaDoor
namespace Rows

/-- THE TIED CARD OF 'laws.FnExactFormatFilter'. -/
def fnExactFormatFilterCard : Claim7 := { stood := { row := fnExactFormatFilterRow, standIns := [], harness := (true, "e392d3c3bbbede21fe53e1a2833aa5612d58460bdac8ba0eefcb04c4575deeba"), looks := true }, kinds := [], alts := [], laidByText := true, laidKinds := [.data, .data, .data], laidTests := true, laidLooks := .later }
def FnExactFormatFilterCardSaid : Prop := Claim7.holds Tryd.pinned (.plain (OpenSpec.ofChange fnExactFormatFilterSpec)) fnExactFormatFilterCard

/-- THE TIED CARD OF 'laws.FnExactParseFilter'. -/
def fnExactParseFilterCard : Claim7 := { stood := { row := fnExactParseFilterRow, standIns := [], harness := (true, "e392d3c3bbbede21fe53e1a2833aa5612d58460bdac8ba0eefcb04c4575deeba"), looks := true }, kinds := [], alts := [], laidByText := true, laidKinds := [.data, .data, .data, .sentinel, .sentinel], laidTests := true, laidLooks := .later }
def FnExactParseFilterCardSaid : Prop := Claim7.holds Tryd.pinned (.plain (OpenSpec.ofChange fnExactParseFilterSpec)) fnExactParseFilterCard

/-- THE TIED CARD OF 'laws.FnExactFormatRecord'. -/
def fnExactFormatRecordCard : Claim7 := { stood := { row := fnExactFormatRecordRow, standIns := [], harness := (true, "e392d3c3bbbede21fe53e1a2833aa5612d58460bdac8ba0eefcb04c4575deeba"), looks := true }, kinds := [], alts := [], laidByText := true, laidKinds := [.data, .data, .data], laidTests := true, laidLooks := .later }
def FnExactFormatRecordCardSaid : Prop := Claim7.holds Tryd.pinned (.plain (OpenSpec.ofChange fnExactFormatRecordSpec)) fnExactFormatRecordCard

/-- THE TIED CARD OF 'laws.FnExactParseRecord'. -/
def fnExactParseRecordCard : Claim7 := { stood := { row := fnExactParseRecordRow, standIns := [], harness := (true, "e392d3c3bbbede21fe53e1a2833aa5612d58460bdac8ba0eefcb04c4575deeba"), looks := true }, kinds := [], alts := [], laidByText := true, laidKinds := [.data, .data, .data, .sentinel, .sentinel, .sentinel], laidTests := true, laidLooks := .later }
def FnExactParseRecordCardSaid : Prop := Claim7.holds Tryd.pinned (.plain (OpenSpec.ofChange fnExactParseRecordSpec)) fnExactParseRecordCard

/-- THE TIED CARD OF 'laws.FnRecords'. -/
def fnRecordsCard : Claim7 := { stood := { row := fnRecordsRow, standIns := [], harness := (true, "e392d3c3bbbede21fe53e1a2833aa5612d58460bdac8ba0eefcb04c4575deeba"), looks := true }, kinds := [], alts := [], laidByText := true, laidKinds := [.data, .data, .data, .sentinel, .sentinel, .sentinel], laidTests := true, laidLooks := .later }
def FnRecordsCardSaid : Prop := Claim7.holds Tryd.pinned (.plain (OpenSpec.ofChange fnRecordsSpec)) fnRecordsCard

/-- THE SECOND FORM's CARD OF 'laws.FnExactFormatFilter'. -/
def fnExactFormatFilterUptoCard : Claim7 := { stood := { row := fnExactFormatFilterUptoRow, standIns := [], harness := (true, "e392d3c3bbbede21fe53e1a2833aa5612d58460bdac8ba0eefcb04c4575deeba"), looks := true }, kinds := [], alts := [], laidByText := true, laidKinds := [.data, .data, .data], laidTests := true, laidLooks := .later }
def FnExactFormatFilterUptoCardSaid : Prop := Claim7.holds Tryd.pinned (.plain (OpenSpec.upto fnExactFormatFilterSpec)) fnExactFormatFilterUptoCard

/-- THE SECOND FORM's CARD OF 'laws.FnExactParseFilter'. -/
def fnExactParseFilterUptoCard : Claim7 := { stood := { row := fnExactParseFilterUptoRow, standIns := [], harness := (true, "e392d3c3bbbede21fe53e1a2833aa5612d58460bdac8ba0eefcb04c4575deeba"), looks := true }, kinds := [], alts := [], laidByText := true, laidKinds := [.data, .data, .data, .sentinel, .sentinel], laidTests := true, laidLooks := .later }
def FnExactParseFilterUptoCardSaid : Prop := Claim7.holds Tryd.pinned (.plain (OpenSpec.upto fnExactParseFilterSpec)) fnExactParseFilterUptoCard

/-- THE SECOND FORM's CARD OF 'laws.FnExactFormatRecord'. -/
def fnExactFormatRecordUptoCard : Claim7 := { stood := { row := fnExactFormatRecordUptoRow, standIns := [], harness := (true, "e392d3c3bbbede21fe53e1a2833aa5612d58460bdac8ba0eefcb04c4575deeba"), looks := true }, kinds := [], alts := [], laidByText := true, laidKinds := [.data, .data, .data], laidTests := true, laidLooks := .later }
def FnExactFormatRecordUptoCardSaid : Prop := Claim7.holds Tryd.pinned (.plain (OpenSpec.upto fnExactFormatRecordSpec)) fnExactFormatRecordUptoCard

/-- THE SECOND FORM's CARD OF 'laws.FnExactParseRecord'. -/
def fnExactParseRecordUptoCard : Claim7 := { stood := { row := fnExactParseRecordUptoRow, standIns := [], harness := (true, "e392d3c3bbbede21fe53e1a2833aa5612d58460bdac8ba0eefcb04c4575deeba"), looks := true }, kinds := [], alts := [], laidByText := true, laidKinds := [.data, .data, .data, .sentinel, .sentinel, .sentinel], laidTests := true, laidLooks := .later }
def FnExactParseRecordUptoCardSaid : Prop := Claim7.holds Tryd.pinned (.plain (OpenSpec.upto fnExactParseRecordSpec)) fnExactParseRecordUptoCard

/-- THE SECOND FORM's CARD OF 'laws.FnRecords'. -/
def fnRecordsUptoCard : Claim7 := { stood := { row := fnRecordsUptoRow, standIns := [], harness := (true, "e392d3c3bbbede21fe53e1a2833aa5612d58460bdac8ba0eefcb04c4575deeba"), looks := true }, kinds := [], alts := [], laidByText := true, laidKinds := [.data, .data, .data, .sentinel, .sentinel, .sentinel], laidTests := true, laidLooks := .later }
def FnRecordsUptoCardSaid : Prop := Claim7.holds Tryd.pinned (.plain (OpenSpec.upto fnRecordsSpec)) fnRecordsUptoCard
end Rows
end Go.Proofs.YtlepnjahpmlccaaDoor
