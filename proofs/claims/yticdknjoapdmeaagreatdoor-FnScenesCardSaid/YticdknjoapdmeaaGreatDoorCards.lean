/-
  DERIVED. GIVEN WITH THE SEED: THE CARDS: each row of YticdknjoapdmeaaGreatDoorRows.lean that lists a variable, with what it lists TIED to the program's text (the seventh form; the later family's looks); each row that meets fmt, with fmt's text TOLD by the authors' own Lean function (tested against real Go, not proved from fmt's source: count such statements apart). THE CARD IS WHAT COUNTS. Prove the row's statement (the work); the ties are given (YticdknjoapdmeaaGreatDoorTie.lean); close each card by the builder's one call (the guide's Derived/Test/ToyasCard.lean, 'card_holds'). Laid BY PROGRAM, IN A SANDBOX (cutbox-door.mjs). By AI agents, Wed Nov 11 2026. No macro, syntax, notation, axiom, sorry.
-/
import Derived.Test.YticdknjoapdmeaaGreatDoorRows
import GoSem.ClaimSeven
namespace Go.Proofs.YticdknjoapdmeaaGreatDoor
namespace Rows

/-- THE TIED CARD OF 'laws.FnExactParseScene'. -/
def fnExactParseSceneCard : Claim7 := { stood := { row := fnExactParseSceneRow, standIns := [], harness := (true, "c3ac552457d34ef87393b40dd4eddff88766bf4a23fa2a15c168d47209cb61e3"), looks := true }, kinds := [], alts := [], laidByText := true, laidKinds := [.data, .data, .data, .data, .handle, .sentinel, .sentinel, .pinned], laidTests := true, laidLooks := .later }
def FnExactParseSceneCardSaid : Prop := Claim7.holds Tryz.pinned (.plain (OpenSpec.ofChange fnExactParseSceneSpec)) fnExactParseSceneCard

/-- THE TIED CARD OF 'laws.FnScenes'. -/
def fnScenesCard : Claim7 := { stood := { row := fnScenesRow, standIns := [], harness := (true, "c3ac552457d34ef87393b40dd4eddff88766bf4a23fa2a15c168d47209cb61e3"), looks := true }, kinds := [], alts := [], laidByText := true, laidKinds := [.data, .data, .data, .data, .handle, .sentinel, .sentinel, .pinned], laidTests := true, laidLooks := .later }
def FnScenesCardSaid : Prop := Claim7.holds Tryz.pinned (.plain (OpenSpec.ofChange fnScenesSpec)) fnScenesCard

/-- THE SECOND FORM's CARD OF 'laws.FnExactParseScene'. -/
def fnExactParseSceneUptoCard : Claim7 := { stood := { row := fnExactParseSceneUptoRow, standIns := [], harness := (true, "c3ac552457d34ef87393b40dd4eddff88766bf4a23fa2a15c168d47209cb61e3"), looks := true }, kinds := [], alts := [], laidByText := true, laidKinds := [.data, .data, .data, .data, .handle, .sentinel, .sentinel, .pinned], laidTests := true, laidLooks := .later }
def FnExactParseSceneUptoCardSaid : Prop := Claim7.holds Tryz.pinned (.plain (OpenSpec.upto fnExactParseSceneSpec)) fnExactParseSceneUptoCard

/-- THE SECOND FORM's CARD OF 'laws.FnScenes'. -/
def fnScenesUptoCard : Claim7 := { stood := { row := fnScenesUptoRow, standIns := [], harness := (true, "c3ac552457d34ef87393b40dd4eddff88766bf4a23fa2a15c168d47209cb61e3"), looks := true }, kinds := [], alts := [], laidByText := true, laidKinds := [.data, .data, .data, .data, .handle, .sentinel, .sentinel, .pinned], laidTests := true, laidLooks := .later }
def FnScenesUptoCardSaid : Prop := Claim7.holds Tryz.pinned (.plain (OpenSpec.upto fnScenesSpec)) fnScenesUptoCard
end Rows
end Go.Proofs.YticdknjoapdmeaaGreatDoor
