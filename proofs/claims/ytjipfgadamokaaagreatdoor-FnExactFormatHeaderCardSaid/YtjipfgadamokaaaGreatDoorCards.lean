/-
  DERIVED. GIVEN WITH THE SEED: THE CARDS: each row of YtjipfgadamokaaaGreatDoorRows.lean that lists a variable, with what it lists TIED to the program's text (the seventh form; the later family's looks); each row that meets fmt, with fmt's text TOLD by the authors' own Lean function (tested against real Go, not proved from fmt's source: count such statements apart). THE CARD IS WHAT COUNTS. Prove the row's statement (the work); the ties are given (YtjipfgadamokaaaGreatDoorTie.lean); close each card by the builder's one call (the guide's Derived/Test/ToyasCard.lean, 'card_holds'). Laid BY PROGRAM, IN A SANDBOX (cutbox-door.mjs). By AI agents, Wed Nov 11 2026. No macro, syntax, notation, axiom, sorry.
-/
import Derived.Test.YtjipfgadamokaaaGreatDoorRows
import GoSem.ClaimSeven
namespace Go.Proofs.YtjipfgadamokaaaGreatDoor
namespace Rows

/-- THE TIED CARD OF 'laws.FnExactSceneDigest'. -/
def fnExactSceneDigestCard : Claim7 := { stood := { row := fnExactSceneDigestRow, standIns := [], harness := (true, "3903bdd1d000e2dae66c4014925948058403e2b3505cb364b45343d14e3de51c"), looks := true }, kinds := [], alts := [], laidByText := true, laidKinds := [.data, .data, .data, .data, .pinned], laidTests := true, laidLooks := .later }
def FnExactSceneDigestCardSaid : Prop := Claim7.holds Tryz.pinned (.plain (OpenSpec.ofChange fnExactSceneDigestSpec)) fnExactSceneDigestCard

/-- THE TIED CARD OF 'laws.FnExactFormatHeader'. -/
def fnExactFormatHeaderCard : Claim7 := { stood := { row := fnExactFormatHeaderRow, standIns := [], harness := (true, "3903bdd1d000e2dae66c4014925948058403e2b3505cb364b45343d14e3de51c"), looks := true }, kinds := [], alts := [], laidByText := true, laidKinds := [.data, .data, .data, .data, .pinned], laidTests := true, laidLooks := .later }
def FnExactFormatHeaderCardSaid : Prop := Claim7.holds Tryz.pinned (.plain (OpenSpec.ofChange fnExactFormatHeaderSpec)) fnExactFormatHeaderCard

/-- THE SECOND FORM's CARD OF 'laws.FnExactSceneDigest'. -/
def fnExactSceneDigestUptoCard : Claim7 := { stood := { row := fnExactSceneDigestUptoRow, standIns := [], harness := (true, "3903bdd1d000e2dae66c4014925948058403e2b3505cb364b45343d14e3de51c"), looks := true }, kinds := [], alts := [], laidByText := true, laidKinds := [.data, .data, .data, .data, .pinned], laidTests := true, laidLooks := .later }
def FnExactSceneDigestUptoCardSaid : Prop := Claim7.holds Tryz.pinned (.plain (OpenSpec.upto fnExactSceneDigestSpec)) fnExactSceneDigestUptoCard

/-- THE SECOND FORM's CARD OF 'laws.FnExactFormatHeader'. -/
def fnExactFormatHeaderUptoCard : Claim7 := { stood := { row := fnExactFormatHeaderUptoRow, standIns := [], harness := (true, "3903bdd1d000e2dae66c4014925948058403e2b3505cb364b45343d14e3de51c"), looks := true }, kinds := [], alts := [], laidByText := true, laidKinds := [.data, .data, .data, .data, .pinned], laidTests := true, laidLooks := .later }
def FnExactFormatHeaderUptoCardSaid : Prop := Claim7.holds Tryz.pinned (.plain (OpenSpec.upto fnExactFormatHeaderSpec)) fnExactFormatHeaderUptoCard
end Rows
end Go.Proofs.YtjipfgadamokaaaGreatDoor
