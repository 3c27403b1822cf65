/-
  DERIVED. GIVEN WITH THE SEED: THE CARDS: each row of YtcoflifoeiglkaaGreatDoorRows.lean that lists a variable, with what it lists TIED to the program's text (the seventh form; the later family's looks); each row that meets fmt, with fmt's text TOLD by the authors' own Lean function (tested against real Go, not proved from fmt's source: count such statements apart). THE CARD IS WHAT COUNTS. Prove the row's statement (the work); the ties are given (YtcoflifoeiglkaaGreatDoorTie.lean); close each card by the builder's one call (the guide's Derived/Test/ToyasCard.lean, 'card_holds'). Laid BY PROGRAM, IN A SANDBOX (cutbox-door.mjs). By AI agents, Wed Nov 11 2026. No macro, syntax, notation, axiom, sorry.
-/
import Derived.Test.YtcoflifoeiglkaaGreatDoorRows
import GoSem.ClaimSeven
namespace Go.Proofs.YtcoflifoeiglkaaGreatDoor
namespace Rows

/-- THE TIED CARD OF 'norialaw20.FrontBack'. -/
def frontBackCard : Claim7 := { stood := { row := frontBackRow, standIns := [], harness := (true, "89dae7d0dc4ff01842952f058d0c8ca424e179ddd361e29db26d76192fb7f035"), looks := true }, kinds := [], alts := [], laidByText := true, laidKinds := [.data, .data, .data, .data, .handle, .sentinel, .sentinel, .listed, .data, .pinned], laidTests := true, laidLooks := .later }
def FrontBackCardSaid : Prop := Claim7.holds Tryz.pinned (.plain (OpenSpec.ofChange frontBackSpec)) frontBackCard

/-- THE TIED CARD OF 'norialaw20.FrontFaces'. -/
def frontFacesCard : Claim7 := { stood := { row := frontFacesRow, standIns := [], harness := (true, "89dae7d0dc4ff01842952f058d0c8ca424e179ddd361e29db26d76192fb7f035"), looks := true }, kinds := [], alts := [], laidByText := true, laidKinds := [.data, .data, .data, .data, .handle, .sentinel, .sentinel, .listed, .data, .pinned], laidTests := true, laidLooks := .later }
def FrontFacesCardSaid : Prop := Claim7.holds Tryz.pinned (.plain (OpenSpec.ofChange frontFacesSpec)) frontFacesCard

/-- THE SECOND FORM's CARD OF 'norialaw20.FrontBack'. -/
def frontBackUptoCard : Claim7 := { stood := { row := frontBackUptoRow, standIns := [], harness := (true, "89dae7d0dc4ff01842952f058d0c8ca424e179ddd361e29db26d76192fb7f035"), looks := true }, kinds := [], alts := [], laidByText := true, laidKinds := [.data, .data, .data, .data, .handle, .sentinel, .sentinel, .listed, .data, .pinned], laidTests := true, laidLooks := .later }
def FrontBackUptoCardSaid : Prop := Claim7.holds Tryz.pinned (.plain (OpenSpec.upto frontBackSpec)) frontBackUptoCard

/-- THE SECOND FORM's CARD OF 'norialaw20.FrontFaces'. -/
def frontFacesUptoCard : Claim7 := { stood := { row := frontFacesUptoRow, standIns := [], harness := (true, "89dae7d0dc4ff01842952f058d0c8ca424e179ddd361e29db26d76192fb7f035"), looks := true }, kinds := [], alts := [], laidByText := true, laidKinds := [.data, .data, .data, .data, .handle, .sentinel, .sentinel, .listed, .data, .pinned], laidTests := true, laidLooks := .later }
def FrontFacesUptoCardSaid : Prop := Claim7.holds Tryz.pinned (.plain (OpenSpec.upto frontFacesSpec)) frontFacesUptoCard
end Rows
end Go.Proofs.YtcoflifoeiglkaaGreatDoor
