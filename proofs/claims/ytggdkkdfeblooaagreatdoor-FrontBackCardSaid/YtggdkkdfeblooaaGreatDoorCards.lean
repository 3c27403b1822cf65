/-
  DERIVED. GIVEN WITH THE SEED: THE CARDS: each row of YtggdkkdfeblooaaGreatDoorRows.lean that lists a variable, with what it lists TIED to the program's text (the seventh form; the later family's looks); each row that meets fmt, with fmt's text TOLD by the authors' own Lean function (tested against real Go, not proved from fmt's source: count such statements apart). THE CARD IS WHAT COUNTS. Prove the row's statement (the work); the ties are given (YtggdkkdfeblooaaGreatDoorTie.lean); close each card by the builder's one call (the guide's Derived/Test/ToyasCard.lean, 'card_holds'). Laid BY PROGRAM, IN A SANDBOX (cutbox-door.mjs). By AI agents, Wed Nov 11 2026. No macro, syntax, notation, axiom, sorry.
-/
import Derived.Test.YtggdkkdfeblooaaGreatDoorRows
import GoSem.ClaimSeven
namespace Go.Proofs.YtggdkkdfeblooaaGreatDoor
namespace Rows

/-- THE TIED CARD OF 'norialaw20.FrontBack'. -/
def frontBackCard : Claim7 := { stood := { row := frontBackRow, standIns := [], harness := (true, "3be4a05d2f342356d5f7e793ee4b0df8b5ae8d1ce60a48eca5d9a896c73c8474"), looks := true }, kinds := [], alts := [], laidByText := true, laidKinds := [.data, .data, .data, .data, .handle, .sentinel, .sentinel, .listed, .data, .pinned], laidTests := true, laidLooks := .later }
def FrontBackCardSaid : Prop := Claim7.holds Tryz.pinned (.plain (OpenSpec.ofChange frontBackSpec)) frontBackCard

/-- THE SECOND FORM's CARD OF 'norialaw20.FrontBack'. -/
def frontBackUptoCard : Claim7 := { stood := { row := frontBackUptoRow, standIns := [], harness := (true, "3be4a05d2f342356d5f7e793ee4b0df8b5ae8d1ce60a48eca5d9a896c73c8474"), looks := true }, kinds := [], alts := [], laidByText := true, laidKinds := [.data, .data, .data, .data, .handle, .sentinel, .sentinel, .listed, .data, .pinned], laidTests := true, laidLooks := .later }
def FrontBackUptoCardSaid : Prop := Claim7.holds Tryz.pinned (.plain (OpenSpec.upto frontBackSpec)) frontBackUptoCard
end Rows
end Go.Proofs.YtggdkkdfeblooaaGreatDoor
