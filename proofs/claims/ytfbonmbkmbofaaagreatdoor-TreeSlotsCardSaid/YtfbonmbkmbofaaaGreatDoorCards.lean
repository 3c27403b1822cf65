/-
  DERIVED. GIVEN WITH THE SEED: THE CARDS: each row of YtfbonmbkmbofaaaGreatDoorRows.lean that lists a variable, with what it lists TIED to the program's text (the seventh form; the later family's looks); each row that meets fmt, with fmt's text TOLD by the authors' own Lean function (tested against real Go, not proved from fmt's source: count such statements apart). THE CARD IS WHAT COUNTS. Prove the row's statement (the work); the ties are given (YtfbonmbkmbofaaaGreatDoorTie.lean); close each card by the builder's one call (the guide's Derived/Test/ToyasCard.lean, 'card_holds'). Laid BY PROGRAM, IN A SANDBOX (cutbox-door.mjs). By AI agents, Wed Nov 11 2026. No macro, syntax, notation, axiom, sorry.
-/
import Derived.Test.YtfbonmbkmbofaaaGreatDoorRows
import GoSem.ClaimSeven
namespace Go.Proofs.YtfbonmbkmbofaaaGreatDoor
namespace Rows

/-- THE TIED CARD OF 'norialaw27.TreeSlots'. -/
def treeSlotsCard : Claim7 := { stood := { row := treeSlotsRow, standIns := [], harness := (true, "8348bf0b82fee787ec9bae6897a0044a8a3fdaf109fe03e1fc68bb0701490513"), looks := false }, kinds := [], alts := [], laidByText := true, laidKinds := [.data, .pinned], laidTests := true, laidLooks := .later }
def TreeSlotsCardSaid : Prop := Claim7.holds Tryz.pinned (.plain (OpenSpec.ofChange treeSlotsSpec)) treeSlotsCard

/-- THE TIED CARD OF 'norialaw34.SoundAll'. -/
def soundAllCard : Claim7 := { stood := { row := soundAllRow, standIns := [], harness := (true, "8348bf0b82fee787ec9bae6897a0044a8a3fdaf109fe03e1fc68bb0701490513"), looks := false }, kinds := [], alts := [], laidByText := true, laidKinds := [.data, .pinned], laidTests := true, laidLooks := .later }
def SoundAllCardSaid : Prop := Claim7.holds Tryz.pinned (.plain (OpenSpec.ofChange soundAllSpec)) soundAllCard

/-- THE SECOND FORM's CARD OF 'norialaw27.TreeSlots'. -/
def treeSlotsUptoCard : Claim7 := { stood := { row := treeSlotsUptoRow, standIns := [], harness := (true, "8348bf0b82fee787ec9bae6897a0044a8a3fdaf109fe03e1fc68bb0701490513"), looks := false }, kinds := [], alts := [], laidByText := true, laidKinds := [.data, .pinned], laidTests := true, laidLooks := .later }
def TreeSlotsUptoCardSaid : Prop := Claim7.holds Tryz.pinned (.plain (OpenSpec.upto treeSlotsSpec)) treeSlotsUptoCard

/-- THE SECOND FORM's CARD OF 'norialaw34.SoundAll'. -/
def soundAllUptoCard : Claim7 := { stood := { row := soundAllUptoRow, standIns := [], harness := (true, "8348bf0b82fee787ec9bae6897a0044a8a3fdaf109fe03e1fc68bb0701490513"), looks := false }, kinds := [], alts := [], laidByText := true, laidKinds := [.data, .pinned], laidTests := true, laidLooks := .later }
def SoundAllUptoCardSaid : Prop := Claim7.holds Tryz.pinned (.plain (OpenSpec.upto soundAllSpec)) soundAllUptoCard
end Rows
end Go.Proofs.YtfbonmbkmbofaaaGreatDoor
