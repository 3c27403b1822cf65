/-
  DERIVED. GIVEN WITH THE SEED: THE CARDS: each row of YtdckoceiokaelaaGreatDoorRows.lean that lists a variable, with what it lists TIED to the program's text (the seventh form; the later family's looks); each row that meets fmt, with fmt's text TOLD by the authors' own Lean function (tested against real Go, not proved from fmt's source: count such statements apart). THE CARD IS WHAT COUNTS. Prove the row's statement (the work); the ties are given (YtdckoceiokaelaaGreatDoorTie.lean); close each card by the builder's one call (the guide's Derived/Test/ToyasCard.lean, 'card_holds'). Laid BY PROGRAM, IN A SANDBOX (cutbox-door.mjs). By AI agents, Wed Nov 11 2026. No macro, syntax, notation, axiom, sorry.
-/
import Derived.Test.YtdckoceiokaelaaGreatDoorRows
import GoSem.ClaimSeven
namespace Go.Proofs.YtdckoceiokaelaaGreatDoor
namespace Rows

/-- THE TIED CARD OF 'norialaw37.MlangReads'. -/
def mlangReadsCard : Claim7 := { stood := { row := mlangReadsRow, standIns := [], harness := (true, "3b227ab5359ad9eb630c832a3afd959d79ffa53d9b0d8172450112b2821941d5"), looks := true }, kinds := [], alts := [], laidByText := true, laidKinds := [.data, .data, .data, .data, .sentinel, .sentinel, .listed, .data, .pinned], laidTests := true, laidLooks := .later }
def MlangReadsCardSaid : Prop := Claim7.holds Tryz.pinned (.plain (OpenSpec.ofChange mlangReadsSpec)) mlangReadsCard

/-- THE TIED CARD OF 'norialaw37.MlangBack'. -/
def mlangBackCard : Claim7 := { stood := { row := mlangBackRow, standIns := [], harness := (true, "3b227ab5359ad9eb630c832a3afd959d79ffa53d9b0d8172450112b2821941d5"), looks := true }, kinds := [], alts := [], laidByText := true, laidKinds := [.data, .data, .data, .data, .sentinel, .sentinel, .listed, .data, .pinned], laidTests := true, laidLooks := .later }
def MlangBackCardSaid : Prop := Claim7.holds Tryz.pinned (.plain (OpenSpec.ofChange mlangBackSpec)) mlangBackCard

/-- THE TIED CARD OF 'norialaw37.MlangTexts'. -/
def mlangTextsCard : Claim7 := { stood := { row := mlangTextsRow, standIns := [], harness := (true, "3b227ab5359ad9eb630c832a3afd959d79ffa53d9b0d8172450112b2821941d5"), looks := true }, kinds := [], alts := [], laidByText := true, laidKinds := [.data, .data, .data, .data, .sentinel, .sentinel, .listed, .data, .pinned], laidTests := true, laidLooks := .later }
def MlangTextsCardSaid : Prop := Claim7.holds Tryz.pinned (.plain (OpenSpec.ofChange mlangTextsSpec)) mlangTextsCard

/-- THE SECOND FORM's CARD OF 'norialaw37.MlangReads'. -/
def mlangReadsUptoCard : Claim7 := { stood := { row := mlangReadsUptoRow, standIns := [], harness := (true, "3b227ab5359ad9eb630c832a3afd959d79ffa53d9b0d8172450112b2821941d5"), looks := true }, kinds := [], alts := [], laidByText := true, laidKinds := [.data, .data, .data, .data, .sentinel, .sentinel, .listed, .data, .pinned], laidTests := true, laidLooks := .later }
def MlangReadsUptoCardSaid : Prop := Claim7.holds Tryz.pinned (.plain (OpenSpec.upto mlangReadsSpec)) mlangReadsUptoCard

/-- THE SECOND FORM's CARD OF 'norialaw37.MlangBack'. -/
def mlangBackUptoCard : Claim7 := { stood := { row := mlangBackUptoRow, standIns := [], harness := (true, "3b227ab5359ad9eb630c832a3afd959d79ffa53d9b0d8172450112b2821941d5"), looks := true }, kinds := [], alts := [], laidByText := true, laidKinds := [.data, .data, .data, .data, .sentinel, .sentinel, .listed, .data, .pinned], laidTests := true, laidLooks := .later }
def MlangBackUptoCardSaid : Prop := Claim7.holds Tryz.pinned (.plain (OpenSpec.upto mlangBackSpec)) mlangBackUptoCard

/-- THE SECOND FORM's CARD OF 'norialaw37.MlangTexts'. -/
def mlangTextsUptoCard : Claim7 := { stood := { row := mlangTextsUptoRow, standIns := [], harness := (true, "3b227ab5359ad9eb630c832a3afd959d79ffa53d9b0d8172450112b2821941d5"), looks := true }, kinds := [], alts := [], laidByText := true, laidKinds := [.data, .data, .data, .data, .sentinel, .sentinel, .listed, .data, .pinned], laidTests := true, laidLooks := .later }
def MlangTextsUptoCardSaid : Prop := Claim7.holds Tryz.pinned (.plain (OpenSpec.upto mlangTextsSpec)) mlangTextsUptoCard
end Rows
end Go.Proofs.YtdckoceiokaelaaGreatDoor
