/-
  DERIVED. GIVEN WITH THE SEED: THE CARDS: each row of YtmmcmfcnpfbifaaGreatDoorRows.lean that lists a variable, with what it lists TIED to the program's text (the seventh form; the later family's looks); each row that meets fmt, with fmt's text TOLD by the authors' own Lean function (tested against real Go, not proved from fmt's source: count such statements apart). THE CARD IS WHAT COUNTS. Prove the row's statement (the work); the ties are given (YtmmcmfcnpfbifaaGreatDoorTie.lean); close each card by the builder's one call (the guide's Derived/Test/ToyasCard.lean, 'card_holds'). Laid BY PROGRAM, IN A SANDBOX (cutbox-door.mjs). By AI agents, Wed Nov 11 2026. No macro, syntax, notation, axiom, sorry.
-/
import Derived.Test.YtmmcmfcnpfbifaaGreatDoorRows
import GoSem.ClaimSeven
namespace Go.Proofs.YtmmcmfcnpfbifaaGreatDoor
namespace Rows

/-- THE TIED CARD OF 'norialaw27.TreeSlots'. -/
def treeSlotsCard : Claim7 := { stood := { row := treeSlotsRow, standIns := [], harness := (true, "92a5775a05fe5720c6c544d50e2af9b77106ce30d19cd6b66abdfdabaacd809d"), looks := false }, kinds := [], alts := [], laidByText := true, laidKinds := [.data, .pinned], laidTests := true, laidLooks := .later }
def TreeSlotsCardSaid : Prop := Claim7.holds Tryz.pinned (.plain (OpenSpec.ofChange treeSlotsSpec)) treeSlotsCard

/-- THE TIED CARD OF 'norialaw34.SoundChecks'. -/
def soundChecksCard : Claim7 := { stood := { row := soundChecksRow, standIns := [], harness := (true, "92a5775a05fe5720c6c544d50e2af9b77106ce30d19cd6b66abdfdabaacd809d"), looks := false }, kinds := [], alts := [], laidByText := true, laidKinds := [.data, .pinned], laidTests := true, laidLooks := .later }
def SoundChecksCardSaid : Prop := Claim7.holds Tryz.pinned (.plain (OpenSpec.ofChange soundChecksSpec)) soundChecksCard

/-- THE TIED CARD OF 'norialaw34.SoundHalts'. -/
def soundHaltsCard : Claim7 := { stood := { row := soundHaltsRow, standIns := [], harness := (true, "92a5775a05fe5720c6c544d50e2af9b77106ce30d19cd6b66abdfdabaacd809d"), looks := false }, kinds := [], alts := [], laidByText := true, laidKinds := [.data, .pinned], laidTests := true, laidLooks := .later }
def SoundHaltsCardSaid : Prop := Claim7.holds Tryz.pinned (.plain (OpenSpec.ofChange soundHaltsSpec)) soundHaltsCard

/-- THE TIED CARD OF 'norialaw34.SoundAll'. -/
def soundAllCard : Claim7 := { stood := { row := soundAllRow, standIns := [], harness := (true, "92a5775a05fe5720c6c544d50e2af9b77106ce30d19cd6b66abdfdabaacd809d"), looks := false }, kinds := [], alts := [], laidByText := true, laidKinds := [.data, .pinned], laidTests := true, laidLooks := .later }
def SoundAllCardSaid : Prop := Claim7.holds Tryz.pinned (.plain (OpenSpec.ofChange soundAllSpec)) soundAllCard

/-- THE SECOND FORM's CARD OF 'norialaw27.TreeSlots'. -/
def treeSlotsUptoCard : Claim7 := { stood := { row := treeSlotsUptoRow, standIns := [], harness := (true, "92a5775a05fe5720c6c544d50e2af9b77106ce30d19cd6b66abdfdabaacd809d"), looks := false }, kinds := [], alts := [], laidByText := true, laidKinds := [.data, .pinned], laidTests := true, laidLooks := .later }
def TreeSlotsUptoCardSaid : Prop := Claim7.holds Tryz.pinned (.plain (OpenSpec.upto treeSlotsSpec)) treeSlotsUptoCard

/-- THE SECOND FORM's CARD OF 'norialaw34.SoundChecks'. -/
def soundChecksUptoCard : Claim7 := { stood := { row := soundChecksUptoRow, standIns := [], harness := (true, "92a5775a05fe5720c6c544d50e2af9b77106ce30d19cd6b66abdfdabaacd809d"), looks := false }, kinds := [], alts := [], laidByText := true, laidKinds := [.data, .pinned], laidTests := true, laidLooks := .later }
def SoundChecksUptoCardSaid : Prop := Claim7.holds Tryz.pinned (.plain (OpenSpec.upto soundChecksSpec)) soundChecksUptoCard

/-- THE SECOND FORM's CARD OF 'norialaw34.SoundHalts'. -/
def soundHaltsUptoCard : Claim7 := { stood := { row := soundHaltsUptoRow, standIns := [], harness := (true, "92a5775a05fe5720c6c544d50e2af9b77106ce30d19cd6b66abdfdabaacd809d"), looks := false }, kinds := [], alts := [], laidByText := true, laidKinds := [.data, .pinned], laidTests := true, laidLooks := .later }
def SoundHaltsUptoCardSaid : Prop := Claim7.holds Tryz.pinned (.plain (OpenSpec.upto soundHaltsSpec)) soundHaltsUptoCard

/-- THE SECOND FORM's CARD OF 'norialaw34.SoundAll'. -/
def soundAllUptoCard : Claim7 := { stood := { row := soundAllUptoRow, standIns := [], harness := (true, "92a5775a05fe5720c6c544d50e2af9b77106ce30d19cd6b66abdfdabaacd809d"), looks := false }, kinds := [], alts := [], laidByText := true, laidKinds := [.data, .pinned], laidTests := true, laidLooks := .later }
def SoundAllUptoCardSaid : Prop := Claim7.holds Tryz.pinned (.plain (OpenSpec.upto soundAllSpec)) soundAllUptoCard
end Rows
end Go.Proofs.YtmmcmfcnpfbifaaGreatDoor
