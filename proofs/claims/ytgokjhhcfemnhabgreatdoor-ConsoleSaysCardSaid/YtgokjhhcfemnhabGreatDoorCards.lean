/-
  DERIVED. GIVEN WITH THE SEED: THE CARDS: each row of YtgokjhhcfemnhabGreatDoorRows.lean that lists a variable, with what it lists TIED to the program's text (the seventh form; the later family's looks); each row that meets fmt, with fmt's text TOLD by the authors' own Lean function (tested against real Go, not proved from fmt's source: count such statements apart). THE CARD IS WHAT COUNTS. Prove the row's statement (the work); the ties are given (YtgokjhhcfemnhabGreatDoorTie.lean); close each card by the builder's one call (the guide's Derived/Test/ToyasCard.lean, 'card_holds'). Laid BY PROGRAM, IN A SANDBOX (cutbox-door.mjs). By AI agents, Wed Nov 11 2026. No macro, syntax, notation, axiom, sorry.
-/
import Derived.Test.YtgokjhhcfemnhabGreatDoorRows
import GoSem.ClaimSeven
namespace Go.Proofs.YtgokjhhcfemnhabGreatDoor
namespace Rows

/-- THE TIED CARD OF 'marlinspikelaw.LoaderSays'. -/
def loaderSaysCard : Claim7 := { stood := { row := loaderSaysRow, standIns := [], harness := (true, "64b551b93bc23007624950252e9486f0c7d9283b8d81061eb003e81ef0f36483"), looks := true }, kinds := [], alts := [], laidByText := true, laidKinds := [.data, .data, .data, .data, .sentinel, .sentinel, .pinned], laidTests := true, laidLooks := .later }
def LoaderSaysCardSaid : Prop := Claim7.holds Tryz.pinned (.plain (OpenSpec.ofChange loaderSaysSpec)) loaderSaysCard

/-- THE TIED CARD OF 'marlinspikelaw.EntrySays'. -/
def entrySaysCard : Claim7 := { stood := { row := entrySaysRow, standIns := [], harness := (true, "64b551b93bc23007624950252e9486f0c7d9283b8d81061eb003e81ef0f36483"), looks := true }, kinds := [], alts := [], laidByText := true, laidKinds := [.data, .data, .data, .data, .sentinel, .sentinel, .pinned], laidTests := true, laidLooks := .later }
def EntrySaysCardSaid : Prop := Claim7.holds Tryz.pinned (.plain (OpenSpec.ofChange entrySaysSpec)) entrySaysCard

/-- THE TIED CARD OF 'marlinspikelaw.ConsoleSays'. -/
def consoleSaysCard : Claim7 := { stood := { row := consoleSaysRow, standIns := [], harness := (true, "64b551b93bc23007624950252e9486f0c7d9283b8d81061eb003e81ef0f36483"), looks := true }, kinds := [], alts := [], laidByText := true, laidKinds := [.data, .data, .data, .data, .sentinel, .sentinel, .pinned], laidTests := true, laidLooks := .later }
def ConsoleSaysCardSaid : Prop := Claim7.holds Tryz.pinned (.plain (OpenSpec.ofChange consoleSaysSpec)) consoleSaysCard

/-- THE SECOND FORM's CARD OF 'marlinspikelaw.LoaderSays'. -/
def loaderSaysUptoCard : Claim7 := { stood := { row := loaderSaysUptoRow, standIns := [], harness := (true, "64b551b93bc23007624950252e9486f0c7d9283b8d81061eb003e81ef0f36483"), looks := true }, kinds := [], alts := [], laidByText := true, laidKinds := [.data, .data, .data, .data, .sentinel, .sentinel, .pinned], laidTests := true, laidLooks := .later }
def LoaderSaysUptoCardSaid : Prop := Claim7.holds Tryz.pinned (.plain (OpenSpec.upto loaderSaysSpec)) loaderSaysUptoCard

/-- THE SECOND FORM's CARD OF 'marlinspikelaw.EntrySays'. -/
def entrySaysUptoCard : Claim7 := { stood := { row := entrySaysUptoRow, standIns := [], harness := (true, "64b551b93bc23007624950252e9486f0c7d9283b8d81061eb003e81ef0f36483"), looks := true }, kinds := [], alts := [], laidByText := true, laidKinds := [.data, .data, .data, .data, .sentinel, .sentinel, .pinned], laidTests := true, laidLooks := .later }
def EntrySaysUptoCardSaid : Prop := Claim7.holds Tryz.pinned (.plain (OpenSpec.upto entrySaysSpec)) entrySaysUptoCard

/-- THE SECOND FORM's CARD OF 'marlinspikelaw.ConsoleSays'. -/
def consoleSaysUptoCard : Claim7 := { stood := { row := consoleSaysUptoRow, standIns := [], harness := (true, "64b551b93bc23007624950252e9486f0c7d9283b8d81061eb003e81ef0f36483"), looks := true }, kinds := [], alts := [], laidByText := true, laidKinds := [.data, .data, .data, .data, .sentinel, .sentinel, .pinned], laidTests := true, laidLooks := .later }
def ConsoleSaysUptoCardSaid : Prop := Claim7.holds Tryz.pinned (.plain (OpenSpec.upto consoleSaysSpec)) consoleSaysUptoCard
end Rows
end Go.Proofs.YtgokjhhcfemnhabGreatDoor
