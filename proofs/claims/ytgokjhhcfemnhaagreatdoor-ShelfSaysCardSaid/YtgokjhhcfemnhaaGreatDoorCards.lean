/-
  DERIVED. GIVEN WITH THE SEED: THE CARDS: each row of YtgokjhhcfemnhaaGreatDoorRows.lean that lists a variable, with what it lists TIED to the program's text (the seventh form; the later family's looks); each row that meets fmt, with fmt's text TOLD by the authors' own Lean function (tested against real Go, not proved from fmt's source: count such statements apart). THE CARD IS WHAT COUNTS. Prove the row's statement (the work); the ties are given (YtgokjhhcfemnhaaGreatDoorTie.lean); close each card by the builder's one call (the guide's Derived/Test/ToyasCard.lean, 'card_holds'). Laid BY PROGRAM, IN A SANDBOX (cutbox-door.mjs). By AI agents, Wed Nov 11 2026. No macro, syntax, notation, axiom, sorry.
-/
import Derived.Test.YtgokjhhcfemnhaaGreatDoorRows
import GoSem.ClaimSeven
namespace Go.Proofs.YtgokjhhcfemnhaaGreatDoor
namespace Rows

/-- THE TIED CARD OF 'marlinspikelaw.ShelfSays'. -/
def shelfSaysCard : Claim7 := { stood := { row := shelfSaysRow, standIns := [], harness := (true, "e38ec6478babe08333945fe4633e79946dcc9369f26e0deb9e463de81cb3737d"), looks := true }, kinds := [], alts := [], laidByText := true, laidKinds := [.data, .data, .data, .data, .sentinel, .sentinel, .pinned], laidTests := true, laidLooks := .later }
def ShelfSaysCardSaid : Prop := Claim7.holds Tryz.pinned (.plain (OpenSpec.ofChange shelfSaysSpec)) shelfSaysCard

/-- THE TIED CARD OF 'marlinspikelaw.ScopeSays'. -/
def scopeSaysCard : Claim7 := { stood := { row := scopeSaysRow, standIns := [], harness := (true, "e38ec6478babe08333945fe4633e79946dcc9369f26e0deb9e463de81cb3737d"), looks := true }, kinds := [], alts := [], laidByText := true, laidKinds := [.data, .data, .data, .data, .sentinel, .sentinel, .pinned], laidTests := true, laidLooks := .later }
def ScopeSaysCardSaid : Prop := Claim7.holds Tryz.pinned (.plain (OpenSpec.ofChange scopeSaysSpec)) scopeSaysCard

/-- THE TIED CARD OF 'marlinspikelaw.ImageSays'. -/
def imageSaysCard : Claim7 := { stood := { row := imageSaysRow, standIns := [], harness := (true, "e38ec6478babe08333945fe4633e79946dcc9369f26e0deb9e463de81cb3737d"), looks := true }, kinds := [], alts := [], laidByText := true, laidKinds := [.data, .data, .data, .data, .sentinel, .sentinel, .pinned], laidTests := true, laidLooks := .later }
def ImageSaysCardSaid : Prop := Claim7.holds Tryz.pinned (.plain (OpenSpec.ofChange imageSaysSpec)) imageSaysCard

/-- THE SECOND FORM's CARD OF 'marlinspikelaw.ShelfSays'. -/
def shelfSaysUptoCard : Claim7 := { stood := { row := shelfSaysUptoRow, standIns := [], harness := (true, "e38ec6478babe08333945fe4633e79946dcc9369f26e0deb9e463de81cb3737d"), looks := true }, kinds := [], alts := [], laidByText := true, laidKinds := [.data, .data, .data, .data, .sentinel, .sentinel, .pinned], laidTests := true, laidLooks := .later }
def ShelfSaysUptoCardSaid : Prop := Claim7.holds Tryz.pinned (.plain (OpenSpec.upto shelfSaysSpec)) shelfSaysUptoCard

/-- THE SECOND FORM's CARD OF 'marlinspikelaw.ScopeSays'. -/
def scopeSaysUptoCard : Claim7 := { stood := { row := scopeSaysUptoRow, standIns := [], harness := (true, "e38ec6478babe08333945fe4633e79946dcc9369f26e0deb9e463de81cb3737d"), looks := true }, kinds := [], alts := [], laidByText := true, laidKinds := [.data, .data, .data, .data, .sentinel, .sentinel, .pinned], laidTests := true, laidLooks := .later }
def ScopeSaysUptoCardSaid : Prop := Claim7.holds Tryz.pinned (.plain (OpenSpec.upto scopeSaysSpec)) scopeSaysUptoCard

/-- THE SECOND FORM's CARD OF 'marlinspikelaw.ImageSays'. -/
def imageSaysUptoCard : Claim7 := { stood := { row := imageSaysUptoRow, standIns := [], harness := (true, "e38ec6478babe08333945fe4633e79946dcc9369f26e0deb9e463de81cb3737d"), looks := true }, kinds := [], alts := [], laidByText := true, laidKinds := [.data, .data, .data, .data, .sentinel, .sentinel, .pinned], laidTests := true, laidLooks := .later }
def ImageSaysUptoCardSaid : Prop := Claim7.holds Tryz.pinned (.plain (OpenSpec.upto imageSaysSpec)) imageSaysUptoCard
end Rows
end Go.Proofs.YtgokjhhcfemnhaaGreatDoor
