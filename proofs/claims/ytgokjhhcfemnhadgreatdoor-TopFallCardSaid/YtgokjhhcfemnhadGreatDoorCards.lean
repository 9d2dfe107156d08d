/-
  DERIVED. GIVEN WITH THE SEED: THE CARDS: each row of YtgokjhhcfemnhadGreatDoorRows.lean that lists a variable, with what it lists TIED to the program's text (the seventh form; the later family's looks); each row that meets fmt, with fmt's text TOLD by the authors' own Lean function (tested against real Go, not proved from fmt's source: count such statements apart). THE CARD IS WHAT COUNTS. Prove the row's statement (the work); the ties are given (YtgokjhhcfemnhadGreatDoorTie.lean); close each card by the builder's one call (the guide's Derived/Test/ToyasCard.lean, 'card_holds'). Laid BY PROGRAM, IN A SANDBOX (cutbox-door.mjs). By AI agents, Wed Nov 11 2026. No macro, syntax, notation, axiom, sorry.
-/
import Derived.Test.YtgokjhhcfemnhadGreatDoorRows
import GoSem.ClaimSeven
namespace Go.Proofs.YtgokjhhcfemnhadGreatDoor
namespace Rows

/-- THE TIED CARD OF 'marlinspiketop.TopFresh'. -/
def topFreshCard : Claim7 := { stood := { row := topFreshRow, standIns := [], harness := (true, "3c5c196b774b4365299062fcc3dd1242738f58e7d9c08bc0263c732c0257cea6"), looks := true }, kinds := [], alts := [], laidByText := true, laidKinds := [.data, .data, .data, .data, .sentinel, .sentinel, .pinned], laidTests := true, laidLooks := .later }
def TopFreshCardSaid : Prop := Claim7.holds Tryz.pinned (.plain (OpenSpec.ofChange topFreshSpec)) topFreshCard

/-- THE TIED CARD OF 'marlinspiketop.TopDrop'. -/
def topDropCard : Claim7 := { stood := { row := topDropRow, standIns := [], harness := (true, "3c5c196b774b4365299062fcc3dd1242738f58e7d9c08bc0263c732c0257cea6"), looks := true }, kinds := [], alts := [], laidByText := true, laidKinds := [.data, .data, .data, .data, .sentinel, .sentinel, .pinned], laidTests := true, laidLooks := .later }
def TopDropCardSaid : Prop := Claim7.holds Tryz.pinned (.plain (OpenSpec.ofChange topDropSpec)) topDropCard

/-- THE TIED CARD OF 'marlinspiketop.TopFall'. -/
def topFallCard : Claim7 := { stood := { row := topFallRow, standIns := [], harness := (true, "3c5c196b774b4365299062fcc3dd1242738f58e7d9c08bc0263c732c0257cea6"), looks := true }, kinds := [], alts := [], laidByText := true, laidKinds := [.data, .data, .data, .data, .sentinel, .sentinel, .pinned], laidTests := true, laidLooks := .later }
def TopFallCardSaid : Prop := Claim7.holds Tryz.pinned (.plain (OpenSpec.ofChange topFallSpec)) topFallCard

/-- THE TIED CARD OF 'marlinspiketop.TopAgain'. -/
def topAgainCard : Claim7 := { stood := { row := topAgainRow, standIns := [], harness := (true, "3c5c196b774b4365299062fcc3dd1242738f58e7d9c08bc0263c732c0257cea6"), looks := true }, kinds := [], alts := [], laidByText := true, laidKinds := [.data, .data, .data, .data, .sentinel, .sentinel, .pinned], laidTests := true, laidLooks := .later }
def TopAgainCardSaid : Prop := Claim7.holds Tryz.pinned (.plain (OpenSpec.ofChange topAgainSpec)) topAgainCard

/-- THE SECOND FORM's CARD OF 'marlinspiketop.TopFresh'. -/
def topFreshUptoCard : Claim7 := { stood := { row := topFreshUptoRow, standIns := [], harness := (true, "3c5c196b774b4365299062fcc3dd1242738f58e7d9c08bc0263c732c0257cea6"), looks := true }, kinds := [], alts := [], laidByText := true, laidKinds := [.data, .data, .data, .data, .sentinel, .sentinel, .pinned], laidTests := true, laidLooks := .later }
def TopFreshUptoCardSaid : Prop := Claim7.holds Tryz.pinned (.plain (OpenSpec.upto topFreshSpec)) topFreshUptoCard

/-- THE SECOND FORM's CARD OF 'marlinspiketop.TopDrop'. -/
def topDropUptoCard : Claim7 := { stood := { row := topDropUptoRow, standIns := [], harness := (true, "3c5c196b774b4365299062fcc3dd1242738f58e7d9c08bc0263c732c0257cea6"), looks := true }, kinds := [], alts := [], laidByText := true, laidKinds := [.data, .data, .data, .data, .sentinel, .sentinel, .pinned], laidTests := true, laidLooks := .later }
def TopDropUptoCardSaid : Prop := Claim7.holds Tryz.pinned (.plain (OpenSpec.upto topDropSpec)) topDropUptoCard

/-- THE SECOND FORM's CARD OF 'marlinspiketop.TopFall'. -/
def topFallUptoCard : Claim7 := { stood := { row := topFallUptoRow, standIns := [], harness := (true, "3c5c196b774b4365299062fcc3dd1242738f58e7d9c08bc0263c732c0257cea6"), looks := true }, kinds := [], alts := [], laidByText := true, laidKinds := [.data, .data, .data, .data, .sentinel, .sentinel, .pinned], laidTests := true, laidLooks := .later }
def TopFallUptoCardSaid : Prop := Claim7.holds Tryz.pinned (.plain (OpenSpec.upto topFallSpec)) topFallUptoCard

/-- THE SECOND FORM's CARD OF 'marlinspiketop.TopAgain'. -/
def topAgainUptoCard : Claim7 := { stood := { row := topAgainUptoRow, standIns := [], harness := (true, "3c5c196b774b4365299062fcc3dd1242738f58e7d9c08bc0263c732c0257cea6"), looks := true }, kinds := [], alts := [], laidByText := true, laidKinds := [.data, .data, .data, .data, .sentinel, .sentinel, .pinned], laidTests := true, laidLooks := .later }
def TopAgainUptoCardSaid : Prop := Claim7.holds Tryz.pinned (.plain (OpenSpec.upto topAgainSpec)) topAgainUptoCard
end Rows
end Go.Proofs.YtgokjhhcfemnhadGreatDoor
