/-
  DERIVED. GIVEN WITH THE SEED: THE CARDS: each row of YtgokjhhcfemnhacDoorRows.lean that lists a variable, with what it lists TIED to the program's text (the seventh form; the later family's looks); each row that meets fmt, with fmt's text TOLD by the authors' own Lean function (tested against real Go, not proved from fmt's source: count such statements apart). THE CARD IS WHAT COUNTS. Prove the row's statement (the work); the ties are given (YtgokjhhcfemnhacDoorTie.lean); close each card by the builder's one call (the guide's Derived/Test/ToyasCard.lean, 'card_holds'). Laid BY PROGRAM, IN A SANDBOX (cutbox-door.mjs). By AI agents, Wed Nov 11 2026. No macro, syntax, notation, axiom, sorry.
-/
import Derived.Test.YtgokjhhcfemnhacDoorRows
import GoSem.ClaimSeven
namespace Go.Proofs.YtgokjhhcfemnhacDoor
namespace Rows

/-- THE TIED CARD OF 'marlinspiketop.TopText'. -/
def topTextCard : Claim7 := { stood := { row := topTextRow, standIns := [], harness := (true, "3ae5d83ab2c43b541dce7104a51828822da873c8263d1ff47f10708efe6775d8"), looks := true }, kinds := [], alts := [], laidByText := true, laidKinds := [.data, .data, .data, .data, .sentinel, .sentinel, .pinned], laidTests := true, laidLooks := .later }
def TopTextCardSaid : Prop := Claim7.holds Tryd.pinned (.plain (OpenSpec.ofChange topTextSpec)) topTextCard

/-- THE TIED CARD OF 'marlinspiketop.TopScope'. -/
def topScopeCard : Claim7 := { stood := { row := topScopeRow, standIns := [], harness := (true, "3ae5d83ab2c43b541dce7104a51828822da873c8263d1ff47f10708efe6775d8"), looks := true }, kinds := [], alts := [], laidByText := true, laidKinds := [.data, .data, .data, .data, .sentinel, .sentinel, .pinned], laidTests := true, laidLooks := .later }
def TopScopeCardSaid : Prop := Claim7.holds Tryd.pinned (.plain (OpenSpec.ofChange topScopeSpec)) topScopeCard

/-- THE SECOND FORM's CARD OF 'marlinspiketop.TopText'. -/
def topTextUptoCard : Claim7 := { stood := { row := topTextUptoRow, standIns := [], harness := (true, "3ae5d83ab2c43b541dce7104a51828822da873c8263d1ff47f10708efe6775d8"), looks := true }, kinds := [], alts := [], laidByText := true, laidKinds := [.data, .data, .data, .data, .sentinel, .sentinel, .pinned], laidTests := true, laidLooks := .later }
def TopTextUptoCardSaid : Prop := Claim7.holds Tryd.pinned (.plain (OpenSpec.upto topTextSpec)) topTextUptoCard

/-- THE SECOND FORM's CARD OF 'marlinspiketop.TopScope'. -/
def topScopeUptoCard : Claim7 := { stood := { row := topScopeUptoRow, standIns := [], harness := (true, "3ae5d83ab2c43b541dce7104a51828822da873c8263d1ff47f10708efe6775d8"), looks := true }, kinds := [], alts := [], laidByText := true, laidKinds := [.data, .data, .data, .data, .sentinel, .sentinel, .pinned], laidTests := true, laidLooks := .later }
def TopScopeUptoCardSaid : Prop := Claim7.holds Tryd.pinned (.plain (OpenSpec.upto topScopeSpec)) topScopeUptoCard
end Rows
end Go.Proofs.YtgokjhhcfemnhacDoor
