/-
  DERIVED. GIVEN WITH THE SEED: THE CARDS: each row of YtgokjhhcfemnhaaDoorRows.lean that lists a variable, with what it lists TIED to the program's text (the seventh form; the later family's looks); each row that meets fmt, with fmt's text TOLD by the authors' own Lean function (tested against real Go, not proved from fmt's source: count such statements apart). THE CARD IS WHAT COUNTS. Prove the row's statement (the work); the ties are given (YtgokjhhcfemnhaaDoorTie.lean); close each card by the builder's one call (the guide's Derived/Test/ToyasCard.lean, 'card_holds'). Laid BY PROGRAM, IN A SANDBOX (cutbox-door.mjs). By AI agents, Wed Nov 11 2026. No macro, syntax, notation, axiom, sorry.
-/
import Derived.Test.YtgokjhhcfemnhaaDoorRows
import GoSem.ClaimSeven
namespace Go.Proofs.YtgokjhhcfemnhaaDoor
namespace Rows

/-- THE TIED CARD OF 'marlinspikelaw.Names'. -/
def namesCard : Claim7 := { stood := { row := namesRow, standIns := [], harness := (true, "ef8785a8e46de7806839c45da0b5e5d473e64e64fb9a5dcbf5be052d74c8f2a0"), looks := true }, kinds := [], alts := [], laidByText := true, laidKinds := [.data, .data, .data], laidTests := true, laidLooks := .later }
def NamesCardSaid : Prop := Claim7.holds Tryd.pinned (.plain (OpenSpec.ofChange namesSpec)) namesCard

/-- THE TIED CARD OF 'marlinspikelaw.ObjectSays'. -/
def objectSaysCard : Claim7 := { stood := { row := objectSaysRow, standIns := [], harness := (true, "ef8785a8e46de7806839c45da0b5e5d473e64e64fb9a5dcbf5be052d74c8f2a0"), looks := true }, kinds := [], alts := [], laidByText := true, laidKinds := [.data, .data, .data, .data, .sentinel, .sentinel, .pinned], laidTests := true, laidLooks := .later }
def ObjectSaysCardSaid : Prop := Claim7.holds Tryd.pinned (.plain (OpenSpec.ofChange objectSaysSpec)) objectSaysCard

/-- THE SECOND FORM's CARD OF 'marlinspikelaw.Names'. -/
def namesUptoCard : Claim7 := { stood := { row := namesUptoRow, standIns := [], harness := (true, "ef8785a8e46de7806839c45da0b5e5d473e64e64fb9a5dcbf5be052d74c8f2a0"), looks := true }, kinds := [], alts := [], laidByText := true, laidKinds := [.data, .data, .data], laidTests := true, laidLooks := .later }
def NamesUptoCardSaid : Prop := Claim7.holds Tryd.pinned (.plain (OpenSpec.upto namesSpec)) namesUptoCard

/-- THE SECOND FORM's CARD OF 'marlinspikelaw.ObjectSays'. -/
def objectSaysUptoCard : Claim7 := { stood := { row := objectSaysUptoRow, standIns := [], harness := (true, "ef8785a8e46de7806839c45da0b5e5d473e64e64fb9a5dcbf5be052d74c8f2a0"), looks := true }, kinds := [], alts := [], laidByText := true, laidKinds := [.data, .data, .data, .data, .sentinel, .sentinel, .pinned], laidTests := true, laidLooks := .later }
def ObjectSaysUptoCardSaid : Prop := Claim7.holds Tryd.pinned (.plain (OpenSpec.upto objectSaysSpec)) objectSaysUptoCard
end Rows
end Go.Proofs.YtgokjhhcfemnhaaDoor
