/-
  No cell of these rows narrows 'for every input' (looked for: loops, veiled, ifaces, maps, wideKeys, modest, calm, conditions, laid).
  DERIVED. THE GIVEN ROWS OF THIS SEAT. 8 by the template 'for every input the law returns true; each argument reads behind the call as it read before'; 0 by the template 'total and deterministic' (their statements: YtgokjhhcfemnhabTotals.lean).
  GIVEN WITH THE SEED: the statements are not yours to turn. If you find one false, say at which input.
  Laid BY PROGRAM, IN A SANDBOX (cutbox-rows.mjs): the forced cells as the released guide's own fill.sh prints them over the translation 382a65a9fac69e2a… (all of the seat's roots in one cut). By AI agents, Wed Nov 11 2026. No macro, syntax, notation, axiom, sorry.
-/
import Derived.Test.YtgokjhhcfemnhabChecked
import GoSem.Claim
import GoSem.ClaimJoined
import GoSem.ClaimMapViews
import Derived.JoinedTies
import Derived.KernelRfl
namespace Go.Proofs.Ytgokjhhcfemnhab
/- THE CELL 'sum', in the pinned program and in every row, IS THE sha256 OF THE DUMP (.gsa) THAT YtgokjhhcfemnhabProg.lean LOADS. Nothing in Lean hashes anything: it is a label: what it is worth is what the hold of that sum in a sandbox is worth. -/
noncomputable def Try.pinned : Pinned := { name := "ytgokjhhcfemnhab", sum := "382a65a9fac69e2ad00df0fd7dd37156e87cf3134e58931d9111b826f8e7f8a1", checked := Try.checked }
namespace Rows
def none {H : Type} : Left H := { results := [], args := [] }

/-- 'marlinspiketop.TopPatch': WHATEVER THE INPUT: true; the input reads as it did. -/
def topPatchSpec : ChangeSpec := { name := "topPatch", fn := fun _ => fun
  | [d1, d2] => { results := [.lit (.bool true)], args := [d1, d2] }
  | _ => none }
def topPatchRow : OpenClaim := { program := "ytgokjhhcfemnhab", sum := "382a65a9fac69e2ad00df0fd7dd37156e87cf3134e58931d9111b826f8e7f8a1", func := "marlinspike/marlinspiketop.TopPatch", spec := "topPatch", apart := false }
def TopPatchSaid : Prop := topPatchRow.holds Try.pinned (OpenSpec.ofChange topPatchSpec)

/-- ITS FALSE NEIGHBOUR: 'it returns false'. Refute it at one input. -/
def topPatchWrong : ChangeSpec := { name := "topPatch", fn := fun _ => fun
  | [d1, d2] => { results := [.lit (.bool false)], args := [d1, d2] }
  | _ => none }
def TopPatchWrongFalsely : Prop := topPatchRow.holds Try.pinned (OpenSpec.ofChange topPatchWrong)

/-- 'marlinspiketop.TopFind': WHATEVER THE INPUT: true; the input reads as it did. -/
def topFindSpec : ChangeSpec := { name := "topFind", fn := fun _ => fun
  | [d1, d2] => { results := [.lit (.bool true)], args := [d1, d2] }
  | _ => none }
def topFindRow : OpenClaim := { program := "ytgokjhhcfemnhab", sum := "382a65a9fac69e2ad00df0fd7dd37156e87cf3134e58931d9111b826f8e7f8a1", func := "marlinspike/marlinspiketop.TopFind", spec := "topFind", apart := false }
def TopFindSaid : Prop := topFindRow.holds Try.pinned (OpenSpec.ofChange topFindSpec)

/-- ITS FALSE NEIGHBOUR: 'it returns false'. Refute it at one input. -/
def topFindWrong : ChangeSpec := { name := "topFind", fn := fun _ => fun
  | [d1, d2] => { results := [.lit (.bool false)], args := [d1, d2] }
  | _ => none }
def TopFindWrongFalsely : Prop := topFindRow.holds Try.pinned (OpenSpec.ofChange topFindWrong)

/-- 'marlinspiketop.TopWeak': WHATEVER THE INPUT: true; the input reads as it did. -/
def topWeakSpec : ChangeSpec := { name := "topWeak", fn := fun _ => fun
  | [d1, d2, d3, d4] => { results := [.lit (.bool true)], args := [d1, d2, d3, d4] }
  | _ => none }
def topWeakRow : OpenClaim := { program := "ytgokjhhcfemnhab", sum := "382a65a9fac69e2ad00df0fd7dd37156e87cf3134e58931d9111b826f8e7f8a1", func := "marlinspike/marlinspiketop.TopWeak", spec := "topWeak", apart := false }
def TopWeakSaid : Prop := topWeakRow.holds Try.pinned (OpenSpec.ofChange topWeakSpec)

/-- ITS FALSE NEIGHBOUR: 'it returns false'. Refute it at one input. -/
def topWeakWrong : ChangeSpec := { name := "topWeak", fn := fun _ => fun
  | [d1, d2, d3, d4] => { results := [.lit (.bool false)], args := [d1, d2, d3, d4] }
  | _ => none }
def TopWeakWrongFalsely : Prop := topWeakRow.holds Try.pinned (OpenSpec.ofChange topWeakWrong)

/-- 'marlinspiketop.TopTable': WHATEVER THE INPUT: true; the input reads as it did. -/
def topTableSpec : ChangeSpec := { name := "topTable", fn := fun _ => fun
  | [d1, d2, d3] => { results := [.lit (.bool true)], args := [d1, d2, d3] }
  | _ => none }
def topTableRow : OpenClaim := { program := "ytgokjhhcfemnhab", sum := "382a65a9fac69e2ad00df0fd7dd37156e87cf3134e58931d9111b826f8e7f8a1", func := "marlinspike/marlinspiketop.TopTable", spec := "topTable", apart := false }
def TopTableSaid : Prop := topTableRow.holds Try.pinned (OpenSpec.ofChange topTableSpec)

/-- ITS FALSE NEIGHBOUR: 'it returns false'. Refute it at one input. -/
def topTableWrong : ChangeSpec := { name := "topTable", fn := fun _ => fun
  | [d1, d2, d3] => { results := [.lit (.bool false)], args := [d1, d2, d3] }
  | _ => none }
def TopTableWrongFalsely : Prop := topTableRow.holds Try.pinned (OpenSpec.ofChange topTableWrong)

/-- 'marlinspiketop.TopApart': WHATEVER THE INPUT: true; the input reads as it did. -/
def topApartSpec : ChangeSpec := { name := "topApart", fn := fun _ => fun
  | [d1, d2] => { results := [.lit (.bool true)], args := [d1, d2] }
  | _ => none }
def topApartRow : OpenClaim := { program := "ytgokjhhcfemnhab", sum := "382a65a9fac69e2ad00df0fd7dd37156e87cf3134e58931d9111b826f8e7f8a1", func := "marlinspike/marlinspiketop.TopApart", spec := "topApart", unfollowed := true, recurses := true, apart := false }
def TopApartSaid : Prop := topApartRow.holds Try.pinned (OpenSpec.ofChange topApartSpec)

/-- ITS FALSE NEIGHBOUR: 'it returns false'. Refute it at one input. -/
def topApartWrong : ChangeSpec := { name := "topApart", fn := fun _ => fun
  | [d1, d2] => { results := [.lit (.bool false)], args := [d1, d2] }
  | _ => none }
def TopApartWrongFalsely : Prop := topApartRow.holds Try.pinned (OpenSpec.ofChange topApartWrong)

/-- 'marlinspiketop.TopFull': WHATEVER THE INPUT: true; the input reads as it did. -/
def topFullSpec : ChangeSpec := { name := "topFull", fn := fun _ => fun
  | [d] => { results := [.lit (.bool true)], args := [d] }
  | _ => none }
def topFullRow : OpenClaim := { program := "ytgokjhhcfemnhab", sum := "382a65a9fac69e2ad00df0fd7dd37156e87cf3134e58931d9111b826f8e7f8a1", func := "marlinspike/marlinspiketop.TopFull", spec := "topFull", unfollowed := true, recurses := true, apart := false }
def TopFullSaid : Prop := topFullRow.holds Try.pinned (OpenSpec.ofChange topFullSpec)

/-- ITS FALSE NEIGHBOUR: 'it returns false'. Refute it at one input. -/
def topFullWrong : ChangeSpec := { name := "topFull", fn := fun _ => fun
  | [d] => { results := [.lit (.bool false)], args := [d] }
  | _ => none }
def TopFullWrongFalsely : Prop := topFullRow.holds Try.pinned (OpenSpec.ofChange topFullWrong)

/-- 'marlinspiketop.TopDisk': WHATEVER THE INPUT: true; the input reads as it did. -/
def topDiskSpec : ChangeSpec := { name := "topDisk", fn := fun _ => fun
  | [d1, d2, d3] => { results := [.lit (.bool true)], args := [d1, d2, d3] }
  | _ => none }
def topDiskRow : OpenClaim := { program := "ytgokjhhcfemnhab", sum := "382a65a9fac69e2ad00df0fd7dd37156e87cf3134e58931d9111b826f8e7f8a1", func := "marlinspike/marlinspiketop.TopDisk", spec := "topDisk", apart := false }
def TopDiskSaid : Prop := topDiskRow.holds Try.pinned (OpenSpec.ofChange topDiskSpec)

/-- ITS FALSE NEIGHBOUR: 'it returns false'. Refute it at one input. -/
def topDiskWrong : ChangeSpec := { name := "topDisk", fn := fun _ => fun
  | [d1, d2, d3] => { results := [.lit (.bool false)], args := [d1, d2, d3] }
  | _ => none }
def TopDiskWrongFalsely : Prop := topDiskRow.holds Try.pinned (OpenSpec.ofChange topDiskWrong)

/-- 'marlinspiketop.TopStamp': WHATEVER THE INPUT: true; the input reads as it did. -/
def topStampSpec : ChangeSpec := { name := "topStamp", fn := fun _ => fun
  | [d1, d2, d3] => { results := [.lit (.bool true)], args := [d1, d2, d3] }
  | _ => none }
def topStampRow : OpenClaim := { program := "ytgokjhhcfemnhab", sum := "382a65a9fac69e2ad00df0fd7dd37156e87cf3134e58931d9111b826f8e7f8a1", func := "marlinspike/marlinspiketop.TopStamp", spec := "topStamp", recurses := true, apart := false }
def TopStampSaid : Prop := topStampRow.holds Try.pinned (OpenSpec.ofChange topStampSpec)

/-- ITS FALSE NEIGHBOUR: 'it returns false'. Refute it at one input. -/
def topStampWrong : ChangeSpec := { name := "topStamp", fn := fun _ => fun
  | [d1, d2, d3] => { results := [.lit (.bool false)], args := [d1, d2, d3] }
  | _ => none }
def TopStampWrongFalsely : Prop := topStampRow.holds Try.pinned (OpenSpec.ofChange topStampWrong)

/- THE SECOND FORM. 'bulk': how many values and letters a reading holds, each counted each time it is reached (what is shared counts as often as it is met; a slice's spare places count too). A statement '..UptoSaid' is the law's where the arguments, and the package variables that the reading takes, are together of bulk at most 1048576: NARROWER than '..Said'. Prove '..Said' where nothing that the law and all that it calls make is longer than what came in: it says more and counts as full. Else prove '..UptoSaid'. A law counts once. -/
mutual
def uptoBulk {H : Type} : DataW H → Nat
  | .lit (.string bytes) => bytes.length + 1
  | .lit _ => 1
  | .nil => 1
  | .ptr d => uptoBulk d + 1
  | .slice elems spare => uptoBulkAll elems + uptoBulkAll spare + 1
  | .agg parts => uptoBulkAll parts + 1
  | .iface _ d => uptoBulk d + 1
  | .map entries => uptoBulkEntries entries + 1
  | .held _ => 1
def uptoBulkAll {H : Type} : List (DataW H) → Nat
  | [] => 0
  | d :: r => uptoBulk d + uptoBulkAll r
def uptoBulkEntries {H : Type} : List (Lit × DataW H) → Nat
  | [] => 0
  | x :: r => uptoBulkEntry x + uptoBulkEntries r
def uptoBulkEntry {H : Type} : Lit × DataW H → Nat
  | (.string bytes, d) => bytes.length + uptoBulk d + 1
  | (_, d) => uptoBulk d + 1
 end
def uptoSmall : (H : Type) → List (DataW H) → Bool := fun _ ds => decide (uptoBulkAll ds ≤ 1048576)
def OpenSpec.upto (s : _root_.Go.ChangeSpec) : _root_.Go.OpenSpec := { _root_.Go.OpenSpec.ofChange s with cond := some uptoSmall }

/-- 'marlinspiketop.TopPatch', WHERE WHAT IT READS IS OF BULK AT MOST 1048576: true; the input reads as it did. -/
def topPatchUptoRow : OpenClaim := { program := "ytgokjhhcfemnhab", sum := "382a65a9fac69e2ad00df0fd7dd37156e87cf3134e58931d9111b826f8e7f8a1", func := "marlinspike/marlinspiketop.TopPatch", spec := "topPatch", apart := false, narrowed := true }
def TopPatchUptoSaid : Prop := topPatchUptoRow.holds Try.pinned (OpenSpec.upto topPatchSpec)

/-- 'marlinspiketop.TopFind', WHERE WHAT IT READS IS OF BULK AT MOST 1048576: true; the input reads as it did. -/
def topFindUptoRow : OpenClaim := { program := "ytgokjhhcfemnhab", sum := "382a65a9fac69e2ad00df0fd7dd37156e87cf3134e58931d9111b826f8e7f8a1", func := "marlinspike/marlinspiketop.TopFind", spec := "topFind", apart := false, narrowed := true }
def TopFindUptoSaid : Prop := topFindUptoRow.holds Try.pinned (OpenSpec.upto topFindSpec)

/-- 'marlinspiketop.TopWeak', WHERE WHAT IT READS IS OF BULK AT MOST 1048576: true; the input reads as it did. -/
def topWeakUptoRow : OpenClaim := { program := "ytgokjhhcfemnhab", sum := "382a65a9fac69e2ad00df0fd7dd37156e87cf3134e58931d9111b826f8e7f8a1", func := "marlinspike/marlinspiketop.TopWeak", spec := "topWeak", apart := false, narrowed := true }
def TopWeakUptoSaid : Prop := topWeakUptoRow.holds Try.pinned (OpenSpec.upto topWeakSpec)

/-- 'marlinspiketop.TopTable', WHERE WHAT IT READS IS OF BULK AT MOST 1048576: true; the input reads as it did. -/
def topTableUptoRow : OpenClaim := { program := "ytgokjhhcfemnhab", sum := "382a65a9fac69e2ad00df0fd7dd37156e87cf3134e58931d9111b826f8e7f8a1", func := "marlinspike/marlinspiketop.TopTable", spec := "topTable", apart := false, narrowed := true }
def TopTableUptoSaid : Prop := topTableUptoRow.holds Try.pinned (OpenSpec.upto topTableSpec)

/-- 'marlinspiketop.TopApart', WHERE WHAT IT READS IS OF BULK AT MOST 1048576: true; the input reads as it did. -/
def topApartUptoRow : OpenClaim := { program := "ytgokjhhcfemnhab", sum := "382a65a9fac69e2ad00df0fd7dd37156e87cf3134e58931d9111b826f8e7f8a1", func := "marlinspike/marlinspiketop.TopApart", spec := "topApart", unfollowed := true, recurses := true, apart := false, narrowed := true }
def TopApartUptoSaid : Prop := topApartUptoRow.holds Try.pinned (OpenSpec.upto topApartSpec)

/-- 'marlinspiketop.TopFull', WHERE WHAT IT READS IS OF BULK AT MOST 1048576: true; the input reads as it did. -/
def topFullUptoRow : OpenClaim := { program := "ytgokjhhcfemnhab", sum := "382a65a9fac69e2ad00df0fd7dd37156e87cf3134e58931d9111b826f8e7f8a1", func := "marlinspike/marlinspiketop.TopFull", spec := "topFull", unfollowed := true, recurses := true, apart := false, narrowed := true }
def TopFullUptoSaid : Prop := topFullUptoRow.holds Try.pinned (OpenSpec.upto topFullSpec)

/-- 'marlinspiketop.TopDisk', WHERE WHAT IT READS IS OF BULK AT MOST 1048576: true; the input reads as it did. -/
def topDiskUptoRow : OpenClaim := { program := "ytgokjhhcfemnhab", sum := "382a65a9fac69e2ad00df0fd7dd37156e87cf3134e58931d9111b826f8e7f8a1", func := "marlinspike/marlinspiketop.TopDisk", spec := "topDisk", apart := false, narrowed := true }
def TopDiskUptoSaid : Prop := topDiskUptoRow.holds Try.pinned (OpenSpec.upto topDiskSpec)

/-- 'marlinspiketop.TopStamp', WHERE WHAT IT READS IS OF BULK AT MOST 1048576: true; the input reads as it did. -/
def topStampUptoRow : OpenClaim := { program := "ytgokjhhcfemnhab", sum := "382a65a9fac69e2ad00df0fd7dd37156e87cf3134e58931d9111b826f8e7f8a1", func := "marlinspike/marlinspiketop.TopStamp", spec := "topStamp", recurses := true, apart := false, narrowed := true }
def TopStampUptoSaid : Prop := topStampUptoRow.holds Try.pinned (OpenSpec.upto topStampSpec)

end Rows
end Go.Proofs.Ytgokjhhcfemnhab
