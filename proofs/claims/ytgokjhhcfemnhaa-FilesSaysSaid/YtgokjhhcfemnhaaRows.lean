/-
  No cell of these rows narrows 'for every input' (looked for: loops, veiled, ifaces, maps, wideKeys, modest, calm, conditions, laid).
  DERIVED. THE GIVEN ROWS OF THIS SEAT. 7 by the template 'for every input the law returns true; each argument reads behind the call as it read before'; 0 by the template 'total and deterministic' (their statements: YtgokjhhcfemnhaaTotals.lean).
  GIVEN WITH THE SEED: the statements are not yours to turn. If you find one false, say at which input.
  Laid BY PROGRAM, IN A SANDBOX (cutbox-rows.mjs): the forced cells as the released guide's own fill.sh prints them over the translation 5382af495bc346e6… (all of the seat's roots in one cut). By AI agents, Wed Nov 11 2026. No macro, syntax, notation, axiom, sorry.
-/
import Derived.Test.YtgokjhhcfemnhaaChecked
import GoSem.Claim
import GoSem.ClaimJoined
import GoSem.ClaimMapViews
import Derived.JoinedTies
import Derived.KernelRfl
namespace Go.Proofs.Ytgokjhhcfemnhaa
/- THE CELL 'sum', in the pinned program and in every row, IS THE sha256 OF THE DUMP (.gsa) THAT YtgokjhhcfemnhaaProg.lean LOADS. Nothing in Lean hashes anything: it is a label: what it is worth is what the hold of that sum in a sandbox is worth. -/
noncomputable def Try.pinned : Pinned := { name := "ytgokjhhcfemnhaa", sum := "5382af495bc346e6c576ca40e6f3fd5d9cf0554e35721c36742788bc0de40bbc", checked := Try.checked }
namespace Rows
def none {H : Type} : Left H := { results := [], args := [] }

/-- 'marlinspikelaw.NameSays': WHATEVER THE INPUT: true; the input reads as it did. -/
def nameSaysSpec : ChangeSpec := { name := "nameSays", fn := fun _ => fun
  | [d] => { results := [.lit (.bool true)], args := [d] }
  | _ => none }
def nameSaysRow : OpenClaim := { program := "ytgokjhhcfemnhaa", sum := "5382af495bc346e6c576ca40e6f3fd5d9cf0554e35721c36742788bc0de40bbc", func := "marlinspike/marlinspikelaw.NameSays", spec := "nameSays", apart := false }
def NameSaysSaid : Prop := nameSaysRow.holds Try.pinned (OpenSpec.ofChange nameSaysSpec)

/-- ITS FALSE NEIGHBOUR: 'it returns false'. Refute it at one input. -/
def nameSaysWrong : ChangeSpec := { name := "nameSays", fn := fun _ => fun
  | [d] => { results := [.lit (.bool false)], args := [d] }
  | _ => none }
def NameSaysWrongFalsely : Prop := nameSaysRow.holds Try.pinned (OpenSpec.ofChange nameSaysWrong)

/-- 'marlinspikelaw.TableSays': WHATEVER THE INPUT: true; the input reads as it did. -/
def tableSaysSpec : ChangeSpec := { name := "tableSays", fn := fun _ => fun
  | [d1, d2, d3, d4] => { results := [.lit (.bool true)], args := [d1, d2, d3, d4] }
  | _ => none }
def tableSaysRow : OpenClaim := { program := "ytgokjhhcfemnhaa", sum := "5382af495bc346e6c576ca40e6f3fd5d9cf0554e35721c36742788bc0de40bbc", func := "marlinspike/marlinspikelaw.TableSays", spec := "tableSays", apart := false }
def TableSaysSaid : Prop := tableSaysRow.holds Try.pinned (OpenSpec.ofChange tableSaysSpec)

/-- ITS FALSE NEIGHBOUR: 'it returns false'. Refute it at one input. -/
def tableSaysWrong : ChangeSpec := { name := "tableSays", fn := fun _ => fun
  | [d1, d2, d3, d4] => { results := [.lit (.bool false)], args := [d1, d2, d3, d4] }
  | _ => none }
def TableSaysWrongFalsely : Prop := tableSaysRow.holds Try.pinned (OpenSpec.ofChange tableSaysWrong)

/-- 'marlinspikelaw.PlaceSays': WHATEVER THE INPUT: true; the input reads as it did. -/
def placeSaysSpec : ChangeSpec := { name := "placeSays", fn := fun _ => fun
  | [d1, d2] => { results := [.lit (.bool true)], args := [d1, d2] }
  | _ => none }
def placeSaysRow : OpenClaim := { program := "ytgokjhhcfemnhaa", sum := "5382af495bc346e6c576ca40e6f3fd5d9cf0554e35721c36742788bc0de40bbc", func := "marlinspike/marlinspikelaw.PlaceSays", spec := "placeSays", unfollowed := true, recurses := true, apart := false }
def PlaceSaysSaid : Prop := placeSaysRow.holds Try.pinned (OpenSpec.ofChange placeSaysSpec)

/-- ITS FALSE NEIGHBOUR: 'it returns false'. Refute it at one input. -/
def placeSaysWrong : ChangeSpec := { name := "placeSays", fn := fun _ => fun
  | [d1, d2] => { results := [.lit (.bool false)], args := [d1, d2] }
  | _ => none }
def PlaceSaysWrongFalsely : Prop := placeSaysRow.holds Try.pinned (OpenSpec.ofChange placeSaysWrong)

/-- 'marlinspikelaw.PatchSays': WHATEVER THE INPUT: true; the input reads as it did. -/
def patchSaysSpec : ChangeSpec := { name := "patchSays", fn := fun _ => fun
  | [d1, d2, d3, d4] => { results := [.lit (.bool true)], args := [d1, d2, d3, d4] }
  | _ => none }
def patchSaysRow : OpenClaim := { program := "ytgokjhhcfemnhaa", sum := "5382af495bc346e6c576ca40e6f3fd5d9cf0554e35721c36742788bc0de40bbc", func := "marlinspike/marlinspikelaw.PatchSays", spec := "patchSays", apart := false }
def PatchSaysSaid : Prop := patchSaysRow.holds Try.pinned (OpenSpec.ofChange patchSaysSpec)

/-- ITS FALSE NEIGHBOUR: 'it returns false'. Refute it at one input. -/
def patchSaysWrong : ChangeSpec := { name := "patchSays", fn := fun _ => fun
  | [d1, d2, d3, d4] => { results := [.lit (.bool false)], args := [d1, d2, d3, d4] }
  | _ => none }
def PatchSaysWrongFalsely : Prop := patchSaysRow.holds Try.pinned (OpenSpec.ofChange patchSaysWrong)

/-- 'marlinspikelaw.DiskSays': WHATEVER THE INPUT: true; the input reads as it did. -/
def diskSaysSpec : ChangeSpec := { name := "diskSays", fn := fun _ => fun
  | [d1, d2] => { results := [.lit (.bool true)], args := [d1, d2] }
  | _ => none }
def diskSaysRow : OpenClaim := { program := "ytgokjhhcfemnhaa", sum := "5382af495bc346e6c576ca40e6f3fd5d9cf0554e35721c36742788bc0de40bbc", func := "marlinspike/marlinspikelaw.DiskSays", spec := "diskSays", apart := false }
def DiskSaysSaid : Prop := diskSaysRow.holds Try.pinned (OpenSpec.ofChange diskSaysSpec)

/-- ITS FALSE NEIGHBOUR: 'it returns false'. Refute it at one input. -/
def diskSaysWrong : ChangeSpec := { name := "diskSays", fn := fun _ => fun
  | [d1, d2] => { results := [.lit (.bool false)], args := [d1, d2] }
  | _ => none }
def DiskSaysWrongFalsely : Prop := diskSaysRow.holds Try.pinned (OpenSpec.ofChange diskSaysWrong)

/-- 'marlinspikelaw.FilesSays': WHATEVER THE INPUT: true; the input reads as it did. -/
def filesSaysSpec : ChangeSpec := { name := "filesSays", fn := fun _ => fun
  | [d] => { results := [.lit (.bool true)], args := [d] }
  | _ => none }
def filesSaysRow : OpenClaim := { program := "ytgokjhhcfemnhaa", sum := "5382af495bc346e6c576ca40e6f3fd5d9cf0554e35721c36742788bc0de40bbc", func := "marlinspike/marlinspikelaw.FilesSays", spec := "filesSays", recurses := true, apart := false }
def FilesSaysSaid : Prop := filesSaysRow.holds Try.pinned (OpenSpec.ofChange filesSaysSpec)

/-- ITS FALSE NEIGHBOUR: 'it returns false'. Refute it at one input. -/
def filesSaysWrong : ChangeSpec := { name := "filesSays", fn := fun _ => fun
  | [d] => { results := [.lit (.bool false)], args := [d] }
  | _ => none }
def FilesSaysWrongFalsely : Prop := filesSaysRow.holds Try.pinned (OpenSpec.ofChange filesSaysWrong)

/-- 'marlinspiketop.TopHash': WHATEVER THE INPUT: true; the input reads as it did. -/
def topHashSpec : ChangeSpec := { name := "topHash", fn := fun _ => fun
  | [d1, d2] => { results := [.lit (.bool true)], args := [d1, d2] }
  | _ => none }
def topHashRow : OpenClaim := { program := "ytgokjhhcfemnhaa", sum := "5382af495bc346e6c576ca40e6f3fd5d9cf0554e35721c36742788bc0de40bbc", func := "marlinspike/marlinspiketop.TopHash", spec := "topHash", apart := false }
def TopHashSaid : Prop := topHashRow.holds Try.pinned (OpenSpec.ofChange topHashSpec)

/-- ITS FALSE NEIGHBOUR: 'it returns false'. Refute it at one input. -/
def topHashWrong : ChangeSpec := { name := "topHash", fn := fun _ => fun
  | [d1, d2] => { results := [.lit (.bool false)], args := [d1, d2] }
  | _ => none }
def TopHashWrongFalsely : Prop := topHashRow.holds Try.pinned (OpenSpec.ofChange topHashWrong)

/- THE SECOND FORM. 'bulk': how many values and letters a reading holds, each counted each time it is reached (what is shared counts as often as it is met; a slice's spare places count too). A statement '..UptoSaid' is the law's where the arguments, and the package variables that the reading takes, are together of bulk at most 1048576: NARROWER than '..Said'. Prove '..Said' where nothing that the law and all that it calls make is longer than what came in: it says more and counts as full. Else prove '..UptoSaid'. A law counts once. -/
mutual
def uptoBulk {H : Type} : DataW H → Nat
  | .lit (.string bytes) => bytes.length + 1
  | .lit _ => 1
  | .nil => 1
  | .ptr d => uptoBulk d + 1
  | .slice elems spare => uptoBulkAll elems + uptoBulkAll spare + 1
  | .agg parts => uptoBulkAll parts + 1
  | .iface _ d => uptoBulk d + 1
  | .map entries => uptoBulkEntries entries + 1
  | .held _ => 1
def uptoBulkAll {H : Type} : List (DataW H) → Nat
  | [] => 0
  | d :: r => uptoBulk d + uptoBulkAll r
def uptoBulkEntries {H : Type} : List (Lit × DataW H) → Nat
  | [] => 0
  | x :: r => uptoBulkEntry x + uptoBulkEntries r
def uptoBulkEntry {H : Type} : Lit × DataW H → Nat
  | (.string bytes, d) => bytes.length + uptoBulk d + 1
  | (_, d) => uptoBulk d + 1
 end
def uptoSmall : (H : Type) → List (DataW H) → Bool := fun _ ds => decide (uptoBulkAll ds ≤ 1048576)
def OpenSpec.upto (s : _root_.Go.ChangeSpec) : _root_.Go.OpenSpec := { _root_.Go.OpenSpec.ofChange s with cond := some uptoSmall }

/-- 'marlinspikelaw.NameSays', WHERE WHAT IT READS IS OF BULK AT MOST 1048576: true; the input reads as it did. -/
def nameSaysUptoRow : OpenClaim := { program := "ytgokjhhcfemnhaa", sum := "5382af495bc346e6c576ca40e6f3fd5d9cf0554e35721c36742788bc0de40bbc", func := "marlinspike/marlinspikelaw.NameSays", spec := "nameSays", apart := false, narrowed := true }
def NameSaysUptoSaid : Prop := nameSaysUptoRow.holds Try.pinned (OpenSpec.upto nameSaysSpec)

/-- 'marlinspikelaw.TableSays', WHERE WHAT IT READS IS OF BULK AT MOST 1048576: true; the input reads as it did. -/
def tableSaysUptoRow : OpenClaim := { program := "ytgokjhhcfemnhaa", sum := "5382af495bc346e6c576ca40e6f3fd5d9cf0554e35721c36742788bc0de40bbc", func := "marlinspike/marlinspikelaw.TableSays", spec := "tableSays", apart := false, narrowed := true }
def TableSaysUptoSaid : Prop := tableSaysUptoRow.holds Try.pinned (OpenSpec.upto tableSaysSpec)

/-- 'marlinspikelaw.PlaceSays', WHERE WHAT IT READS IS OF BULK AT MOST 1048576: true; the input reads as it did. -/
def placeSaysUptoRow : OpenClaim := { program := "ytgokjhhcfemnhaa", sum := "5382af495bc346e6c576ca40e6f3fd5d9cf0554e35721c36742788bc0de40bbc", func := "marlinspike/marlinspikelaw.PlaceSays", spec := "placeSays", unfollowed := true, recurses := true, apart := false, narrowed := true }
def PlaceSaysUptoSaid : Prop := placeSaysUptoRow.holds Try.pinned (OpenSpec.upto placeSaysSpec)

/-- 'marlinspikelaw.PatchSays', WHERE WHAT IT READS IS OF BULK AT MOST 1048576: true; the input reads as it did. -/
def patchSaysUptoRow : OpenClaim := { program := "ytgokjhhcfemnhaa", sum := "5382af495bc346e6c576ca40e6f3fd5d9cf0554e35721c36742788bc0de40bbc", func := "marlinspike/marlinspikelaw.PatchSays", spec := "patchSays", apart := false, narrowed := true }
def PatchSaysUptoSaid : Prop := patchSaysUptoRow.holds Try.pinned (OpenSpec.upto patchSaysSpec)

/-- 'marlinspikelaw.DiskSays', WHERE WHAT IT READS IS OF BULK AT MOST 1048576: true; the input reads as it did. -/
def diskSaysUptoRow : OpenClaim := { program := "ytgokjhhcfemnhaa", sum := "5382af495bc346e6c576ca40e6f3fd5d9cf0554e35721c36742788bc0de40bbc", func := "marlinspike/marlinspikelaw.DiskSays", spec := "diskSays", apart := false, narrowed := true }
def DiskSaysUptoSaid : Prop := diskSaysUptoRow.holds Try.pinned (OpenSpec.upto diskSaysSpec)

/-- 'marlinspikelaw.FilesSays', WHERE WHAT IT READS IS OF BULK AT MOST 1048576: true; the input reads as it did. -/
def filesSaysUptoRow : OpenClaim := { program := "ytgokjhhcfemnhaa", sum := "5382af495bc346e6c576ca40e6f3fd5d9cf0554e35721c36742788bc0de40bbc", func := "marlinspike/marlinspikelaw.FilesSays", spec := "filesSays", recurses := true, apart := false, narrowed := true }
def FilesSaysUptoSaid : Prop := filesSaysUptoRow.holds Try.pinned (OpenSpec.upto filesSaysSpec)

/-- 'marlinspiketop.TopHash', WHERE WHAT IT READS IS OF BULK AT MOST 1048576: true; the input reads as it did. -/
def topHashUptoRow : OpenClaim := { program := "ytgokjhhcfemnhaa", sum := "5382af495bc346e6c576ca40e6f3fd5d9cf0554e35721c36742788bc0de40bbc", func := "marlinspike/marlinspiketop.TopHash", spec := "topHash", apart := false, narrowed := true }
def TopHashUptoSaid : Prop := topHashUptoRow.holds Try.pinned (OpenSpec.upto topHashSpec)

end Rows
end Go.Proofs.Ytgokjhhcfemnhaa
