/-
  No cell of these rows narrows 'for every input' (looked for: loops, veiled, ifaces, maps, wideKeys, modest, calm, conditions, laid).
  DERIVED. THE GIVEN ROWS OF THIS SEAT. 7 by the template 'for every input the law returns true; each argument reads behind the call as it read before'; 0 by the template 'total and deterministic' (their statements: YtpgiklbaoikogaaTotals.lean).
  GIVEN WITH THE SEED: the statements are not yours to turn. If you find one false, say at which input.
  Laid BY PROGRAM, IN A SANDBOX (cutbox-rows.mjs): the forced cells as the released guide's own fill.sh prints them over the translation 001345a79e9a24b4… (all of the seat's roots in one cut). By AI agents, Wed Nov 11 2026. No macro, syntax, notation, axiom, sorry.
-/
import Derived.Test.YtpgiklbaoikogaaChecked
import GoSem.Claim
import GoSem.ClaimJoined
import GoSem.ClaimMapViews
import Derived.JoinedTies
import Derived.KernelRfl
namespace Go.Proofs.Ytpgiklbaoikogaa
/- THE CELL 'sum', in the pinned program and in every row, IS THE sha256 OF THE DUMP (.gsa) THAT YtpgiklbaoikogaaProg.lean LOADS. Nothing in Lean hashes anything: it is a label: what it is worth is what the hold of that sum in a sandbox is worth. -/
noncomputable def Try.pinned : Pinned := { name := "ytpgiklbaoikogaa", sum := "001345a79e9a24b46c2072703eecba291099f189079e722a0c63cc3fd8675abf", checked := Try.checked }
namespace Rows
def none {H : Type} : Left H := { results := [], args := [] }

/-- 'laws.FnExactNewDisk': WHATEVER THE INPUT: true; the input reads as it did. -/
def fnExactNewDiskSpec : ChangeSpec := { name := "fnExactNewDisk", fn := fun _ => fun
  | [] => { results := [.lit (.bool true)], args := [] }
  | _ => none }
def fnExactNewDiskRow : OpenClaim := { program := "ytpgiklbaoikogaa", sum := "001345a79e9a24b46c2072703eecba291099f189079e722a0c63cc3fd8675abf", func := "loop.example/g00456/laws.FnExactNewDisk", spec := "fnExactNewDisk", apart := false }
def FnExactNewDiskSaid : Prop := fnExactNewDiskRow.holds Try.pinned (OpenSpec.ofChange fnExactNewDiskSpec)

/-- ITS FALSE NEIGHBOUR: 'it returns false'. Refute it at one input. -/
def fnExactNewDiskWrong : ChangeSpec := { name := "fnExactNewDisk", fn := fun _ => fun
  | [] => { results := [.lit (.bool false)], args := [] }
  | _ => none }
def FnExactNewDiskWrongFalsely : Prop := fnExactNewDiskRow.holds Try.pinned (OpenSpec.ofChange fnExactNewDiskWrong)

/-- 'laws.FnInts': WHATEVER THE INPUT: true; the input reads as it did. -/
def fnIntsSpec : ChangeSpec := { name := "fnInts", fn := fun _ => fun
  | [d] => { results := [.lit (.bool true)], args := [d] }
  | _ => none }
def fnIntsRow : OpenClaim := { program := "ytpgiklbaoikogaa", sum := "001345a79e9a24b46c2072703eecba291099f189079e722a0c63cc3fd8675abf", func := "loop.example/g00456/laws.FnInts", spec := "fnInts", unfollowed := true, recurses := true, apart := false }
def FnIntsSaid : Prop := fnIntsRow.holds Try.pinned (OpenSpec.ofChange fnIntsSpec)

/-- ITS FALSE NEIGHBOUR: 'it returns false'. Refute it at one input. -/
def fnIntsWrong : ChangeSpec := { name := "fnInts", fn := fun _ => fun
  | [d] => { results := [.lit (.bool false)], args := [d] }
  | _ => none }
def FnIntsWrongFalsely : Prop := fnIntsRow.holds Try.pinned (OpenSpec.ofChange fnIntsWrong)

/-- 'laws.FnExactKindOf': WHATEVER THE INPUT: true; the input reads as it did. -/
def fnExactKindOfSpec : ChangeSpec := { name := "fnExactKindOf", fn := fun _ => fun
  | [d] => { results := [.lit (.bool true)], args := [d] }
  | _ => none }
def fnExactKindOfRow : OpenClaim := { program := "ytpgiklbaoikogaa", sum := "001345a79e9a24b46c2072703eecba291099f189079e722a0c63cc3fd8675abf", func := "loop.example/g00456/laws.FnExactKindOf", spec := "fnExactKindOf", unfollowed := true, recurses := true, apart := false }
def FnExactKindOfSaid : Prop := fnExactKindOfRow.holds Try.pinned (OpenSpec.ofChange fnExactKindOfSpec)

/-- ITS FALSE NEIGHBOUR: 'it returns false'. Refute it at one input. -/
def fnExactKindOfWrong : ChangeSpec := { name := "fnExactKindOf", fn := fun _ => fun
  | [d] => { results := [.lit (.bool false)], args := [d] }
  | _ => none }
def FnExactKindOfWrongFalsely : Prop := fnExactKindOfRow.holds Try.pinned (OpenSpec.ofChange fnExactKindOfWrong)

/-- 'laws.FnExactNewImage': WHATEVER THE INPUT: true; the input reads as it did. -/
def fnExactNewImageSpec : ChangeSpec := { name := "fnExactNewImage", fn := fun _ => fun
  | [d] => { results := [.lit (.bool true)], args := [d] }
  | _ => none }
def fnExactNewImageRow : OpenClaim := { program := "ytpgiklbaoikogaa", sum := "001345a79e9a24b46c2072703eecba291099f189079e722a0c63cc3fd8675abf", func := "loop.example/g00456/laws.FnExactNewImage", spec := "fnExactNewImage", apart := false }
def FnExactNewImageSaid : Prop := fnExactNewImageRow.holds Try.pinned (OpenSpec.ofChange fnExactNewImageSpec)

/-- ITS FALSE NEIGHBOUR: 'it returns false'. Refute it at one input. -/
def fnExactNewImageWrong : ChangeSpec := { name := "fnExactNewImage", fn := fun _ => fun
  | [d] => { results := [.lit (.bool false)], args := [d] }
  | _ => none }
def FnExactNewImageWrongFalsely : Prop := fnExactNewImageRow.holds Try.pinned (OpenSpec.ofChange fnExactNewImageWrong)

/-- 'laws.FnExactDiskOK': WHATEVER THE INPUT: true; the input reads as it did. -/
def fnExactDiskOKSpec : ChangeSpec := { name := "fnExactDiskOK", fn := fun _ => fun
  | [d] => { results := [.lit (.bool true)], args := [d] }
  | _ => none }
def fnExactDiskOKRow : OpenClaim := { program := "ytpgiklbaoikogaa", sum := "001345a79e9a24b46c2072703eecba291099f189079e722a0c63cc3fd8675abf", func := "loop.example/g00456/laws.FnExactDiskOK", spec := "fnExactDiskOK", unfollowed := true, recurses := true, apart := false }
def FnExactDiskOKSaid : Prop := fnExactDiskOKRow.holds Try.pinned (OpenSpec.ofChange fnExactDiskOKSpec)

/-- ITS FALSE NEIGHBOUR: 'it returns false'. Refute it at one input. -/
def fnExactDiskOKWrong : ChangeSpec := { name := "fnExactDiskOK", fn := fun _ => fun
  | [d] => { results := [.lit (.bool false)], args := [d] }
  | _ => none }
def FnExactDiskOKWrongFalsely : Prop := fnExactDiskOKRow.holds Try.pinned (OpenSpec.ofChange fnExactDiskOKWrong)

/-- 'laws.FnExactPendingOf': WHATEVER THE INPUT: true; the input reads as it did. -/
def fnExactPendingOfSpec : ChangeSpec := { name := "fnExactPendingOf", fn := fun _ => fun
  | [d1, d2] => { results := [.lit (.bool true)], args := [d1, d2] }
  | _ => none }
def fnExactPendingOfRow : OpenClaim := { program := "ytpgiklbaoikogaa", sum := "001345a79e9a24b46c2072703eecba291099f189079e722a0c63cc3fd8675abf", func := "loop.example/g00456/laws.FnExactPendingOf", spec := "fnExactPendingOf", unfollowed := true, recurses := true, apart := false }
def FnExactPendingOfSaid : Prop := fnExactPendingOfRow.holds Try.pinned (OpenSpec.ofChange fnExactPendingOfSpec)

/-- ITS FALSE NEIGHBOUR: 'it returns false'. Refute it at one input. -/
def fnExactPendingOfWrong : ChangeSpec := { name := "fnExactPendingOf", fn := fun _ => fun
  | [d1, d2] => { results := [.lit (.bool false)], args := [d1, d2] }
  | _ => none }
def FnExactPendingOfWrongFalsely : Prop := fnExactPendingOfRow.holds Try.pinned (OpenSpec.ofChange fnExactPendingOfWrong)

/-- 'laws.FnExactReadSector': WHATEVER THE INPUT: true; the input reads as it did. -/
def fnExactReadSectorSpec : ChangeSpec := { name := "fnExactReadSector", fn := fun _ => fun
  | [d1, d2, d3] => { results := [.lit (.bool true)], args := [d1, d2, d3] }
  | _ => none }
def fnExactReadSectorRow : OpenClaim := { program := "ytpgiklbaoikogaa", sum := "001345a79e9a24b46c2072703eecba291099f189079e722a0c63cc3fd8675abf", func := "loop.example/g00456/laws.FnExactReadSector", spec := "fnExactReadSector", unfollowed := true, recurses := true, apart := false }
def FnExactReadSectorSaid : Prop := fnExactReadSectorRow.holds Try.pinned (OpenSpec.ofChange fnExactReadSectorSpec)

/-- ITS FALSE NEIGHBOUR: 'it returns false'. Refute it at one input. -/
def fnExactReadSectorWrong : ChangeSpec := { name := "fnExactReadSector", fn := fun _ => fun
  | [d1, d2, d3] => { results := [.lit (.bool false)], args := [d1, d2, d3] }
  | _ => none }
def FnExactReadSectorWrongFalsely : Prop := fnExactReadSectorRow.holds Try.pinned (OpenSpec.ofChange fnExactReadSectorWrong)

/- THE SECOND FORM. 'bulk': how many values and letters a reading holds, each counted each time it is reached (what is shared counts as often as it is met; a slice's spare places count too). A statement '..UptoSaid' is the law's where the arguments, and the package variables that the reading takes, are together of bulk at most 1048576: NARROWER than '..Said'. Prove '..Said' where nothing that the law and all that it calls make is longer than what came in: it says more and counts as full. Else prove '..UptoSaid'. A law counts once. -/
mutual
def uptoBulk {H : Type} : DataW H → Nat
  | .lit (.string bytes) => bytes.length + 1
  | .lit _ => 1
  | .nil => 1
  | .ptr d => uptoBulk d + 1
  | .slice elems spare => uptoBulkAll elems + uptoBulkAll spare + 1
  | .agg parts => uptoBulkAll parts + 1
  | .iface _ d => uptoBulk d + 1
  | .map entries => uptoBulkEntries entries + 1
  | .held _ => 1
def uptoBulkAll {H : Type} : List (DataW H) → Nat
  | [] => 0
  | d :: r => uptoBulk d + uptoBulkAll r
def uptoBulkEntries {H : Type} : List (Lit × DataW H) → Nat
  | [] => 0
  | x :: r => uptoBulkEntry x + uptoBulkEntries r
def uptoBulkEntry {H : Type} : Lit × DataW H → Nat
  | (.string bytes, d) => bytes.length + uptoBulk d + 1
  | (_, d) => uptoBulk d + 1
 end
def uptoSmall : (H : Type) → List (DataW H) → Bool := fun _ ds => decide (uptoBulkAll ds ≤ 1048576)
def OpenSpec.upto (s : _root_.Go.ChangeSpec) : _root_.Go.OpenSpec := { _root_.Go.OpenSpec.ofChange s with cond := some uptoSmall }

/-- 'laws.FnExactNewDisk', WHERE WHAT IT READS IS OF BULK AT MOST 1048576: true; the input reads as it did. -/
def fnExactNewDiskUptoRow : OpenClaim := { program := "ytpgiklbaoikogaa", sum := "001345a79e9a24b46c2072703eecba291099f189079e722a0c63cc3fd8675abf", func := "loop.example/g00456/laws.FnExactNewDisk", spec := "fnExactNewDisk", apart := false, narrowed := true }
def FnExactNewDiskUptoSaid : Prop := fnExactNewDiskUptoRow.holds Try.pinned (OpenSpec.upto fnExactNewDiskSpec)

/-- 'laws.FnInts', WHERE WHAT IT READS IS OF BULK AT MOST 1048576: true; the input reads as it did. -/
def fnIntsUptoRow : OpenClaim := { program := "ytpgiklbaoikogaa", sum := "001345a79e9a24b46c2072703eecba291099f189079e722a0c63cc3fd8675abf", func := "loop.example/g00456/laws.FnInts", spec := "fnInts", unfollowed := true, recurses := true, apart := false, narrowed := true }
def FnIntsUptoSaid : Prop := fnIntsUptoRow.holds Try.pinned (OpenSpec.upto fnIntsSpec)

/-- 'laws.FnExactKindOf', WHERE WHAT IT READS IS OF BULK AT MOST 1048576: true; the input reads as it did. -/
def fnExactKindOfUptoRow : OpenClaim := { program := "ytpgiklbaoikogaa", sum := "001345a79e9a24b46c2072703eecba291099f189079e722a0c63cc3fd8675abf", func := "loop.example/g00456/laws.FnExactKindOf", spec := "fnExactKindOf", unfollowed := true, recurses := true, apart := false, narrowed := true }
def FnExactKindOfUptoSaid : Prop := fnExactKindOfUptoRow.holds Try.pinned (OpenSpec.upto fnExactKindOfSpec)

/-- 'laws.FnExactNewImage', WHERE WHAT IT READS IS OF BULK AT MOST 1048576: true; the input reads as it did. -/
def fnExactNewImageUptoRow : OpenClaim := { program := "ytpgiklbaoikogaa", sum := "001345a79e9a24b46c2072703eecba291099f189079e722a0c63cc3fd8675abf", func := "loop.example/g00456/laws.FnExactNewImage", spec := "fnExactNewImage", apart := false, narrowed := true }
def FnExactNewImageUptoSaid : Prop := fnExactNewImageUptoRow.holds Try.pinned (OpenSpec.upto fnExactNewImageSpec)

/-- 'laws.FnExactDiskOK', WHERE WHAT IT READS IS OF BULK AT MOST 1048576: true; the input reads as it did. -/
def fnExactDiskOKUptoRow : OpenClaim := { program := "ytpgiklbaoikogaa", sum := "001345a79e9a24b46c2072703eecba291099f189079e722a0c63cc3fd8675abf", func := "loop.example/g00456/laws.FnExactDiskOK", spec := "fnExactDiskOK", unfollowed := true, recurses := true, apart := false, narrowed := true }
def FnExactDiskOKUptoSaid : Prop := fnExactDiskOKUptoRow.holds Try.pinned (OpenSpec.upto fnExactDiskOKSpec)

/-- 'laws.FnExactPendingOf', WHERE WHAT IT READS IS OF BULK AT MOST 1048576: true; the input reads as it did. -/
def fnExactPendingOfUptoRow : OpenClaim := { program := "ytpgiklbaoikogaa", sum := "001345a79e9a24b46c2072703eecba291099f189079e722a0c63cc3fd8675abf", func := "loop.example/g00456/laws.FnExactPendingOf", spec := "fnExactPendingOf", unfollowed := true, recurses := true, apart := false, narrowed := true }
def FnExactPendingOfUptoSaid : Prop := fnExactPendingOfUptoRow.holds Try.pinned (OpenSpec.upto fnExactPendingOfSpec)

/-- 'laws.FnExactReadSector', WHERE WHAT IT READS IS OF BULK AT MOST 1048576: true; the input reads as it did. -/
def fnExactReadSectorUptoRow : OpenClaim := { program := "ytpgiklbaoikogaa", sum := "001345a79e9a24b46c2072703eecba291099f189079e722a0c63cc3fd8675abf", func := "loop.example/g00456/laws.FnExactReadSector", spec := "fnExactReadSector", unfollowed := true, recurses := true, apart := false, narrowed := true }
def FnExactReadSectorUptoSaid : Prop := fnExactReadSectorUptoRow.holds Try.pinned (OpenSpec.upto fnExactReadSectorSpec)

end Rows
end Go.Proofs.Ytpgiklbaoikogaa
