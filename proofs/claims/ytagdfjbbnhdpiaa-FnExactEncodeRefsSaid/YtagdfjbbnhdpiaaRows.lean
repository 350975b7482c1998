/-
  No cell of these rows narrows 'for every input' (looked for: loops, veiled, ifaces, maps, wideKeys, modest, calm, conditions, laid).
  DERIVED. THE GIVEN ROWS OF THIS SEAT. 12 by the template 'for every input the law returns true; each argument reads behind the call as it read before'; 0 by the template 'total and deterministic' (their statements: YtagdfjbbnhdpiaaTotals.lean).
  GIVEN WITH THE SEED: the statements are not yours to turn. If you find one false, say at which input.
  Laid BY PROGRAM, IN A SANDBOX (cutbox-rows.mjs): the forced cells as the released guide's own fill.sh prints them over the translation 4082608b8bfd8c82… (all of the seat's roots in one cut). By AI agents, Wed Nov 11 2026. No macro, syntax, notation, axiom, sorry.
-/
import Derived.Test.YtagdfjbbnhdpiaaChecked
import GoSem.Claim
import GoSem.ClaimJoined
import GoSem.ClaimMapViews
import Derived.JoinedTies
import Derived.KernelRfl
namespace Go.Proofs.Ytagdfjbbnhdpiaa
/- THE CELL 'sum', in the pinned program and in every row, IS THE sha256 OF THE DUMP (.gsa) THAT YtagdfjbbnhdpiaaProg.lean LOADS. Nothing in Lean hashes anything: it is a label: what it is worth is what the hold of that sum in a sandbox is worth. -/
noncomputable def Try.pinned : Pinned := { name := "ytagdfjbbnhdpiaa", sum := "4082608b8bfd8c82dd4533be8ded4453d9ada490ce10878b62bcbe0987d48c8d", checked := Try.checked }
namespace Rows
def none {H : Type} : Left H := { results := [], args := [] }

/-- 'laws.FnExactPackInts': WHATEVER THE INPUT: true; the input reads as it did. -/
def fnExactPackIntsSpec : ChangeSpec := { name := "fnExactPackInts", fn := fun _ => fun
  | [d] => { results := [.lit (.bool true)], args := [d] }
  | _ => none }
def fnExactPackIntsRow : OpenClaim := { program := "ytagdfjbbnhdpiaa", sum := "4082608b8bfd8c82dd4533be8ded4453d9ada490ce10878b62bcbe0987d48c8d", func := "loop.example/g00456/laws.FnExactPackInts", spec := "fnExactPackInts", unfollowed := true, recurses := true, apart := false }
def FnExactPackIntsSaid : Prop := fnExactPackIntsRow.holds Try.pinned (OpenSpec.ofChange fnExactPackIntsSpec)

/-- ITS FALSE NEIGHBOUR: 'it returns false'. Refute it at one input. -/
def fnExactPackIntsWrong : ChangeSpec := { name := "fnExactPackInts", fn := fun _ => fun
  | [d] => { results := [.lit (.bool false)], args := [d] }
  | _ => none }
def FnExactPackIntsWrongFalsely : Prop := fnExactPackIntsRow.holds Try.pinned (OpenSpec.ofChange fnExactPackIntsWrong)

/-- 'laws.FnExactRefSum': WHATEVER THE INPUT: true; the input reads as it did. -/
def fnExactRefSumSpec : ChangeSpec := { name := "fnExactRefSum", fn := fun _ => fun
  | [d] => { results := [.lit (.bool true)], args := [d] }
  | _ => none }
def fnExactRefSumRow : OpenClaim := { program := "ytagdfjbbnhdpiaa", sum := "4082608b8bfd8c82dd4533be8ded4453d9ada490ce10878b62bcbe0987d48c8d", func := "loop.example/g00456/laws.FnExactRefSum", spec := "fnExactRefSum", unfollowed := true, recurses := true, apart := false }
def FnExactRefSumSaid : Prop := fnExactRefSumRow.holds Try.pinned (OpenSpec.ofChange fnExactRefSumSpec)

/-- ITS FALSE NEIGHBOUR: 'it returns false'. Refute it at one input. -/
def fnExactRefSumWrong : ChangeSpec := { name := "fnExactRefSum", fn := fun _ => fun
  | [d] => { results := [.lit (.bool false)], args := [d] }
  | _ => none }
def FnExactRefSumWrongFalsely : Prop := fnExactRefSumRow.holds Try.pinned (OpenSpec.ofChange fnExactRefSumWrong)

/-- 'laws.FnExactUnpackInts': WHATEVER THE INPUT: true; the input reads as it did. -/
def fnExactUnpackIntsSpec : ChangeSpec := { name := "fnExactUnpackInts", fn := fun _ => fun
  | [d] => { results := [.lit (.bool true)], args := [d] }
  | _ => none }
def fnExactUnpackIntsRow : OpenClaim := { program := "ytagdfjbbnhdpiaa", sum := "4082608b8bfd8c82dd4533be8ded4453d9ada490ce10878b62bcbe0987d48c8d", func := "loop.example/g00456/laws.FnExactUnpackInts", spec := "fnExactUnpackInts", unfollowed := true, recurses := true, apart := false }
def FnExactUnpackIntsSaid : Prop := fnExactUnpackIntsRow.holds Try.pinned (OpenSpec.ofChange fnExactUnpackIntsSpec)

/-- ITS FALSE NEIGHBOUR: 'it returns false'. Refute it at one input. -/
def fnExactUnpackIntsWrong : ChangeSpec := { name := "fnExactUnpackInts", fn := fun _ => fun
  | [d] => { results := [.lit (.bool false)], args := [d] }
  | _ => none }
def FnExactUnpackIntsWrongFalsely : Prop := fnExactUnpackIntsRow.holds Try.pinned (OpenSpec.ofChange fnExactUnpackIntsWrong)

/-- 'laws.FnExactFreeCluster': WHATEVER THE INPUT: true; the input reads as it did. -/
def fnExactFreeClusterSpec : ChangeSpec := { name := "fnExactFreeCluster", fn := fun _ => fun
  | [d] => { results := [.lit (.bool true)], args := [d] }
  | _ => none }
def fnExactFreeClusterRow : OpenClaim := { program := "ytagdfjbbnhdpiaa", sum := "4082608b8bfd8c82dd4533be8ded4453d9ada490ce10878b62bcbe0987d48c8d", func := "loop.example/g00456/laws.FnExactFreeCluster", spec := "fnExactFreeCluster", unfollowed := true, recurses := true, apart := false }
def FnExactFreeClusterSaid : Prop := fnExactFreeClusterRow.holds Try.pinned (OpenSpec.ofChange fnExactFreeClusterSpec)

/-- ITS FALSE NEIGHBOUR: 'it returns false'. Refute it at one input. -/
def fnExactFreeClusterWrong : ChangeSpec := { name := "fnExactFreeCluster", fn := fun _ => fun
  | [d] => { results := [.lit (.bool false)], args := [d] }
  | _ => none }
def FnExactFreeClusterWrongFalsely : Prop := fnExactFreeClusterRow.holds Try.pinned (OpenSpec.ofChange fnExactFreeClusterWrong)

/-- 'laws.FnExactClustersOf': WHATEVER THE INPUT: true; the input reads as it did. -/
def fnExactClustersOfSpec : ChangeSpec := { name := "fnExactClustersOf", fn := fun _ => fun
  | [d] => { results := [.lit (.bool true)], args := [d] }
  | _ => none }
def fnExactClustersOfRow : OpenClaim := { program := "ytagdfjbbnhdpiaa", sum := "4082608b8bfd8c82dd4533be8ded4453d9ada490ce10878b62bcbe0987d48c8d", func := "loop.example/g00456/laws.FnExactClustersOf", spec := "fnExactClustersOf", unfollowed := true, recurses := true, apart := false }
def FnExactClustersOfSaid : Prop := fnExactClustersOfRow.holds Try.pinned (OpenSpec.ofChange fnExactClustersOfSpec)

/-- ITS FALSE NEIGHBOUR: 'it returns false'. Refute it at one input. -/
def fnExactClustersOfWrong : ChangeSpec := { name := "fnExactClustersOf", fn := fun _ => fun
  | [d] => { results := [.lit (.bool false)], args := [d] }
  | _ => none }
def FnExactClustersOfWrongFalsely : Prop := fnExactClustersOfRow.holds Try.pinned (OpenSpec.ofChange fnExactClustersOfWrong)

/-- 'laws.FnFree': WHATEVER THE INPUT: true; the input reads as it did. -/
def fnFreeSpec : ChangeSpec := { name := "fnFree", fn := fun _ => fun
  | [d] => { results := [.lit (.bool true)], args := [d] }
  | _ => none }
def fnFreeRow : OpenClaim := { program := "ytagdfjbbnhdpiaa", sum := "4082608b8bfd8c82dd4533be8ded4453d9ada490ce10878b62bcbe0987d48c8d", func := "loop.example/g00456/laws.FnFree", spec := "fnFree", unfollowed := true, recurses := true, apart := false }
def FnFreeSaid : Prop := fnFreeRow.holds Try.pinned (OpenSpec.ofChange fnFreeSpec)

/-- ITS FALSE NEIGHBOUR: 'it returns false'. Refute it at one input. -/
def fnFreeWrong : ChangeSpec := { name := "fnFree", fn := fun _ => fun
  | [d] => { results := [.lit (.bool false)], args := [d] }
  | _ => none }
def FnFreeWrongFalsely : Prop := fnFreeRow.holds Try.pinned (OpenSpec.ofChange fnFreeWrong)

/-- 'laws.FnExactResizeTable': WHATEVER THE INPUT: true; the input reads as it did. -/
def fnExactResizeTableSpec : ChangeSpec := { name := "fnExactResizeTable", fn := fun _ => fun
  | [d1, d2] => { results := [.lit (.bool true)], args := [d1, d2] }
  | _ => none }
def fnExactResizeTableRow : OpenClaim := { program := "ytagdfjbbnhdpiaa", sum := "4082608b8bfd8c82dd4533be8ded4453d9ada490ce10878b62bcbe0987d48c8d", func := "loop.example/g00456/laws.FnExactResizeTable", spec := "fnExactResizeTable", unfollowed := true, recurses := true, apart := false }
def FnExactResizeTableSaid : Prop := fnExactResizeTableRow.holds Try.pinned (OpenSpec.ofChange fnExactResizeTableSpec)

/-- ITS FALSE NEIGHBOUR: 'it returns false'. Refute it at one input. -/
def fnExactResizeTableWrong : ChangeSpec := { name := "fnExactResizeTable", fn := fun _ => fun
  | [d1, d2] => { results := [.lit (.bool false)], args := [d1, d2] }
  | _ => none }
def FnExactResizeTableWrongFalsely : Prop := fnExactResizeTableRow.holds Try.pinned (OpenSpec.ofChange fnExactResizeTableWrong)

/-- 'laws.FnExactRefDown': WHATEVER THE INPUT: true; the input reads as it did. -/
def fnExactRefDownSpec : ChangeSpec := { name := "fnExactRefDown", fn := fun _ => fun
  | [d1, d2] => { results := [.lit (.bool true)], args := [d1, d2] }
  | _ => none }
def fnExactRefDownRow : OpenClaim := { program := "ytagdfjbbnhdpiaa", sum := "4082608b8bfd8c82dd4533be8ded4453d9ada490ce10878b62bcbe0987d48c8d", func := "loop.example/g00456/laws.FnExactRefDown", spec := "fnExactRefDown", unfollowed := true, recurses := true, apart := false }
def FnExactRefDownSaid : Prop := fnExactRefDownRow.holds Try.pinned (OpenSpec.ofChange fnExactRefDownSpec)

/-- ITS FALSE NEIGHBOUR: 'it returns false'. Refute it at one input. -/
def fnExactRefDownWrong : ChangeSpec := { name := "fnExactRefDown", fn := fun _ => fun
  | [d1, d2] => { results := [.lit (.bool false)], args := [d1, d2] }
  | _ => none }
def FnExactRefDownWrongFalsely : Prop := fnExactRefDownRow.holds Try.pinned (OpenSpec.ofChange fnExactRefDownWrong)

/-- 'laws.FnExactRefUp': WHATEVER THE INPUT: true; the input reads as it did. -/
def fnExactRefUpSpec : ChangeSpec := { name := "fnExactRefUp", fn := fun _ => fun
  | [d1, d2] => { results := [.lit (.bool true)], args := [d1, d2] }
  | _ => none }
def fnExactRefUpRow : OpenClaim := { program := "ytagdfjbbnhdpiaa", sum := "4082608b8bfd8c82dd4533be8ded4453d9ada490ce10878b62bcbe0987d48c8d", func := "loop.example/g00456/laws.FnExactRefUp", spec := "fnExactRefUp", unfollowed := true, recurses := true, apart := false }
def FnExactRefUpSaid : Prop := fnExactRefUpRow.holds Try.pinned (OpenSpec.ofChange fnExactRefUpSpec)

/-- ITS FALSE NEIGHBOUR: 'it returns false'. Refute it at one input. -/
def fnExactRefUpWrong : ChangeSpec := { name := "fnExactRefUp", fn := fun _ => fun
  | [d1, d2] => { results := [.lit (.bool false)], args := [d1, d2] }
  | _ => none }
def FnExactRefUpWrongFalsely : Prop := fnExactRefUpRow.holds Try.pinned (OpenSpec.ofChange fnExactRefUpWrong)

/-- 'laws.FnExactSealRecord': WHATEVER THE INPUT: true; the input reads as it did. -/
def fnExactSealRecordSpec : ChangeSpec := { name := "fnExactSealRecord", fn := fun _ => fun
  | [d1, d2] => { results := [.lit (.bool true)], args := [d1, d2] }
  | _ => none }
def fnExactSealRecordRow : OpenClaim := { program := "ytagdfjbbnhdpiaa", sum := "4082608b8bfd8c82dd4533be8ded4453d9ada490ce10878b62bcbe0987d48c8d", func := "loop.example/g00456/laws.FnExactSealRecord", spec := "fnExactSealRecord", unfollowed := true, recurses := true, apart := false }
def FnExactSealRecordSaid : Prop := fnExactSealRecordRow.holds Try.pinned (OpenSpec.ofChange fnExactSealRecordSpec)

/-- ITS FALSE NEIGHBOUR: 'it returns false'. Refute it at one input. -/
def fnExactSealRecordWrong : ChangeSpec := { name := "fnExactSealRecord", fn := fun _ => fun
  | [d1, d2] => { results := [.lit (.bool false)], args := [d1, d2] }
  | _ => none }
def FnExactSealRecordWrongFalsely : Prop := fnExactSealRecordRow.holds Try.pinned (OpenSpec.ofChange fnExactSealRecordWrong)

/-- 'laws.FnExactEncodeTable': WHATEVER THE INPUT: true; the input reads as it did. -/
def fnExactEncodeTableSpec : ChangeSpec := { name := "fnExactEncodeTable", fn := fun _ => fun
  | [d] => { results := [.lit (.bool true)], args := [d] }
  | _ => none }
def fnExactEncodeTableRow : OpenClaim := { program := "ytagdfjbbnhdpiaa", sum := "4082608b8bfd8c82dd4533be8ded4453d9ada490ce10878b62bcbe0987d48c8d", func := "loop.example/g00456/laws.FnExactEncodeTable", spec := "fnExactEncodeTable", unfollowed := true, recurses := true, apart := false }
def FnExactEncodeTableSaid : Prop := fnExactEncodeTableRow.holds Try.pinned (OpenSpec.ofChange fnExactEncodeTableSpec)

/-- ITS FALSE NEIGHBOUR: 'it returns false'. Refute it at one input. -/
def fnExactEncodeTableWrong : ChangeSpec := { name := "fnExactEncodeTable", fn := fun _ => fun
  | [d] => { results := [.lit (.bool false)], args := [d] }
  | _ => none }
def FnExactEncodeTableWrongFalsely : Prop := fnExactEncodeTableRow.holds Try.pinned (OpenSpec.ofChange fnExactEncodeTableWrong)

/-- 'laws.FnExactEncodeRefs': WHATEVER THE INPUT: true; the input reads as it did. -/
def fnExactEncodeRefsSpec : ChangeSpec := { name := "fnExactEncodeRefs", fn := fun _ => fun
  | [d] => { results := [.lit (.bool true)], args := [d] }
  | _ => none }
def fnExactEncodeRefsRow : OpenClaim := { program := "ytagdfjbbnhdpiaa", sum := "4082608b8bfd8c82dd4533be8ded4453d9ada490ce10878b62bcbe0987d48c8d", func := "loop.example/g00456/laws.FnExactEncodeRefs", spec := "fnExactEncodeRefs", unfollowed := true, recurses := true, apart := false }
def FnExactEncodeRefsSaid : Prop := fnExactEncodeRefsRow.holds Try.pinned (OpenSpec.ofChange fnExactEncodeRefsSpec)

/-- ITS FALSE NEIGHBOUR: 'it returns false'. Refute it at one input. -/
def fnExactEncodeRefsWrong : ChangeSpec := { name := "fnExactEncodeRefs", fn := fun _ => fun
  | [d] => { results := [.lit (.bool false)], args := [d] }
  | _ => none }
def FnExactEncodeRefsWrongFalsely : Prop := fnExactEncodeRefsRow.holds Try.pinned (OpenSpec.ofChange fnExactEncodeRefsWrong)

/- THE SECOND FORM. 'bulk': how many values and letters a reading holds, each counted each time it is reached (what is shared counts as often as it is met; a slice's spare places count too). A statement '..UptoSaid' is the law's where the arguments, and the package variables that the reading takes, are together of bulk at most 1048576: NARROWER than '..Said'. Prove '..Said' where nothing that the law and all that it calls make is longer than what came in: it says more and counts as full. Else prove '..UptoSaid'. A law counts once. -/
mutual
def uptoBulk {H : Type} : DataW H → Nat
  | .lit (.string bytes) => bytes.length + 1
  | .lit _ => 1
  | .nil => 1
  | .ptr d => uptoBulk d + 1
  | .slice elems spare => uptoBulkAll elems + uptoBulkAll spare + 1
  | .agg parts => uptoBulkAll parts + 1
  | .iface _ d => uptoBulk d + 1
  | .map entries => uptoBulkEntries entries + 1
  | .held _ => 1
def uptoBulkAll {H : Type} : List (DataW H) → Nat
  | [] => 0
  | d :: r => uptoBulk d + uptoBulkAll r
def uptoBulkEntries {H : Type} : List (Lit × DataW H) → Nat
  | [] => 0
  | x :: r => uptoBulkEntry x + uptoBulkEntries r
def uptoBulkEntry {H : Type} : Lit × DataW H → Nat
  | (.string bytes, d) => bytes.length + uptoBulk d + 1
  | (_, d) => uptoBulk d + 1
 end
def uptoSmall : (H : Type) → List (DataW H) → Bool := fun _ ds => decide (uptoBulkAll ds ≤ 1048576)
def OpenSpec.upto (s : _root_.Go.ChangeSpec) : _root_.Go.OpenSpec := { _root_.Go.OpenSpec.ofChange s with cond := some uptoSmall }

/-- 'laws.FnExactPackInts', WHERE WHAT IT READS IS OF BULK AT MOST 1048576: true; the input reads as it did. -/
def fnExactPackIntsUptoRow : OpenClaim := { program := "ytagdfjbbnhdpiaa", sum := "4082608b8bfd8c82dd4533be8ded4453d9ada490ce10878b62bcbe0987d48c8d", func := "loop.example/g00456/laws.FnExactPackInts", spec := "fnExactPackInts", unfollowed := true, recurses := true, apart := false, narrowed := true }
def FnExactPackIntsUptoSaid : Prop := fnExactPackIntsUptoRow.holds Try.pinned (OpenSpec.upto fnExactPackIntsSpec)

/-- 'laws.FnExactRefSum', WHERE WHAT IT READS IS OF BULK AT MOST 1048576: true; the input reads as it did. -/
def fnExactRefSumUptoRow : OpenClaim := { program := "ytagdfjbbnhdpiaa", sum := "4082608b8bfd8c82dd4533be8ded4453d9ada490ce10878b62bcbe0987d48c8d", func := "loop.example/g00456/laws.FnExactRefSum", spec := "fnExactRefSum", unfollowed := true, recurses := true, apart := false, narrowed := true }
def FnExactRefSumUptoSaid : Prop := fnExactRefSumUptoRow.holds Try.pinned (OpenSpec.upto fnExactRefSumSpec)

/-- 'laws.FnExactUnpackInts', WHERE WHAT IT READS IS OF BULK AT MOST 1048576: true; the input reads as it did. -/
def fnExactUnpackIntsUptoRow : OpenClaim := { program := "ytagdfjbbnhdpiaa", sum := "4082608b8bfd8c82dd4533be8ded4453d9ada490ce10878b62bcbe0987d48c8d", func := "loop.example/g00456/laws.FnExactUnpackInts", spec := "fnExactUnpackInts", unfollowed := true, recurses := true, apart := false, narrowed := true }
def FnExactUnpackIntsUptoSaid : Prop := fnExactUnpackIntsUptoRow.holds Try.pinned (OpenSpec.upto fnExactUnpackIntsSpec)

/-- 'laws.FnExactFreeCluster', WHERE WHAT IT READS IS OF BULK AT MOST 1048576: true; the input reads as it did. -/
def fnExactFreeClusterUptoRow : OpenClaim := { program := "ytagdfjbbnhdpiaa", sum := "4082608b8bfd8c82dd4533be8ded4453d9ada490ce10878b62bcbe0987d48c8d", func := "loop.example/g00456/laws.FnExactFreeCluster", spec := "fnExactFreeCluster", unfollowed := true, recurses := true, apart := false, narrowed := true }
def FnExactFreeClusterUptoSaid : Prop := fnExactFreeClusterUptoRow.holds Try.pinned (OpenSpec.upto fnExactFreeClusterSpec)

/-- 'laws.FnExactClustersOf', WHERE WHAT IT READS IS OF BULK AT MOST 1048576: true; the input reads as it did. -/
def fnExactClustersOfUptoRow : OpenClaim := { program := "ytagdfjbbnhdpiaa", sum := "4082608b8bfd8c82dd4533be8ded4453d9ada490ce10878b62bcbe0987d48c8d", func := "loop.example/g00456/laws.FnExactClustersOf", spec := "fnExactClustersOf", unfollowed := true, recurses := true, apart := false, narrowed := true }
def FnExactClustersOfUptoSaid : Prop := fnExactClustersOfUptoRow.holds Try.pinned (OpenSpec.upto fnExactClustersOfSpec)

/-- 'laws.FnFree', WHERE WHAT IT READS IS OF BULK AT MOST 1048576: true; the input reads as it did. -/
def fnFreeUptoRow : OpenClaim := { program := "ytagdfjbbnhdpiaa", sum := "4082608b8bfd8c82dd4533be8ded4453d9ada490ce10878b62bcbe0987d48c8d", func := "loop.example/g00456/laws.FnFree", spec := "fnFree", unfollowed := true, recurses := true, apart := false, narrowed := true }
def FnFreeUptoSaid : Prop := fnFreeUptoRow.holds Try.pinned (OpenSpec.upto fnFreeSpec)

/-- 'laws.FnExactResizeTable', WHERE WHAT IT READS IS OF BULK AT MOST 1048576: true; the input reads as it did. -/
def fnExactResizeTableUptoRow : OpenClaim := { program := "ytagdfjbbnhdpiaa", sum := "4082608b8bfd8c82dd4533be8ded4453d9ada490ce10878b62bcbe0987d48c8d", func := "loop.example/g00456/laws.FnExactResizeTable", spec := "fnExactResizeTable", unfollowed := true, recurses := true, apart := false, narrowed := true }
def FnExactResizeTableUptoSaid : Prop := fnExactResizeTableUptoRow.holds Try.pinned (OpenSpec.upto fnExactResizeTableSpec)

/-- 'laws.FnExactRefDown', WHERE WHAT IT READS IS OF BULK AT MOST 1048576: true; the input reads as it did. -/
def fnExactRefDownUptoRow : OpenClaim := { program := "ytagdfjbbnhdpiaa", sum := "4082608b8bfd8c82dd4533be8ded4453d9ada490ce10878b62bcbe0987d48c8d", func := "loop.example/g00456/laws.FnExactRefDown", spec := "fnExactRefDown", unfollowed := true, recurses := true, apart := false, narrowed := true }
def FnExactRefDownUptoSaid : Prop := fnExactRefDownUptoRow.holds Try.pinned (OpenSpec.upto fnExactRefDownSpec)

/-- 'laws.FnExactRefUp', WHERE WHAT IT READS IS OF BULK AT MOST 1048576: true; the input reads as it did. -/
def fnExactRefUpUptoRow : OpenClaim := { program := "ytagdfjbbnhdpiaa", sum := "4082608b8bfd8c82dd4533be8ded4453d9ada490ce10878b62bcbe0987d48c8d", func := "loop.example/g00456/laws.FnExactRefUp", spec := "fnExactRefUp", unfollowed := true, recurses := true, apart := false, narrowed := true }
def FnExactRefUpUptoSaid : Prop := fnExactRefUpUptoRow.holds Try.pinned (OpenSpec.upto fnExactRefUpSpec)

/-- 'laws.FnExactSealRecord', WHERE WHAT IT READS IS OF BULK AT MOST 1048576: true; the input reads as it did. -/
def fnExactSealRecordUptoRow : OpenClaim := { program := "ytagdfjbbnhdpiaa", sum := "4082608b8bfd8c82dd4533be8ded4453d9ada490ce10878b62bcbe0987d48c8d", func := "loop.example/g00456/laws.FnExactSealRecord", spec := "fnExactSealRecord", unfollowed := true, recurses := true, apart := false, narrowed := true }
def FnExactSealRecordUptoSaid : Prop := fnExactSealRecordUptoRow.holds Try.pinned (OpenSpec.upto fnExactSealRecordSpec)

/-- 'laws.FnExactEncodeTable', WHERE WHAT IT READS IS OF BULK AT MOST 1048576: true; the input reads as it did. -/
def fnExactEncodeTableUptoRow : OpenClaim := { program := "ytagdfjbbnhdpiaa", sum := "4082608b8bfd8c82dd4533be8ded4453d9ada490ce10878b62bcbe0987d48c8d", func := "loop.example/g00456/laws.FnExactEncodeTable", spec := "fnExactEncodeTable", unfollowed := true, recurses := true, apart := false, narrowed := true }
def FnExactEncodeTableUptoSaid : Prop := fnExactEncodeTableUptoRow.holds Try.pinned (OpenSpec.upto fnExactEncodeTableSpec)

/-- 'laws.FnExactEncodeRefs', WHERE WHAT IT READS IS OF BULK AT MOST 1048576: true; the input reads as it did. -/
def fnExactEncodeRefsUptoRow : OpenClaim := { program := "ytagdfjbbnhdpiaa", sum := "4082608b8bfd8c82dd4533be8ded4453d9ada490ce10878b62bcbe0987d48c8d", func := "loop.example/g00456/laws.FnExactEncodeRefs", spec := "fnExactEncodeRefs", unfollowed := true, recurses := true, apart := false, narrowed := true }
def FnExactEncodeRefsUptoSaid : Prop := fnExactEncodeRefsUptoRow.holds Try.pinned (OpenSpec.upto fnExactEncodeRefsSpec)

end Rows
end Go.Proofs.Ytagdfjbbnhdpiaa
