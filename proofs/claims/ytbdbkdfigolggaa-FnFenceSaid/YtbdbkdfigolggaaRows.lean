/-
  No cell of these rows narrows 'for every input' (looked for: loops, veiled, ifaces, maps, wideKeys, modest, calm, conditions, laid).
  DERIVED. THE GIVEN ROWS OF THIS SEAT. 12 by the template 'for every input the law returns true; each argument reads behind the call as it read before'; 0 by the template 'total and deterministic' (their statements: YtbdbkdfigolggaaTotals.lean).
  GIVEN WITH THE SEED: the statements are not yours to turn. If you find one false, say at which input.
  Laid BY PROGRAM, IN A SANDBOX (cutbox-rows.mjs): the forced cells as the released guide's own fill.sh prints them over the translation f19112c611835f96… (all of the seat's roots in one cut). By AI agents, Wed Nov 11 2026. No macro, syntax, notation, axiom, sorry.
-/
import Derived.Test.YtbdbkdfigolggaaChecked
import GoSem.Claim
import GoSem.ClaimJoined
import GoSem.ClaimMapViews
import Derived.JoinedTies
import Derived.KernelRfl
namespace Go.Proofs.Ytbdbkdfigolggaa
/- THE CELL 'sum', in the pinned program and in every row, IS THE sha256 OF THE DUMP (.gsa) THAT YtbdbkdfigolggaaProg.lean LOADS. Nothing in Lean hashes anything: it is a label: what it is worth is what the hold of that sum in a sandbox is worth. -/
noncomputable def Try.pinned : Pinned := { name := "ytbdbkdfigolggaa", sum := "f19112c611835f961533e1abf079998f53a04ed86befb8757361e162d439f0ec", checked := Try.checked }
namespace Rows
def none {H : Type} : Left H := { results := [], args := [] }

/-- 'laws.FnExactPxOK': WHATEVER THE INPUT: true; the input reads as it did. -/
def fnExactPxOKSpec : ChangeSpec := { name := "fnExactPxOK", fn := fun _ => fun
  | [d] => { results := [.lit (.bool true)], args := [d] }
  | _ => none }
def fnExactPxOKRow : OpenClaim := { program := "ytbdbkdfigolggaa", sum := "f19112c611835f961533e1abf079998f53a04ed86befb8757361e162d439f0ec", func := "loop.example/g00456/laws.FnExactPxOK", spec := "fnExactPxOK", apart := false }
def FnExactPxOKSaid : Prop := fnExactPxOKRow.holds Try.pinned (OpenSpec.ofChange fnExactPxOKSpec)

/-- ITS FALSE NEIGHBOUR: 'it returns false'. Refute it at one input. -/
def fnExactPxOKWrong : ChangeSpec := { name := "fnExactPxOK", fn := fun _ => fun
  | [d] => { results := [.lit (.bool false)], args := [d] }
  | _ => none }
def FnExactPxOKWrongFalsely : Prop := fnExactPxOKRow.holds Try.pinned (OpenSpec.ofChange fnExactPxOKWrong)

/-- 'laws.FnExactConfigOK': WHATEVER THE INPUT: true; the input reads as it did. -/
def fnExactConfigOKSpec : ChangeSpec := { name := "fnExactConfigOK", fn := fun _ => fun
  | [d] => { results := [.lit (.bool true)], args := [d] }
  | _ => none }
def fnExactConfigOKRow : OpenClaim := { program := "ytbdbkdfigolggaa", sum := "f19112c611835f961533e1abf079998f53a04ed86befb8757361e162d439f0ec", func := "loop.example/g00456/laws.FnExactConfigOK", spec := "fnExactConfigOK", apart := false }
def FnExactConfigOKSaid : Prop := fnExactConfigOKRow.holds Try.pinned (OpenSpec.ofChange fnExactConfigOKSpec)

/-- ITS FALSE NEIGHBOUR: 'it returns false'. Refute it at one input. -/
def fnExactConfigOKWrong : ChangeSpec := { name := "fnExactConfigOK", fn := fun _ => fun
  | [d] => { results := [.lit (.bool false)], args := [d] }
  | _ => none }
def FnExactConfigOKWrongFalsely : Prop := fnExactConfigOKRow.holds Try.pinned (OpenSpec.ofChange fnExactConfigOKWrong)

/-- 'laws.FnExactFenceAt': WHATEVER THE INPUT: true; the input reads as it did. -/
def fnExactFenceAtSpec : ChangeSpec := { name := "fnExactFenceAt", fn := fun _ => fun
  | [d1, d2] => { results := [.lit (.bool true)], args := [d1, d2] }
  | _ => none }
def fnExactFenceAtRow : OpenClaim := { program := "ytbdbkdfigolggaa", sum := "f19112c611835f961533e1abf079998f53a04ed86befb8757361e162d439f0ec", func := "loop.example/g00456/laws.FnExactFenceAt", spec := "fnExactFenceAt", apart := false }
def FnExactFenceAtSaid : Prop := fnExactFenceAtRow.holds Try.pinned (OpenSpec.ofChange fnExactFenceAtSpec)

/-- ITS FALSE NEIGHBOUR: 'it returns false'. Refute it at one input. -/
def fnExactFenceAtWrong : ChangeSpec := { name := "fnExactFenceAt", fn := fun _ => fun
  | [d1, d2] => { results := [.lit (.bool false)], args := [d1, d2] }
  | _ => none }
def FnExactFenceAtWrongFalsely : Prop := fnExactFenceAtRow.holds Try.pinned (OpenSpec.ofChange fnExactFenceAtWrong)

/-- 'laws.FnExactSeemsDead': WHATEVER THE INPUT: true; the input reads as it did. -/
def fnExactSeemsDeadSpec : ChangeSpec := { name := "fnExactSeemsDead", fn := fun _ => fun
  | [d1, d2, d3] => { results := [.lit (.bool true)], args := [d1, d2, d3] }
  | _ => none }
def fnExactSeemsDeadRow : OpenClaim := { program := "ytbdbkdfigolggaa", sum := "f19112c611835f961533e1abf079998f53a04ed86befb8757361e162d439f0ec", func := "loop.example/g00456/laws.FnExactSeemsDead", spec := "fnExactSeemsDead", apart := false }
def FnExactSeemsDeadSaid : Prop := fnExactSeemsDeadRow.holds Try.pinned (OpenSpec.ofChange fnExactSeemsDeadSpec)

/-- ITS FALSE NEIGHBOUR: 'it returns false'. Refute it at one input. -/
def fnExactSeemsDeadWrong : ChangeSpec := { name := "fnExactSeemsDead", fn := fun _ => fun
  | [d1, d2, d3] => { results := [.lit (.bool false)], args := [d1, d2, d3] }
  | _ => none }
def FnExactSeemsDeadWrongFalsely : Prop := fnExactSeemsDeadRow.holds Try.pinned (OpenSpec.ofChange fnExactSeemsDeadWrong)

/-- 'laws.FnExactLatestTrue': WHATEVER THE INPUT: true; the input reads as it did. -/
def fnExactLatestTrueSpec : ChangeSpec := { name := "fnExactLatestTrue", fn := fun _ => fun
  | [d1, d2] => { results := [.lit (.bool true)], args := [d1, d2] }
  | _ => none }
def fnExactLatestTrueRow : OpenClaim := { program := "ytbdbkdfigolggaa", sum := "f19112c611835f961533e1abf079998f53a04ed86befb8757361e162d439f0ec", func := "loop.example/g00456/laws.FnExactLatestTrue", spec := "fnExactLatestTrue", apart := false }
def FnExactLatestTrueSaid : Prop := fnExactLatestTrueRow.holds Try.pinned (OpenSpec.ofChange fnExactLatestTrueSpec)

/-- ITS FALSE NEIGHBOUR: 'it returns false'. Refute it at one input. -/
def fnExactLatestTrueWrong : ChangeSpec := { name := "fnExactLatestTrue", fn := fun _ => fun
  | [d1, d2] => { results := [.lit (.bool false)], args := [d1, d2] }
  | _ => none }
def FnExactLatestTrueWrongFalsely : Prop := fnExactLatestTrueRow.holds Try.pinned (OpenSpec.ofChange fnExactLatestTrueWrong)

/-- 'laws.FnExactEarliestTrue': WHATEVER THE INPUT: true; the input reads as it did. -/
def fnExactEarliestTrueSpec : ChangeSpec := { name := "fnExactEarliestTrue", fn := fun _ => fun
  | [d1, d2] => { results := [.lit (.bool true)], args := [d1, d2] }
  | _ => none }
def fnExactEarliestTrueRow : OpenClaim := { program := "ytbdbkdfigolggaa", sum := "f19112c611835f961533e1abf079998f53a04ed86befb8757361e162d439f0ec", func := "loop.example/g00456/laws.FnExactEarliestTrue", spec := "fnExactEarliestTrue", apart := false }
def FnExactEarliestTrueSaid : Prop := fnExactEarliestTrueRow.holds Try.pinned (OpenSpec.ofChange fnExactEarliestTrueSpec)

/-- ITS FALSE NEIGHBOUR: 'it returns false'. Refute it at one input. -/
def fnExactEarliestTrueWrong : ChangeSpec := { name := "fnExactEarliestTrue", fn := fun _ => fun
  | [d1, d2] => { results := [.lit (.bool false)], args := [d1, d2] }
  | _ => none }
def FnExactEarliestTrueWrongFalsely : Prop := fnExactEarliestTrueRow.holds Try.pinned (OpenSpec.ofChange fnExactEarliestTrueWrong)

/-- 'laws.FnExactPxStart': WHATEVER THE INPUT: true; the input reads as it did. -/
def fnExactPxStartSpec : ChangeSpec := { name := "fnExactPxStart", fn := fun _ => fun
  | [d1, d2, d3, d4] => { results := [.lit (.bool true)], args := [d1, d2, d3, d4] }
  | _ => none }
def fnExactPxStartRow : OpenClaim := { program := "ytbdbkdfigolggaa", sum := "f19112c611835f961533e1abf079998f53a04ed86befb8757361e162d439f0ec", func := "loop.example/g00456/laws.FnExactPxStart", spec := "fnExactPxStart", apart := false }
def FnExactPxStartSaid : Prop := fnExactPxStartRow.holds Try.pinned (OpenSpec.ofChange fnExactPxStartSpec)

/-- ITS FALSE NEIGHBOUR: 'it returns false'. Refute it at one input. -/
def fnExactPxStartWrong : ChangeSpec := { name := "fnExactPxStart", fn := fun _ => fun
  | [d1, d2, d3, d4] => { results := [.lit (.bool false)], args := [d1, d2, d3, d4] }
  | _ => none }
def FnExactPxStartWrongFalsely : Prop := fnExactPxStartRow.holds Try.pinned (OpenSpec.ofChange fnExactPxStartWrong)

/-- 'laws.FnBounds': WHATEVER THE INPUT: true; the input reads as it did. -/
def fnBoundsSpec : ChangeSpec := { name := "fnBounds", fn := fun _ => fun
  | [d1, d2] => { results := [.lit (.bool true)], args := [d1, d2] }
  | _ => none }
def fnBoundsRow : OpenClaim := { program := "ytbdbkdfigolggaa", sum := "f19112c611835f961533e1abf079998f53a04ed86befb8757361e162d439f0ec", func := "loop.example/g00456/laws.FnBounds", spec := "fnBounds", apart := false }
def FnBoundsSaid : Prop := fnBoundsRow.holds Try.pinned (OpenSpec.ofChange fnBoundsSpec)

/-- ITS FALSE NEIGHBOUR: 'it returns false'. Refute it at one input. -/
def fnBoundsWrong : ChangeSpec := { name := "fnBounds", fn := fun _ => fun
  | [d1, d2] => { results := [.lit (.bool false)], args := [d1, d2] }
  | _ => none }
def FnBoundsWrongFalsely : Prop := fnBoundsRow.holds Try.pinned (OpenSpec.ofChange fnBoundsWrong)

/-- 'laws.FnFence': WHATEVER THE INPUT: true; the input reads as it did. -/
def fnFenceSpec : ChangeSpec := { name := "fnFence", fn := fun _ => fun
  | [d1, d2] => { results := [.lit (.bool true)], args := [d1, d2] }
  | _ => none }
def fnFenceRow : OpenClaim := { program := "ytbdbkdfigolggaa", sum := "f19112c611835f961533e1abf079998f53a04ed86befb8757361e162d439f0ec", func := "loop.example/g00456/laws.FnFence", spec := "fnFence", apart := false }
def FnFenceSaid : Prop := fnFenceRow.holds Try.pinned (OpenSpec.ofChange fnFenceSpec)

/-- ITS FALSE NEIGHBOUR: 'it returns false'. Refute it at one input. -/
def fnFenceWrong : ChangeSpec := { name := "fnFence", fn := fun _ => fun
  | [d1, d2] => { results := [.lit (.bool false)], args := [d1, d2] }
  | _ => none }
def FnFenceWrongFalsely : Prop := fnFenceRow.holds Try.pinned (OpenSpec.ofChange fnFenceWrong)

/-- 'laws.FnExactRefsOK': WHATEVER THE INPUT: true; the input reads as it did. -/
def fnExactRefsOKSpec : ChangeSpec := { name := "fnExactRefsOK", fn := fun _ => fun
  | [d] => { results := [.lit (.bool true)], args := [d] }
  | _ => none }
def fnExactRefsOKRow : OpenClaim := { program := "ytbdbkdfigolggaa", sum := "f19112c611835f961533e1abf079998f53a04ed86befb8757361e162d439f0ec", func := "loop.example/g00456/laws.FnExactRefsOK", spec := "fnExactRefsOK", unfollowed := true, recurses := true, apart := false }
def FnExactRefsOKSaid : Prop := fnExactRefsOKRow.holds Try.pinned (OpenSpec.ofChange fnExactRefsOKSpec)

/-- ITS FALSE NEIGHBOUR: 'it returns false'. Refute it at one input. -/
def fnExactRefsOKWrong : ChangeSpec := { name := "fnExactRefsOK", fn := fun _ => fun
  | [d] => { results := [.lit (.bool false)], args := [d] }
  | _ => none }
def FnExactRefsOKWrongFalsely : Prop := fnExactRefsOKRow.holds Try.pinned (OpenSpec.ofChange fnExactRefsOKWrong)

/-- 'laws.FnExactTableOK': WHATEVER THE INPUT: true; the input reads as it did. -/
def fnExactTableOKSpec : ChangeSpec := { name := "fnExactTableOK", fn := fun _ => fun
  | [d] => { results := [.lit (.bool true)], args := [d] }
  | _ => none }
def fnExactTableOKRow : OpenClaim := { program := "ytbdbkdfigolggaa", sum := "f19112c611835f961533e1abf079998f53a04ed86befb8757361e162d439f0ec", func := "loop.example/g00456/laws.FnExactTableOK", spec := "fnExactTableOK", unfollowed := true, recurses := true, apart := false }
def FnExactTableOKSaid : Prop := fnExactTableOKRow.holds Try.pinned (OpenSpec.ofChange fnExactTableOKSpec)

/-- ITS FALSE NEIGHBOUR: 'it returns false'. Refute it at one input. -/
def fnExactTableOKWrong : ChangeSpec := { name := "fnExactTableOK", fn := fun _ => fun
  | [d] => { results := [.lit (.bool false)], args := [d] }
  | _ => none }
def FnExactTableOKWrongFalsely : Prop := fnExactTableOKRow.holds Try.pinned (OpenSpec.ofChange fnExactTableOKWrong)

/-- 'laws.FnExactEntryOf': WHATEVER THE INPUT: true; the input reads as it did. -/
def fnExactEntryOfSpec : ChangeSpec := { name := "fnExactEntryOf", fn := fun _ => fun
  | [d1, d2] => { results := [.lit (.bool true)], args := [d1, d2] }
  | _ => none }
def fnExactEntryOfRow : OpenClaim := { program := "ytbdbkdfigolggaa", sum := "f19112c611835f961533e1abf079998f53a04ed86befb8757361e162d439f0ec", func := "loop.example/g00456/laws.FnExactEntryOf", spec := "fnExactEntryOf", unfollowed := true, recurses := true, apart := false }
def FnExactEntryOfSaid : Prop := fnExactEntryOfRow.holds Try.pinned (OpenSpec.ofChange fnExactEntryOfSpec)

/-- ITS FALSE NEIGHBOUR: 'it returns false'. Refute it at one input. -/
def fnExactEntryOfWrong : ChangeSpec := { name := "fnExactEntryOf", fn := fun _ => fun
  | [d1, d2] => { results := [.lit (.bool false)], args := [d1, d2] }
  | _ => none }
def FnExactEntryOfWrongFalsely : Prop := fnExactEntryOfRow.holds Try.pinned (OpenSpec.ofChange fnExactEntryOfWrong)

/- THE SECOND FORM. 'bulk': how many values and letters a reading holds, each counted each time it is reached (what is shared counts as often as it is met; a slice's spare places count too). A statement '..UptoSaid' is the law's where the arguments, and the package variables that the reading takes, are together of bulk at most 1048576: NARROWER than '..Said'. Prove '..Said' where nothing that the law and all that it calls make is longer than what came in: it says more and counts as full. Else prove '..UptoSaid'. A law counts once. -/
mutual
def uptoBulk {H : Type} : DataW H → Nat
  | .lit (.string bytes) => bytes.length + 1
  | .lit _ => 1
  | .nil => 1
  | .ptr d => uptoBulk d + 1
  | .slice elems spare => uptoBulkAll elems + uptoBulkAll spare + 1
  | .agg parts => uptoBulkAll parts + 1
  | .iface _ d => uptoBulk d + 1
  | .map entries => uptoBulkEntries entries + 1
  | .held _ => 1
def uptoBulkAll {H : Type} : List (DataW H) → Nat
  | [] => 0
  | d :: r => uptoBulk d + uptoBulkAll r
def uptoBulkEntries {H : Type} : List (Lit × DataW H) → Nat
  | [] => 0
  | x :: r => uptoBulkEntry x + uptoBulkEntries r
def uptoBulkEntry {H : Type} : Lit × DataW H → Nat
  | (.string bytes, d) => bytes.length + uptoBulk d + 1
  | (_, d) => uptoBulk d + 1
 end
def uptoSmall : (H : Type) → List (DataW H) → Bool := fun _ ds => decide (uptoBulkAll ds ≤ 1048576)
def OpenSpec.upto (s : _root_.Go.ChangeSpec) : _root_.Go.OpenSpec := { _root_.Go.OpenSpec.ofChange s with cond := some uptoSmall }

/-- 'laws.FnExactPxOK', WHERE WHAT IT READS IS OF BULK AT MOST 1048576: true; the input reads as it did. -/
def fnExactPxOKUptoRow : OpenClaim := { program := "ytbdbkdfigolggaa", sum := "f19112c611835f961533e1abf079998f53a04ed86befb8757361e162d439f0ec", func := "loop.example/g00456/laws.FnExactPxOK", spec := "fnExactPxOK", apart := false, narrowed := true }
def FnExactPxOKUptoSaid : Prop := fnExactPxOKUptoRow.holds Try.pinned (OpenSpec.upto fnExactPxOKSpec)

/-- 'laws.FnExactConfigOK', WHERE WHAT IT READS IS OF BULK AT MOST 1048576: true; the input reads as it did. -/
def fnExactConfigOKUptoRow : OpenClaim := { program := "ytbdbkdfigolggaa", sum := "f19112c611835f961533e1abf079998f53a04ed86befb8757361e162d439f0ec", func := "loop.example/g00456/laws.FnExactConfigOK", spec := "fnExactConfigOK", apart := false, narrowed := true }
def FnExactConfigOKUptoSaid : Prop := fnExactConfigOKUptoRow.holds Try.pinned (OpenSpec.upto fnExactConfigOKSpec)

/-- 'laws.FnExactFenceAt', WHERE WHAT IT READS IS OF BULK AT MOST 1048576: true; the input reads as it did. -/
def fnExactFenceAtUptoRow : OpenClaim := { program := "ytbdbkdfigolggaa", sum := "f19112c611835f961533e1abf079998f53a04ed86befb8757361e162d439f0ec", func := "loop.example/g00456/laws.FnExactFenceAt", spec := "fnExactFenceAt", apart := false, narrowed := true }
def FnExactFenceAtUptoSaid : Prop := fnExactFenceAtUptoRow.holds Try.pinned (OpenSpec.upto fnExactFenceAtSpec)

/-- 'laws.FnExactSeemsDead', WHERE WHAT IT READS IS OF BULK AT MOST 1048576: true; the input reads as it did. -/
def fnExactSeemsDeadUptoRow : OpenClaim := { program := "ytbdbkdfigolggaa", sum := "f19112c611835f961533e1abf079998f53a04ed86befb8757361e162d439f0ec", func := "loop.example/g00456/laws.FnExactSeemsDead", spec := "fnExactSeemsDead", apart := false, narrowed := true }
def FnExactSeemsDeadUptoSaid : Prop := fnExactSeemsDeadUptoRow.holds Try.pinned (OpenSpec.upto fnExactSeemsDeadSpec)

/-- 'laws.FnExactLatestTrue', WHERE WHAT IT READS IS OF BULK AT MOST 1048576: true; the input reads as it did. -/
def fnExactLatestTrueUptoRow : OpenClaim := { program := "ytbdbkdfigolggaa", sum := "f19112c611835f961533e1abf079998f53a04ed86befb8757361e162d439f0ec", func := "loop.example/g00456/laws.FnExactLatestTrue", spec := "fnExactLatestTrue", apart := false, narrowed := true }
def FnExactLatestTrueUptoSaid : Prop := fnExactLatestTrueUptoRow.holds Try.pinned (OpenSpec.upto fnExactLatestTrueSpec)

/-- 'laws.FnExactEarliestTrue', WHERE WHAT IT READS IS OF BULK AT MOST 1048576: true; the input reads as it did. -/
def fnExactEarliestTrueUptoRow : OpenClaim := { program := "ytbdbkdfigolggaa", sum := "f19112c611835f961533e1abf079998f53a04ed86befb8757361e162d439f0ec", func := "loop.example/g00456/laws.FnExactEarliestTrue", spec := "fnExactEarliestTrue", apart := false, narrowed := true }
def FnExactEarliestTrueUptoSaid : Prop := fnExactEarliestTrueUptoRow.holds Try.pinned (OpenSpec.upto fnExactEarliestTrueSpec)

/-- 'laws.FnExactPxStart', WHERE WHAT IT READS IS OF BULK AT MOST 1048576: true; the input reads as it did. -/
def fnExactPxStartUptoRow : OpenClaim := { program := "ytbdbkdfigolggaa", sum := "f19112c611835f961533e1abf079998f53a04ed86befb8757361e162d439f0ec", func := "loop.example/g00456/laws.FnExactPxStart", spec := "fnExactPxStart", apart := false, narrowed := true }
def FnExactPxStartUptoSaid : Prop := fnExactPxStartUptoRow.holds Try.pinned (OpenSpec.upto fnExactPxStartSpec)

/-- 'laws.FnBounds', WHERE WHAT IT READS IS OF BULK AT MOST 1048576: true; the input reads as it did. -/
def fnBoundsUptoRow : OpenClaim := { program := "ytbdbkdfigolggaa", sum := "f19112c611835f961533e1abf079998f53a04ed86befb8757361e162d439f0ec", func := "loop.example/g00456/laws.FnBounds", spec := "fnBounds", apart := false, narrowed := true }
def FnBoundsUptoSaid : Prop := fnBoundsUptoRow.holds Try.pinned (OpenSpec.upto fnBoundsSpec)

/-- 'laws.FnFence', WHERE WHAT IT READS IS OF BULK AT MOST 1048576: true; the input reads as it did. -/
def fnFenceUptoRow : OpenClaim := { program := "ytbdbkdfigolggaa", sum := "f19112c611835f961533e1abf079998f53a04ed86befb8757361e162d439f0ec", func := "loop.example/g00456/laws.FnFence", spec := "fnFence", apart := false, narrowed := true }
def FnFenceUptoSaid : Prop := fnFenceUptoRow.holds Try.pinned (OpenSpec.upto fnFenceSpec)

/-- 'laws.FnExactRefsOK', WHERE WHAT IT READS IS OF BULK AT MOST 1048576: true; the input reads as it did. -/
def fnExactRefsOKUptoRow : OpenClaim := { program := "ytbdbkdfigolggaa", sum := "f19112c611835f961533e1abf079998f53a04ed86befb8757361e162d439f0ec", func := "loop.example/g00456/laws.FnExactRefsOK", spec := "fnExactRefsOK", unfollowed := true, recurses := true, apart := false, narrowed := true }
def FnExactRefsOKUptoSaid : Prop := fnExactRefsOKUptoRow.holds Try.pinned (OpenSpec.upto fnExactRefsOKSpec)

/-- 'laws.FnExactTableOK', WHERE WHAT IT READS IS OF BULK AT MOST 1048576: true; the input reads as it did. -/
def fnExactTableOKUptoRow : OpenClaim := { program := "ytbdbkdfigolggaa", sum := "f19112c611835f961533e1abf079998f53a04ed86befb8757361e162d439f0ec", func := "loop.example/g00456/laws.FnExactTableOK", spec := "fnExactTableOK", unfollowed := true, recurses := true, apart := false, narrowed := true }
def FnExactTableOKUptoSaid : Prop := fnExactTableOKUptoRow.holds Try.pinned (OpenSpec.upto fnExactTableOKSpec)

/-- 'laws.FnExactEntryOf', WHERE WHAT IT READS IS OF BULK AT MOST 1048576: true; the input reads as it did. -/
def fnExactEntryOfUptoRow : OpenClaim := { program := "ytbdbkdfigolggaa", sum := "f19112c611835f961533e1abf079998f53a04ed86befb8757361e162d439f0ec", func := "loop.example/g00456/laws.FnExactEntryOf", spec := "fnExactEntryOf", unfollowed := true, recurses := true, apart := false, narrowed := true }
def FnExactEntryOfUptoSaid : Prop := fnExactEntryOfUptoRow.holds Try.pinned (OpenSpec.upto fnExactEntryOfSpec)

end Rows
end Go.Proofs.Ytbdbkdfigolggaa
