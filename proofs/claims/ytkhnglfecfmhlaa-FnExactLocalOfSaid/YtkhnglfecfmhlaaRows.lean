/-
  No cell of these rows narrows 'for every input' (looked for: loops, veiled, ifaces, maps, wideKeys, modest, calm, conditions, laid).
  DERIVED. THE GIVEN ROWS OF THIS SEAT. 12 by the template 'for every input the law returns true; each argument reads behind the call as it read before'; 0 by the template 'total and deterministic' (their statements: YtkhnglfecfmhlaaTotals.lean).
  GIVEN WITH THE SEED: the statements are not yours to turn. If you find one false, say at which input.
  Laid BY PROGRAM, IN A SANDBOX (cutbox-rows.mjs): the forced cells as the released guide's own fill.sh prints them over the translation a7e793776b7d102b… (all of the seat's roots in one cut). By AI agents, Wed Nov 11 2026. No macro, syntax, notation, axiom, sorry.
-/
import Derived.Test.YtkhnglfecfmhlaaChecked
import GoSem.Claim
import GoSem.ClaimJoined
import GoSem.ClaimMapViews
import Derived.JoinedTies
import Derived.KernelRfl
namespace Go.Proofs.Ytkhnglfecfmhlaa
/- THE CELL 'sum', in the pinned program and in every row, IS THE sha256 OF THE DUMP (.gsa) THAT YtkhnglfecfmhlaaProg.lean LOADS. Nothing in Lean hashes anything: it is a label: what it is worth is what the hold of that sum in a sandbox is worth. -/
noncomputable def Try.pinned : Pinned := { name := "ytkhnglfecfmhlaa", sum := "a7e793776b7d102bd99735caa5e039449840e7cdd34aea1e5856bbc5cdb0d280", checked := Try.checked }
namespace Rows
def none {H : Type} : Left H := { results := [], args := [] }

/-- 'laws.FnExactConstants': WHATEVER THE INPUT: true; the input reads as it did. -/
def fnExactConstantsSpec : ChangeSpec := { name := "fnExactConstants", fn := fun _ => fun
  | [] => { results := [.lit (.bool true)], args := [] }
  | _ => none }
def fnExactConstantsRow : OpenClaim := { program := "ytkhnglfecfmhlaa", sum := "a7e793776b7d102bd99735caa5e039449840e7cdd34aea1e5856bbc5cdb0d280", func := "loop.example/g00456/laws.FnExactConstants", spec := "fnExactConstants", apart := false }
def FnExactConstantsSaid : Prop := fnExactConstantsRow.holds Try.pinned (OpenSpec.ofChange fnExactConstantsSpec)

/-- ITS FALSE NEIGHBOUR: 'it returns false'. Refute it at one input. -/
def fnExactConstantsWrong : ChangeSpec := { name := "fnExactConstants", fn := fun _ => fun
  | [] => { results := [.lit (.bool false)], args := [] }
  | _ => none }
def FnExactConstantsWrongFalsely : Prop := fnExactConstantsRow.holds Try.pinned (OpenSpec.ofChange fnExactConstantsWrong)

/-- 'laws.FnExactCodeWord': WHATEVER THE INPUT: true; the input reads as it did. -/
def fnExactCodeWordSpec : ChangeSpec := { name := "fnExactCodeWord", fn := fun _ => fun
  | [d] => { results := [.lit (.bool true)], args := [d] }
  | _ => none }
def fnExactCodeWordRow : OpenClaim := { program := "ytkhnglfecfmhlaa", sum := "a7e793776b7d102bd99735caa5e039449840e7cdd34aea1e5856bbc5cdb0d280", func := "loop.example/g00456/laws.FnExactCodeWord", spec := "fnExactCodeWord", apart := false }
def FnExactCodeWordSaid : Prop := fnExactCodeWordRow.holds Try.pinned (OpenSpec.ofChange fnExactCodeWordSpec)

/-- ITS FALSE NEIGHBOUR: 'it returns false'. Refute it at one input. -/
def fnExactCodeWordWrong : ChangeSpec := { name := "fnExactCodeWord", fn := fun _ => fun
  | [d] => { results := [.lit (.bool false)], args := [d] }
  | _ => none }
def FnExactCodeWordWrongFalsely : Prop := fnExactCodeWordRow.holds Try.pinned (OpenSpec.ofChange fnExactCodeWordWrong)

/-- 'laws.FnExactDeltaOK': WHATEVER THE INPUT: true; the input reads as it did. -/
def fnExactDeltaOKSpec : ChangeSpec := { name := "fnExactDeltaOK", fn := fun _ => fun
  | [d] => { results := [.lit (.bool true)], args := [d] }
  | _ => none }
def fnExactDeltaOKRow : OpenClaim := { program := "ytkhnglfecfmhlaa", sum := "a7e793776b7d102bd99735caa5e039449840e7cdd34aea1e5856bbc5cdb0d280", func := "loop.example/g00456/laws.FnExactDeltaOK", spec := "fnExactDeltaOK", apart := false }
def FnExactDeltaOKSaid : Prop := fnExactDeltaOKRow.holds Try.pinned (OpenSpec.ofChange fnExactDeltaOKSpec)

/-- ITS FALSE NEIGHBOUR: 'it returns false'. Refute it at one input. -/
def fnExactDeltaOKWrong : ChangeSpec := { name := "fnExactDeltaOK", fn := fun _ => fun
  | [d] => { results := [.lit (.bool false)], args := [d] }
  | _ => none }
def FnExactDeltaOKWrongFalsely : Prop := fnExactDeltaOKRow.holds Try.pinned (OpenSpec.ofChange fnExactDeltaOKWrong)

/-- 'laws.FnExactBlockOK': WHATEVER THE INPUT: true; the input reads as it did. -/
def fnExactBlockOKSpec : ChangeSpec := { name := "fnExactBlockOK", fn := fun _ => fun
  | [d] => { results := [.lit (.bool true)], args := [d] }
  | _ => none }
def fnExactBlockOKRow : OpenClaim := { program := "ytkhnglfecfmhlaa", sum := "a7e793776b7d102bd99735caa5e039449840e7cdd34aea1e5856bbc5cdb0d280", func := "loop.example/g00456/laws.FnExactBlockOK", spec := "fnExactBlockOK", apart := false }
def FnExactBlockOKSaid : Prop := fnExactBlockOKRow.holds Try.pinned (OpenSpec.ofChange fnExactBlockOKSpec)

/-- ITS FALSE NEIGHBOUR: 'it returns false'. Refute it at one input. -/
def fnExactBlockOKWrong : ChangeSpec := { name := "fnExactBlockOK", fn := fun _ => fun
  | [d] => { results := [.lit (.bool false)], args := [d] }
  | _ => none }
def FnExactBlockOKWrongFalsely : Prop := fnExactBlockOKRow.holds Try.pinned (OpenSpec.ofChange fnExactBlockOKWrong)

/-- 'laws.FnExactSlotOf': WHATEVER THE INPUT: true; the input reads as it did. -/
def fnExactSlotOfSpec : ChangeSpec := { name := "fnExactSlotOf", fn := fun _ => fun
  | [d] => { results := [.lit (.bool true)], args := [d] }
  | _ => none }
def fnExactSlotOfRow : OpenClaim := { program := "ytkhnglfecfmhlaa", sum := "a7e793776b7d102bd99735caa5e039449840e7cdd34aea1e5856bbc5cdb0d280", func := "loop.example/g00456/laws.FnExactSlotOf", spec := "fnExactSlotOf", apart := false }
def FnExactSlotOfSaid : Prop := fnExactSlotOfRow.holds Try.pinned (OpenSpec.ofChange fnExactSlotOfSpec)

/-- ITS FALSE NEIGHBOUR: 'it returns false'. Refute it at one input. -/
def fnExactSlotOfWrong : ChangeSpec := { name := "fnExactSlotOf", fn := fun _ => fun
  | [d] => { results := [.lit (.bool false)], args := [d] }
  | _ => none }
def FnExactSlotOfWrongFalsely : Prop := fnExactSlotOfRow.holds Try.pinned (OpenSpec.ofChange fnExactSlotOfWrong)

/-- 'laws.FnAgree': WHATEVER THE INPUT: true; the input reads as it did. -/
def fnAgreeSpec : ChangeSpec := { name := "fnAgree", fn := fun _ => fun
  | [d1, d2] => { results := [.lit (.bool true)], args := [d1, d2] }
  | _ => none }
def fnAgreeRow : OpenClaim := { program := "ytkhnglfecfmhlaa", sum := "a7e793776b7d102bd99735caa5e039449840e7cdd34aea1e5856bbc5cdb0d280", func := "loop.example/g00456/laws.FnAgree", spec := "fnAgree", unfollowed := true, recurses := true, apart := false }
def FnAgreeSaid : Prop := fnAgreeRow.holds Try.pinned (OpenSpec.ofChange fnAgreeSpec)

/-- ITS FALSE NEIGHBOUR: 'it returns false'. Refute it at one input. -/
def fnAgreeWrong : ChangeSpec := { name := "fnAgree", fn := fun _ => fun
  | [d1, d2] => { results := [.lit (.bool false)], args := [d1, d2] }
  | _ => none }
def FnAgreeWrongFalsely : Prop := fnAgreeRow.holds Try.pinned (OpenSpec.ofChange fnAgreeWrong)

/-- 'laws.FnExactLeaderOK': WHATEVER THE INPUT: true; the input reads as it did. -/
def fnExactLeaderOKSpec : ChangeSpec := { name := "fnExactLeaderOK", fn := fun _ => fun
  | [d] => { results := [.lit (.bool true)], args := [d] }
  | _ => none }
def fnExactLeaderOKRow : OpenClaim := { program := "ytkhnglfecfmhlaa", sum := "a7e793776b7d102bd99735caa5e039449840e7cdd34aea1e5856bbc5cdb0d280", func := "loop.example/g00456/laws.FnExactLeaderOK", spec := "fnExactLeaderOK", apart := false }
def FnExactLeaderOKSaid : Prop := fnExactLeaderOKRow.holds Try.pinned (OpenSpec.ofChange fnExactLeaderOKSpec)

/-- ITS FALSE NEIGHBOUR: 'it returns false'. Refute it at one input. -/
def fnExactLeaderOKWrong : ChangeSpec := { name := "fnExactLeaderOK", fn := fun _ => fun
  | [d] => { results := [.lit (.bool false)], args := [d] }
  | _ => none }
def FnExactLeaderOKWrongFalsely : Prop := fnExactLeaderOKRow.holds Try.pinned (OpenSpec.ofChange fnExactLeaderOKWrong)

/-- 'laws.FnExactLocalOf': WHATEVER THE INPUT: true; the input reads as it did. -/
def fnExactLocalOfSpec : ChangeSpec := { name := "fnExactLocalOf", fn := fun _ => fun
  | [d1, d2] => { results := [.lit (.bool true)], args := [d1, d2] }
  | _ => none }
def fnExactLocalOfRow : OpenClaim := { program := "ytkhnglfecfmhlaa", sum := "a7e793776b7d102bd99735caa5e039449840e7cdd34aea1e5856bbc5cdb0d280", func := "loop.example/g00456/laws.FnExactLocalOf", spec := "fnExactLocalOf", apart := false }
def FnExactLocalOfSaid : Prop := fnExactLocalOfRow.holds Try.pinned (OpenSpec.ofChange fnExactLocalOfSpec)

/-- ITS FALSE NEIGHBOUR: 'it returns false'. Refute it at one input. -/
def fnExactLocalOfWrong : ChangeSpec := { name := "fnExactLocalOf", fn := fun _ => fun
  | [d1, d2] => { results := [.lit (.bool false)], args := [d1, d2] }
  | _ => none }
def FnExactLocalOfWrongFalsely : Prop := fnExactLocalOfRow.holds Try.pinned (OpenSpec.ofChange fnExactLocalOfWrong)

/-- 'laws.FnExactNameOK': WHATEVER THE INPUT: true; the input reads as it did. -/
def fnExactNameOKSpec : ChangeSpec := { name := "fnExactNameOK", fn := fun _ => fun
  | [d] => { results := [.lit (.bool true)], args := [d] }
  | _ => none }
def fnExactNameOKRow : OpenClaim := { program := "ytkhnglfecfmhlaa", sum := "a7e793776b7d102bd99735caa5e039449840e7cdd34aea1e5856bbc5cdb0d280", func := "loop.example/g00456/laws.FnExactNameOK", spec := "fnExactNameOK", apart := false }
def FnExactNameOKSaid : Prop := fnExactNameOKRow.holds Try.pinned (OpenSpec.ofChange fnExactNameOKSpec)

/-- ITS FALSE NEIGHBOUR: 'it returns false'. Refute it at one input. -/
def fnExactNameOKWrong : ChangeSpec := { name := "fnExactNameOK", fn := fun _ => fun
  | [d] => { results := [.lit (.bool false)], args := [d] }
  | _ => none }
def FnExactNameOKWrongFalsely : Prop := fnExactNameOKRow.holds Try.pinned (OpenSpec.ofChange fnExactNameOKWrong)

/-- 'laws.FnExactCodeOf': WHATEVER THE INPUT: true; the input reads as it did. -/
def fnExactCodeOfSpec : ChangeSpec := { name := "fnExactCodeOf", fn := fun _ => fun
  | [d] => { results := [.lit (.bool true)], args := [d] }
  | _ => none }
def fnExactCodeOfRow : OpenClaim := { program := "ytkhnglfecfmhlaa", sum := "a7e793776b7d102bd99735caa5e039449840e7cdd34aea1e5856bbc5cdb0d280", func := "loop.example/g00456/laws.FnExactCodeOf", spec := "fnExactCodeOf", apart := false }
def FnExactCodeOfSaid : Prop := fnExactCodeOfRow.holds Try.pinned (OpenSpec.ofChange fnExactCodeOfSpec)

/-- ITS FALSE NEIGHBOUR: 'it returns false'. Refute it at one input. -/
def fnExactCodeOfWrong : ChangeSpec := { name := "fnExactCodeOf", fn := fun _ => fun
  | [d] => { results := [.lit (.bool false)], args := [d] }
  | _ => none }
def FnExactCodeOfWrongFalsely : Prop := fnExactCodeOfRow.holds Try.pinned (OpenSpec.ofChange fnExactCodeOfWrong)

/-- 'laws.FnExactSumOf': WHATEVER THE INPUT: true; the input reads as it did. -/
def fnExactSumOfSpec : ChangeSpec := { name := "fnExactSumOf", fn := fun _ => fun
  | [d] => { results := [.lit (.bool true)], args := [d] }
  | _ => none }
def fnExactSumOfRow : OpenClaim := { program := "ytkhnglfecfmhlaa", sum := "a7e793776b7d102bd99735caa5e039449840e7cdd34aea1e5856bbc5cdb0d280", func := "loop.example/g00456/laws.FnExactSumOf", spec := "fnExactSumOf", apart := false }
def FnExactSumOfSaid : Prop := fnExactSumOfRow.holds Try.pinned (OpenSpec.ofChange fnExactSumOfSpec)

/-- ITS FALSE NEIGHBOUR: 'it returns false'. Refute it at one input. -/
def fnExactSumOfWrong : ChangeSpec := { name := "fnExactSumOf", fn := fun _ => fun
  | [d] => { results := [.lit (.bool false)], args := [d] }
  | _ => none }
def FnExactSumOfWrongFalsely : Prop := fnExactSumOfRow.holds Try.pinned (OpenSpec.ofChange fnExactSumOfWrong)

/-- 'laws.FnExactPxStep': WHATEVER THE INPUT: true; the input reads as it did. -/
def fnExactPxStepSpec : ChangeSpec := { name := "fnExactPxStep", fn := fun _ => fun
  | [d1, d2] => { results := [.lit (.bool true)], args := [d1, d2] }
  | _ => none }
def fnExactPxStepRow : OpenClaim := { program := "ytkhnglfecfmhlaa", sum := "a7e793776b7d102bd99735caa5e039449840e7cdd34aea1e5856bbc5cdb0d280", func := "loop.example/g00456/laws.FnExactPxStep", spec := "fnExactPxStep", unfollowed := true, recurses := true, apart := false }
def FnExactPxStepSaid : Prop := fnExactPxStepRow.holds Try.pinned (OpenSpec.ofChange fnExactPxStepSpec)

/-- ITS FALSE NEIGHBOUR: 'it returns false'. Refute it at one input. -/
def fnExactPxStepWrong : ChangeSpec := { name := "fnExactPxStep", fn := fun _ => fun
  | [d1, d2] => { results := [.lit (.bool false)], args := [d1, d2] }
  | _ => none }
def FnExactPxStepWrongFalsely : Prop := fnExactPxStepRow.holds Try.pinned (OpenSpec.ofChange fnExactPxStepWrong)

/- THE SECOND FORM. 'bulk': how many values and letters a reading holds, each counted each time it is reached (what is shared counts as often as it is met; a slice's spare places count too). A statement '..UptoSaid' is the law's where the arguments, and the package variables that the reading takes, are together of bulk at most 1048576: NARROWER than '..Said'. Prove '..Said' where nothing that the law and all that it calls make is longer than what came in: it says more and counts as full. Else prove '..UptoSaid'. A law counts once. -/
mutual
def uptoBulk {H : Type} : DataW H → Nat
  | .lit (.string bytes) => bytes.length + 1
  | .lit _ => 1
  | .nil => 1
  | .ptr d => uptoBulk d + 1
  | .slice elems spare => uptoBulkAll elems + uptoBulkAll spare + 1
  | .agg parts => uptoBulkAll parts + 1
  | .iface _ d => uptoBulk d + 1
  | .map entries => uptoBulkEntries entries + 1
  | .held _ => 1
def uptoBulkAll {H : Type} : List (DataW H) → Nat
  | [] => 0
  | d :: r => uptoBulk d + uptoBulkAll r
def uptoBulkEntries {H : Type} : List (Lit × DataW H) → Nat
  | [] => 0
  | x :: r => uptoBulkEntry x + uptoBulkEntries r
def uptoBulkEntry {H : Type} : Lit × DataW H → Nat
  | (.string bytes, d) => bytes.length + uptoBulk d + 1
  | (_, d) => uptoBulk d + 1
 end
def uptoSmall : (H : Type) → List (DataW H) → Bool := fun _ ds => decide (uptoBulkAll ds ≤ 1048576)
def OpenSpec.upto (s : _root_.Go.ChangeSpec) : _root_.Go.OpenSpec := { _root_.Go.OpenSpec.ofChange s with cond := some uptoSmall }

/-- 'laws.FnExactConstants', WHERE WHAT IT READS IS OF BULK AT MOST 1048576: true; the input reads as it did. -/
def fnExactConstantsUptoRow : OpenClaim := { program := "ytkhnglfecfmhlaa", sum := "a7e793776b7d102bd99735caa5e039449840e7cdd34aea1e5856bbc5cdb0d280", func := "loop.example/g00456/laws.FnExactConstants", spec := "fnExactConstants", apart := false, narrowed := true }
def FnExactConstantsUptoSaid : Prop := fnExactConstantsUptoRow.holds Try.pinned (OpenSpec.upto fnExactConstantsSpec)

/-- 'laws.FnExactCodeWord', WHERE WHAT IT READS IS OF BULK AT MOST 1048576: true; the input reads as it did. -/
def fnExactCodeWordUptoRow : OpenClaim := { program := "ytkhnglfecfmhlaa", sum := "a7e793776b7d102bd99735caa5e039449840e7cdd34aea1e5856bbc5cdb0d280", func := "loop.example/g00456/laws.FnExactCodeWord", spec := "fnExactCodeWord", apart := false, narrowed := true }
def FnExactCodeWordUptoSaid : Prop := fnExactCodeWordUptoRow.holds Try.pinned (OpenSpec.upto fnExactCodeWordSpec)

/-- 'laws.FnExactDeltaOK', WHERE WHAT IT READS IS OF BULK AT MOST 1048576: true; the input reads as it did. -/
def fnExactDeltaOKUptoRow : OpenClaim := { program := "ytkhnglfecfmhlaa", sum := "a7e793776b7d102bd99735caa5e039449840e7cdd34aea1e5856bbc5cdb0d280", func := "loop.example/g00456/laws.FnExactDeltaOK", spec := "fnExactDeltaOK", apart := false, narrowed := true }
def FnExactDeltaOKUptoSaid : Prop := fnExactDeltaOKUptoRow.holds Try.pinned (OpenSpec.upto fnExactDeltaOKSpec)

/-- 'laws.FnExactBlockOK', WHERE WHAT IT READS IS OF BULK AT MOST 1048576: true; the input reads as it did. -/
def fnExactBlockOKUptoRow : OpenClaim := { program := "ytkhnglfecfmhlaa", sum := "a7e793776b7d102bd99735caa5e039449840e7cdd34aea1e5856bbc5cdb0d280", func := "loop.example/g00456/laws.FnExactBlockOK", spec := "fnExactBlockOK", apart := false, narrowed := true }
def FnExactBlockOKUptoSaid : Prop := fnExactBlockOKUptoRow.holds Try.pinned (OpenSpec.upto fnExactBlockOKSpec)

/-- 'laws.FnExactSlotOf', WHERE WHAT IT READS IS OF BULK AT MOST 1048576: true; the input reads as it did. -/
def fnExactSlotOfUptoRow : OpenClaim := { program := "ytkhnglfecfmhlaa", sum := "a7e793776b7d102bd99735caa5e039449840e7cdd34aea1e5856bbc5cdb0d280", func := "loop.example/g00456/laws.FnExactSlotOf", spec := "fnExactSlotOf", apart := false, narrowed := true }
def FnExactSlotOfUptoSaid : Prop := fnExactSlotOfUptoRow.holds Try.pinned (OpenSpec.upto fnExactSlotOfSpec)

/-- 'laws.FnAgree', WHERE WHAT IT READS IS OF BULK AT MOST 1048576: true; the input reads as it did. -/
def fnAgreeUptoRow : OpenClaim := { program := "ytkhnglfecfmhlaa", sum := "a7e793776b7d102bd99735caa5e039449840e7cdd34aea1e5856bbc5cdb0d280", func := "loop.example/g00456/laws.FnAgree", spec := "fnAgree", unfollowed := true, recurses := true, apart := false, narrowed := true }
def FnAgreeUptoSaid : Prop := fnAgreeUptoRow.holds Try.pinned (OpenSpec.upto fnAgreeSpec)

/-- 'laws.FnExactLeaderOK', WHERE WHAT IT READS IS OF BULK AT MOST 1048576: true; the input reads as it did. -/
def fnExactLeaderOKUptoRow : OpenClaim := { program := "ytkhnglfecfmhlaa", sum := "a7e793776b7d102bd99735caa5e039449840e7cdd34aea1e5856bbc5cdb0d280", func := "loop.example/g00456/laws.FnExactLeaderOK", spec := "fnExactLeaderOK", apart := false, narrowed := true }
def FnExactLeaderOKUptoSaid : Prop := fnExactLeaderOKUptoRow.holds Try.pinned (OpenSpec.upto fnExactLeaderOKSpec)

/-- 'laws.FnExactLocalOf', WHERE WHAT IT READS IS OF BULK AT MOST 1048576: true; the input reads as it did. -/
def fnExactLocalOfUptoRow : OpenClaim := { program := "ytkhnglfecfmhlaa", sum := "a7e793776b7d102bd99735caa5e039449840e7cdd34aea1e5856bbc5cdb0d280", func := "loop.example/g00456/laws.FnExactLocalOf", spec := "fnExactLocalOf", apart := false, narrowed := true }
def FnExactLocalOfUptoSaid : Prop := fnExactLocalOfUptoRow.holds Try.pinned (OpenSpec.upto fnExactLocalOfSpec)

/-- 'laws.FnExactNameOK', WHERE WHAT IT READS IS OF BULK AT MOST 1048576: true; the input reads as it did. -/
def fnExactNameOKUptoRow : OpenClaim := { program := "ytkhnglfecfmhlaa", sum := "a7e793776b7d102bd99735caa5e039449840e7cdd34aea1e5856bbc5cdb0d280", func := "loop.example/g00456/laws.FnExactNameOK", spec := "fnExactNameOK", apart := false, narrowed := true }
def FnExactNameOKUptoSaid : Prop := fnExactNameOKUptoRow.holds Try.pinned (OpenSpec.upto fnExactNameOKSpec)

/-- 'laws.FnExactCodeOf', WHERE WHAT IT READS IS OF BULK AT MOST 1048576: true; the input reads as it did. -/
def fnExactCodeOfUptoRow : OpenClaim := { program := "ytkhnglfecfmhlaa", sum := "a7e793776b7d102bd99735caa5e039449840e7cdd34aea1e5856bbc5cdb0d280", func := "loop.example/g00456/laws.FnExactCodeOf", spec := "fnExactCodeOf", apart := false, narrowed := true }
def FnExactCodeOfUptoSaid : Prop := fnExactCodeOfUptoRow.holds Try.pinned (OpenSpec.upto fnExactCodeOfSpec)

/-- 'laws.FnExactSumOf', WHERE WHAT IT READS IS OF BULK AT MOST 1048576: true; the input reads as it did. -/
def fnExactSumOfUptoRow : OpenClaim := { program := "ytkhnglfecfmhlaa", sum := "a7e793776b7d102bd99735caa5e039449840e7cdd34aea1e5856bbc5cdb0d280", func := "loop.example/g00456/laws.FnExactSumOf", spec := "fnExactSumOf", apart := false, narrowed := true }
def FnExactSumOfUptoSaid : Prop := fnExactSumOfUptoRow.holds Try.pinned (OpenSpec.upto fnExactSumOfSpec)

/-- 'laws.FnExactPxStep', WHERE WHAT IT READS IS OF BULK AT MOST 1048576: true; the input reads as it did. -/
def fnExactPxStepUptoRow : OpenClaim := { program := "ytkhnglfecfmhlaa", sum := "a7e793776b7d102bd99735caa5e039449840e7cdd34aea1e5856bbc5cdb0d280", func := "loop.example/g00456/laws.FnExactPxStep", spec := "fnExactPxStep", unfollowed := true, recurses := true, apart := false, narrowed := true }
def FnExactPxStepUptoSaid : Prop := fnExactPxStepUptoRow.holds Try.pinned (OpenSpec.upto fnExactPxStepSpec)

end Rows
end Go.Proofs.Ytkhnglfecfmhlaa
