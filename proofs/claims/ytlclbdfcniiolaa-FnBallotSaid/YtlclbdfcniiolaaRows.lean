/-
  No cell of these rows narrows 'for every input' (looked for: loops, veiled, ifaces, maps, wideKeys, modest, calm, conditions, laid).
  DERIVED. THE GIVEN ROWS OF THIS SEAT. 6 by the template 'for every input the law returns true; each argument reads behind the call as it read before'; 0 by the template 'total and deterministic' (their statements: YtlclbdfcniiolaaTotals.lean).
  GIVEN WITH THE SEED: the statements are not yours to turn. If you find one false, say at which input.
  Laid BY PROGRAM, IN A SANDBOX (cutbox-rows.mjs): the forced cells as the released guide's own fill.sh prints them over the translation e5ee27b1596fabc0… (all of the seat's roots in one cut). By AI agents, Wed Nov 11 2026. No macro, syntax, notation, axiom, sorry.
-/
import Derived.Test.YtlclbdfcniiolaaChecked
import GoSem.Claim
import GoSem.ClaimJoined
import GoSem.ClaimMapViews
import Derived.JoinedTies
import Derived.KernelRfl
namespace Go.Proofs.Ytlclbdfcniiolaa
/- THE CELL 'sum', in the pinned program and in every row, IS THE sha256 OF THE DUMP (.gsa) THAT YtlclbdfcniiolaaProg.lean LOADS. Nothing in Lean hashes anything: it is a label: what it is worth is what the hold of that sum in a sandbox is worth. -/
noncomputable def Try.pinned : Pinned := { name := "ytlclbdfcniiolaa", sum := "e5ee27b1596fabc0eadd473b31b63c25dff6b700aa9eb7bf1a2f7d20266dbb34", checked := Try.checked }
namespace Rows
def none {H : Type} : Left H := { results := [], args := [] }

/-- 'laws.FnExactPxStep': WHATEVER THE INPUT: true; the input reads as it did. -/
def fnExactPxStepSpec : ChangeSpec := { name := "fnExactPxStep", fn := fun _ => fun
  | [d1, d2] => { results := [.lit (.bool true)], args := [d1, d2] }
  | _ => none }
def fnExactPxStepRow : OpenClaim := { program := "ytlclbdfcniiolaa", sum := "e5ee27b1596fabc0eadd473b31b63c25dff6b700aa9eb7bf1a2f7d20266dbb34", func := "loop.example/g00456/laws.FnExactPxStep", spec := "fnExactPxStep", unfollowed := true, recurses := true, apart := false }
def FnExactPxStepSaid : Prop := fnExactPxStepRow.holds Try.pinned (OpenSpec.ofChange fnExactPxStepSpec)

/-- ITS FALSE NEIGHBOUR: 'it returns false'. Refute it at one input. -/
def fnExactPxStepWrong : ChangeSpec := { name := "fnExactPxStep", fn := fun _ => fun
  | [d1, d2] => { results := [.lit (.bool false)], args := [d1, d2] }
  | _ => none }
def FnExactPxStepWrongFalsely : Prop := fnExactPxStepRow.holds Try.pinned (OpenSpec.ofChange fnExactPxStepWrong)

/-- 'laws.FnExactRunPaxos': WHATEVER THE INPUT: true; the input reads as it did. -/
def fnExactRunPaxosSpec : ChangeSpec := { name := "fnExactRunPaxos", fn := fun _ => fun
  | [d1, d2] => { results := [.lit (.bool true)], args := [d1, d2] }
  | _ => none }
def fnExactRunPaxosRow : OpenClaim := { program := "ytlclbdfcniiolaa", sum := "e5ee27b1596fabc0eadd473b31b63c25dff6b700aa9eb7bf1a2f7d20266dbb34", func := "loop.example/g00456/laws.FnExactRunPaxos", spec := "fnExactRunPaxos", unfollowed := true, recurses := true, apart := false }
def FnExactRunPaxosSaid : Prop := fnExactRunPaxosRow.holds Try.pinned (OpenSpec.ofChange fnExactRunPaxosSpec)

/-- ITS FALSE NEIGHBOUR: 'it returns false'. Refute it at one input. -/
def fnExactRunPaxosWrong : ChangeSpec := { name := "fnExactRunPaxos", fn := fun _ => fun
  | [d1, d2] => { results := [.lit (.bool false)], args := [d1, d2] }
  | _ => none }
def FnExactRunPaxosWrongFalsely : Prop := fnExactRunPaxosRow.holds Try.pinned (OpenSpec.ofChange fnExactRunPaxosWrong)

/-- 'laws.FnAgree': WHATEVER THE INPUT: true; the input reads as it did. -/
def fnAgreeSpec : ChangeSpec := { name := "fnAgree", fn := fun _ => fun
  | [d1, d2] => { results := [.lit (.bool true)], args := [d1, d2] }
  | _ => none }
def fnAgreeRow : OpenClaim := { program := "ytlclbdfcniiolaa", sum := "e5ee27b1596fabc0eadd473b31b63c25dff6b700aa9eb7bf1a2f7d20266dbb34", func := "loop.example/g00456/laws.FnAgree", spec := "fnAgree", unfollowed := true, recurses := true, apart := false }
def FnAgreeSaid : Prop := fnAgreeRow.holds Try.pinned (OpenSpec.ofChange fnAgreeSpec)

/-- ITS FALSE NEIGHBOUR: 'it returns false'. Refute it at one input. -/
def fnAgreeWrong : ChangeSpec := { name := "fnAgree", fn := fun _ => fun
  | [d1, d2] => { results := [.lit (.bool false)], args := [d1, d2] }
  | _ => none }
def FnAgreeWrongFalsely : Prop := fnAgreeRow.holds Try.pinned (OpenSpec.ofChange fnAgreeWrong)

/-- 'laws.FnAlone': WHATEVER THE INPUT: true; the input reads as it did. -/
def fnAloneSpec : ChangeSpec := { name := "fnAlone", fn := fun _ => fun
  | [d1, d2] => { results := [.lit (.bool true)], args := [d1, d2] }
  | _ => none }
def fnAloneRow : OpenClaim := { program := "ytlclbdfcniiolaa", sum := "e5ee27b1596fabc0eadd473b31b63c25dff6b700aa9eb7bf1a2f7d20266dbb34", func := "loop.example/g00456/laws.FnAlone", spec := "fnAlone", unfollowed := true, recurses := true, apart := false }
def FnAloneSaid : Prop := fnAloneRow.holds Try.pinned (OpenSpec.ofChange fnAloneSpec)

/-- ITS FALSE NEIGHBOUR: 'it returns false'. Refute it at one input. -/
def fnAloneWrong : ChangeSpec := { name := "fnAlone", fn := fun _ => fun
  | [d1, d2] => { results := [.lit (.bool false)], args := [d1, d2] }
  | _ => none }
def FnAloneWrongFalsely : Prop := fnAloneRow.holds Try.pinned (OpenSpec.ofChange fnAloneWrong)

/-- 'laws.FnExactNextBallot': WHATEVER THE INPUT: true; the input reads as it did. -/
def fnExactNextBallotSpec : ChangeSpec := { name := "fnExactNextBallot", fn := fun _ => fun
  | [d1, d2, d3] => { results := [.lit (.bool true)], args := [d1, d2, d3] }
  | _ => none }
def fnExactNextBallotRow : OpenClaim := { program := "ytlclbdfcniiolaa", sum := "e5ee27b1596fabc0eadd473b31b63c25dff6b700aa9eb7bf1a2f7d20266dbb34", func := "loop.example/g00456/laws.FnExactNextBallot", spec := "fnExactNextBallot", unfollowed := true, recurses := true, apart := false }
def FnExactNextBallotSaid : Prop := fnExactNextBallotRow.holds Try.pinned (OpenSpec.ofChange fnExactNextBallotSpec)

/-- ITS FALSE NEIGHBOUR: 'it returns false'. Refute it at one input. -/
def fnExactNextBallotWrong : ChangeSpec := { name := "fnExactNextBallot", fn := fun _ => fun
  | [d1, d2, d3] => { results := [.lit (.bool false)], args := [d1, d2, d3] }
  | _ => none }
def FnExactNextBallotWrongFalsely : Prop := fnExactNextBallotRow.holds Try.pinned (OpenSpec.ofChange fnExactNextBallotWrong)

/-- 'laws.FnBallot': WHATEVER THE INPUT: true; the input reads as it did. -/
def fnBallotSpec : ChangeSpec := { name := "fnBallot", fn := fun _ => fun
  | [d1, d2] => { results := [.lit (.bool true)], args := [d1, d2] }
  | _ => none }
def fnBallotRow : OpenClaim := { program := "ytlclbdfcniiolaa", sum := "e5ee27b1596fabc0eadd473b31b63c25dff6b700aa9eb7bf1a2f7d20266dbb34", func := "loop.example/g00456/laws.FnBallot", spec := "fnBallot", unfollowed := true, recurses := true, apart := false }
def FnBallotSaid : Prop := fnBallotRow.holds Try.pinned (OpenSpec.ofChange fnBallotSpec)

/-- ITS FALSE NEIGHBOUR: 'it returns false'. Refute it at one input. -/
def fnBallotWrong : ChangeSpec := { name := "fnBallot", fn := fun _ => fun
  | [d1, d2] => { results := [.lit (.bool false)], args := [d1, d2] }
  | _ => none }
def FnBallotWrongFalsely : Prop := fnBallotRow.holds Try.pinned (OpenSpec.ofChange fnBallotWrong)

/- THE SECOND FORM. 'bulk': how many values and letters a reading holds, each counted each time it is reached (what is shared counts as often as it is met; a slice's spare places count too). A statement '..UptoSaid' is the law's where the arguments, and the package variables that the reading takes, are together of bulk at most 1048576: NARROWER than '..Said'. Prove '..Said' where nothing that the law and all that it calls make is longer than what came in: it says more and counts as full. Else prove '..UptoSaid'. A law counts once. -/
mutual
def uptoBulk {H : Type} : DataW H → Nat
  | .lit (.string bytes) => bytes.length + 1
  | .lit _ => 1
  | .nil => 1
  | .ptr d => uptoBulk d + 1
  | .slice elems spare => uptoBulkAll elems + uptoBulkAll spare + 1
  | .agg parts => uptoBulkAll parts + 1
  | .iface _ d => uptoBulk d + 1
  | .map entries => uptoBulkEntries entries + 1
  | .held _ => 1
def uptoBulkAll {H : Type} : List (DataW H) → Nat
  | [] => 0
  | d :: r => uptoBulk d + uptoBulkAll r
def uptoBulkEntries {H : Type} : List (Lit × DataW H) → Nat
  | [] => 0
  | x :: r => uptoBulkEntry x + uptoBulkEntries r
def uptoBulkEntry {H : Type} : Lit × DataW H → Nat
  | (.string bytes, d) => bytes.length + uptoBulk d + 1
  | (_, d) => uptoBulk d + 1
 end
def uptoSmall : (H : Type) → List (DataW H) → Bool := fun _ ds => decide (uptoBulkAll ds ≤ 1048576)
def OpenSpec.upto (s : _root_.Go.ChangeSpec) : _root_.Go.OpenSpec := { _root_.Go.OpenSpec.ofChange s with cond := some uptoSmall }

/-- 'laws.FnExactPxStep', WHERE WHAT IT READS IS OF BULK AT MOST 1048576: true; the input reads as it did. -/
def fnExactPxStepUptoRow : OpenClaim := { program := "ytlclbdfcniiolaa", sum := "e5ee27b1596fabc0eadd473b31b63c25dff6b700aa9eb7bf1a2f7d20266dbb34", func := "loop.example/g00456/laws.FnExactPxStep", spec := "fnExactPxStep", unfollowed := true, recurses := true, apart := false, narrowed := true }
def FnExactPxStepUptoSaid : Prop := fnExactPxStepUptoRow.holds Try.pinned (OpenSpec.upto fnExactPxStepSpec)

/-- 'laws.FnExactRunPaxos', WHERE WHAT IT READS IS OF BULK AT MOST 1048576: true; the input reads as it did. -/
def fnExactRunPaxosUptoRow : OpenClaim := { program := "ytlclbdfcniiolaa", sum := "e5ee27b1596fabc0eadd473b31b63c25dff6b700aa9eb7bf1a2f7d20266dbb34", func := "loop.example/g00456/laws.FnExactRunPaxos", spec := "fnExactRunPaxos", unfollowed := true, recurses := true, apart := false, narrowed := true }
def FnExactRunPaxosUptoSaid : Prop := fnExactRunPaxosUptoRow.holds Try.pinned (OpenSpec.upto fnExactRunPaxosSpec)

/-- 'laws.FnAgree', WHERE WHAT IT READS IS OF BULK AT MOST 1048576: true; the input reads as it did. -/
def fnAgreeUptoRow : OpenClaim := { program := "ytlclbdfcniiolaa", sum := "e5ee27b1596fabc0eadd473b31b63c25dff6b700aa9eb7bf1a2f7d20266dbb34", func := "loop.example/g00456/laws.FnAgree", spec := "fnAgree", unfollowed := true, recurses := true, apart := false, narrowed := true }
def FnAgreeUptoSaid : Prop := fnAgreeUptoRow.holds Try.pinned (OpenSpec.upto fnAgreeSpec)

/-- 'laws.FnAlone', WHERE WHAT IT READS IS OF BULK AT MOST 1048576: true; the input reads as it did. -/
def fnAloneUptoRow : OpenClaim := { program := "ytlclbdfcniiolaa", sum := "e5ee27b1596fabc0eadd473b31b63c25dff6b700aa9eb7bf1a2f7d20266dbb34", func := "loop.example/g00456/laws.FnAlone", spec := "fnAlone", unfollowed := true, recurses := true, apart := false, narrowed := true }
def FnAloneUptoSaid : Prop := fnAloneUptoRow.holds Try.pinned (OpenSpec.upto fnAloneSpec)

/-- 'laws.FnExactNextBallot', WHERE WHAT IT READS IS OF BULK AT MOST 1048576: true; the input reads as it did. -/
def fnExactNextBallotUptoRow : OpenClaim := { program := "ytlclbdfcniiolaa", sum := "e5ee27b1596fabc0eadd473b31b63c25dff6b700aa9eb7bf1a2f7d20266dbb34", func := "loop.example/g00456/laws.FnExactNextBallot", spec := "fnExactNextBallot", unfollowed := true, recurses := true, apart := false, narrowed := true }
def FnExactNextBallotUptoSaid : Prop := fnExactNextBallotUptoRow.holds Try.pinned (OpenSpec.upto fnExactNextBallotSpec)

/-- 'laws.FnBallot', WHERE WHAT IT READS IS OF BULK AT MOST 1048576: true; the input reads as it did. -/
def fnBallotUptoRow : OpenClaim := { program := "ytlclbdfcniiolaa", sum := "e5ee27b1596fabc0eadd473b31b63c25dff6b700aa9eb7bf1a2f7d20266dbb34", func := "loop.example/g00456/laws.FnBallot", spec := "fnBallot", unfollowed := true, recurses := true, apart := false, narrowed := true }
def FnBallotUptoSaid : Prop := fnBallotUptoRow.holds Try.pinned (OpenSpec.upto fnBallotSpec)

end Rows
end Go.Proofs.Ytlclbdfcniiolaa
