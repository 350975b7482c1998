/- The program's EarliestTrue and the reference's give the same for every configuration and time. No condition. -/
import Derived.Test.YtbdbkdfigolggaaQ2
import Derived.Test.YtbdbkdfigolggaaClockQ
set_option linter.unusedSimpArgs false
set_option linter.unusedVariables false
namespace Go.Proofs.Ytbdbkdfigolggaa.Pure
open Go.RowKit Go.Proofs.Ytbdbkdfigolggaa.Q Go.Proofs.Ytbdbkdfigolggaa.Hand Go.Proofs.YtbdbkdfigolggaaW.PrintWords Go.Proofs.YtbdbkdfigolggaaW.PrintLast Go.Proofs.YtbdbkdfigolggaaW.PrintMore
theorem FnExactEarliestTrue (a b c d e : Int) (_ : (Lit.int .i64 a).wf = true) (_ : (Lit.int .i64 b).wf = true) (_ : (Lit.int .i64 c).wf = true) (_ : (Lit.int .i64 d).wf = true) (_ : (Lit.int .i64 e).wf = true) : laws_FnExactEarliestTrue.f a b c d e = some true := by
  obtain ⟨r, h1, h2⟩ := earliestTrue_same a b c d e
  unfold laws_FnExactEarliestTrue.f laws_toConfig.f
  simp only [Option.bind_some, h1, h2, bne_self_eq_false, Bool.false_eq_true, if_false, if_true]
end Go.Proofs.Ytbdbkdfigolggaa.Pure
