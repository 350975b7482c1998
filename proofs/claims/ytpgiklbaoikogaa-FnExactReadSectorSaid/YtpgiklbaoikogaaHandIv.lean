/- A function value over a struct that captures nothing, and what it tells of its argument. -/
import Derived.Test.YtpgiklbaoikogaaHandA
import Derived.Shelf.Abstract
namespace Go.Proofs.Ytpgiklbaoikogaa.Hand
open Go.RowKit Go.Proofs.YtpgiklbaoikogaaW.PrintWords
structure FnV84 where
  g : Nat
  p : Int → Int → ByteArray → Bool
  enters : ∀ (args : Array Value) (w : World), (callFunc g args).run Try.prog w = .ok (.enter g args) w
  law : ∀ (x0 : Int) (x1 : Int) (x2 : ByteArray) (W : World), Calls Try.prog g #[.agg #[.int .i64 x0, .int .i64 x1, .string x2]] W fun e w' => e = .returned (.bool (p x0 x1 x2)) ∧ Below W.heap.size W w'
abbrev FnV84.val (v : FnV84) : Value := .func (.func v.g) #[] #[]
end Go.Proofs.Ytpgiklbaoikogaa.Hand
