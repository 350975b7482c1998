/- A function value over a struct that captures nothing, and what it tells of its argument. -/
import Derived.Test.YtlclbdfcniiolaaHandA
import Derived.Shelf.Abstract
namespace Go.Proofs.Ytlclbdfcniiolaa.Hand
open Go.RowKit Go.Proofs.YtlclbdfcniiolaaW.PrintWords
structure FnV53 where
  g : Nat
  p : Int → Int → Int → Int → Bool
  enters : ∀ (args : Array Value) (w : World), (callFunc g args).run Try.prog w = .ok (.enter g args) w
  law : ∀ (x0 : Int) (x1 : Int) (x2 : Int) (x3 : Int) (W : World), Calls Try.prog g #[.agg #[.int .i64 x0, .int .i64 x1, .int .i64 x2, .int .i64 x3]] W fun e w' => e = .returned (.bool (p x0 x1 x2 x3)) ∧ Below W.heap.size W w'
abbrev FnV53.val (v : FnV53) : Value := .func (.func v.g) #[] #[]
end Go.Proofs.Ytlclbdfcniiolaa.Hand
