-- Written by a program for this claim: of the kit's printed words those that the claim's texts reach. Lean checks it.
import Derived.Test.YtiibhggjlandmaaDoorWWords
import Derived.Laws.StructEq
/-! ### 53. '==' of structs as_ one Bool -/
namespace Go.Proofs.YtiibhggjlandmaaDoorW.PrintWords
open Go.RowKit
section
variable {P : Program} {d : Nat} {xs ys : Array Value} {f : Field} {fs : List Field} {a b : Value} {r s : Bool} {w : World}
end
end Go.Proofs.YtiibhggjlandmaaDoorW.PrintWords
