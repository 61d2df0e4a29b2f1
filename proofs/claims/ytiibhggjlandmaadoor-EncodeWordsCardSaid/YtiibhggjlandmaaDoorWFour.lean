-- Written by a program for this claim: of the kit's printed words those that the claim's texts reach. Lean checks it.
import Derived.Test.YtiibhggjlandmaaDoorWTab
/-! ### 56. Four, five, six operations that may come up next, in any order -/
namespace Go.Proofs.YtiibhggjlandmaaDoorW.PrintLast
section
variable {P : Program} {ops : Array Oper} {Q : Exit → Act → World → Prop} {md : Region.Mode} {S : World → Prop} {ds : List Nat} {T : Bool × List (List Nat × List Nat)}
end
end Go.Proofs.YtiibhggjlandmaaDoorW.PrintLast
