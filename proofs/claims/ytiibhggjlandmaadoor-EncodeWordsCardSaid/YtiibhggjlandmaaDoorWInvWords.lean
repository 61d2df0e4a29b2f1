-- Written by a program for this claim: of the kit's printed words those that the claim's texts reach. Lean checks it.
import Derived.Test.YtiibhggjlandmaaDoorWInv
import Derived.Test.YtiibhggjlandmaaDoorWFootNe
namespace Go.Proofs.YtiibhggjlandmaaDoorW.PrintWords
open Go.RowKit
end Go.Proofs.YtiibhggjlandmaaDoorW.PrintWords
namespace Go.Proofs.YtiibhggjlandmaaDoorW.PrintLast
section
variable {ops : Array Oper} {a : Act} {o og : Oper} {g : Nat} {t : Tmp} {u : Bool}
end
end Go.Proofs.YtiibhggjlandmaaDoorW.PrintLast
