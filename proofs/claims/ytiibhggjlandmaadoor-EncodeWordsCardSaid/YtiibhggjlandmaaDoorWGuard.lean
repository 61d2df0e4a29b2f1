-- Written by a program for this claim: of the kit's printed words those that the claim's texts reach. Lean checks it.
import Derived.Test.YtiibhggjlandmaaDoorWWords
/-! ### 58. A guarded operation whose guard is known to want it: the same goal without the guard -/
namespace Go.Proofs.YtiibhggjlandmaaDoorW.PrintWords
open Go.RowKit
section
variable {P : Program} {ops : Array Oper} {rest : List Oper} {o : Oper} {a : Act} {Q : Exit → Act → World → Prop} {W : World}
end
end Go.Proofs.YtiibhggjlandmaaDoorW.PrintWords
