-- Written by a program (a turned copy of the kit's print.py) for this claim. Lean checks it.
import Derived.Test.YtiibhggjlandmaaPBx0
import Derived.Test.YtiibhggjlandmaaPBx1
import Derived.Test.YtiibhggjlandmaaPBx2
import Derived.Test.YtiibhggjlandmaaPBx3
import Derived.Test.YtiibhggjlandmaaPBx4
namespace Go.Proofs.Ytiibhggjlandmaa.PB
open Go.RowKit Go.Proofs.YtiibhggjlandmaaW.PrintWords Go.Proofs.YtiibhggjlandmaaW.PrintLast Go.Proofs.YtiibhggjlandmaaW.PrintMore
attribute [local go_sem] max2_int min2_int max_two min_two max_three min_three max_four min_four   -- for this text's walks alone
set_option linter.unusedVariables false
set_option linter.unusedSimpArgs false

end Go.Proofs.Ytiibhggjlandmaa.PB
