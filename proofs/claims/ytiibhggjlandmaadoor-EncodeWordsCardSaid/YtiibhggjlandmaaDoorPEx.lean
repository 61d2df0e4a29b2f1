-- Written by a program (a turned copy of the kit's print.py) for this claim. Lean checks it.
import Derived.Test.YtiibhggjlandmaaDoorPEx0
import Derived.Test.YtiibhggjlandmaaDoorPEx1
namespace Go.Proofs.YtiibhggjlandmaaDoor.PE
open Go.RowKit Go.Proofs.YtiibhggjlandmaaDoorW.PrintWords Go.Proofs.YtiibhggjlandmaaDoorW.PrintLast Go.Proofs.YtiibhggjlandmaaDoorW.PrintMore
attribute [local go_sem] max2_int min2_int max_two min_two max_three min_three max_four min_four   -- for this text's walks alone
set_option linter.unusedVariables false
set_option linter.unusedSimpArgs false

end Go.Proofs.YtiibhggjlandmaaDoor.PE
