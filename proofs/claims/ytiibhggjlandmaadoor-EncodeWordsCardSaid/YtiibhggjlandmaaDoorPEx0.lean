-- Written by a program (a turned copy of the kit's print.py) for this claim. Lean checks it.
import Derived.Test.YtiibhggjlandmaaDoorProg
import Derived.Below
import Derived.Deep.Draws
import Derived.Deep.AppendLies
import Derived.Maps.AppendAt
import Derived.OwnWalk
import Derived.Laws.BytesArg
import Derived.Laws.MakeOwn
import Derived.Laws.OwnMore
import Derived.Deep.OwnRows
import Derived.Tactics
import Derived.Lib.ConvBytes
import Derived.Laws.Slices
import Derived.WalkKit
import Derived.KernelRfl
import Derived.RowKit3
import Derived.Deep.LoopGhost
import Derived.Deep.QuietTactic
import Derived.BigQuiet
import Derived.WideLaws
import Derived.Deep.DeepCutAuto
import Derived.Deep.CutBlock
import Derived.Deep.RegionHeld3
import Derived.Laws.Rows
import Derived.Lib.AppendStr
import Derived.ArgAppend
import Derived.Laws.IdiomCopy
import Derived.OrdersHeld
import Derived.Laws.BitsLemmas
import Derived.RowKit
import Derived.Test.YtiibhggjlandmaaDoorWWords
import Derived.Test.YtiibhggjlandmaaDoorWLast
import Derived.Test.YtiibhggjlandmaaDoorWTab
import Derived.Test.YtiibhggjlandmaaDoorWFour
import Derived.Test.YtiibhggjlandmaaDoorWQPut
import Derived.Test.YtiibhggjlandmaaDoorWApart
import Derived.Test.YtiibhggjlandmaaDoorWArr
import Derived.Test.YtiibhggjlandmaaDoorWZeros
import Derived.Test.YtiibhggjlandmaaDoorWFoot
import Derived.Test.YtiibhggjlandmaaDoorWKept
import Derived.Test.YtiibhggjlandmaaDoorWShare
import Derived.Test.YtiibhggjlandmaaDoorWN
import Derived.Test.YtiibhggjlandmaaDoorWFootNe
import Derived.Test.YtiibhggjlandmaaDoorWAt
import Derived.Test.YtiibhggjlandmaaDoorWEqStruct
import Derived.Test.YtiibhggjlandmaaDoorWRepsOne
import Derived.Test.YtiibhggjlandmaaDoorWInv
import Derived.Test.YtiibhggjlandmaaDoorWInvWords
import Derived.Test.YtiibhggjlandmaaDoorWGuard
import Derived.Test.YtiibhggjlandmaaDoorWNEv
import Derived.Test.YtiibhggjlandmaaDoorWMore
namespace Go.Proofs.YtiibhggjlandmaaDoor.PE
open Go.RowKit Go.Proofs.YtiibhggjlandmaaDoorW.PrintWords Go.Proofs.YtiibhggjlandmaaDoorW.PrintLast Go.Proofs.YtiibhggjlandmaaDoorW.PrintMore
attribute [local go_sem] max2_int min2_int max_two min_two max_three min_three max_four min_four   -- for this text's walks alone
set_option linter.unusedVariables false
set_option linter.unusedSimpArgs false



def errW : Option Int → Value
  | none => .nilIface
  | some c => .iface 0 (.int .i64 c)
theorem errW_none : errW none = .nilIface := rfl
theorem errW_some (c : Int) : errW (some c) = .iface 0 (.int .i64 c) := rfl

-- the values' own types

end Go.Proofs.YtiibhggjlandmaaDoor.PE
