-- Written by a program (a turned copy of the kit's print.py) for this claim. Lean checks it.
import Derived.Test.YtiibhggjlandmaaProg
import Derived.Below
import Derived.Deep.Draws
import Derived.Deep.AppendLies
import Derived.Maps.AppendAt
import Derived.OwnWalk
import Derived.Laws.BytesArg
import Derived.Laws.MakeOwn
import Derived.Laws.OwnMore
import Derived.Deep.OwnRows
import Derived.Tactics
import Derived.Lib.ConvBytes
import Derived.Laws.Slices
import Derived.WalkKit
import Derived.KernelRfl
import Derived.RowKit3
import Derived.Deep.LoopGhost
import Derived.Deep.QuietTactic
import Derived.BigQuiet
import Derived.WideLaws
import Derived.Deep.DeepCutAuto
import Derived.Deep.CutBlock
import Derived.Deep.RegionHeld3
import Derived.Laws.Rows
import Derived.Lib.AppendStr
import Derived.ArgAppend
import Derived.Laws.IdiomCopy
import Derived.OrdersHeld
import Derived.Laws.BitsLemmas
import Derived.RowKit
import Derived.Test.YtiibhggjlandmaaDecB
import Derived.Test.YtiibhggjlandmaaWWords
import Derived.Test.YtiibhggjlandmaaWLast
import Derived.Test.YtiibhggjlandmaaWTab
import Derived.Test.YtiibhggjlandmaaWFour
import Derived.Test.YtiibhggjlandmaaWQPut
import Derived.Test.YtiibhggjlandmaaWApart
import Derived.Test.YtiibhggjlandmaaWArr
import Derived.Test.YtiibhggjlandmaaWZeros
import Derived.Test.YtiibhggjlandmaaWFoot
import Derived.Test.YtiibhggjlandmaaWKept
import Derived.Test.YtiibhggjlandmaaWShare
import Derived.Test.YtiibhggjlandmaaWN
import Derived.Test.YtiibhggjlandmaaWFootNe
import Derived.Test.YtiibhggjlandmaaWAt
import Derived.Test.YtiibhggjlandmaaWEqStruct
import Derived.Test.YtiibhggjlandmaaWRepsOne
import Derived.Test.YtiibhggjlandmaaWInv
import Derived.Test.YtiibhggjlandmaaWInvWords
import Derived.Test.YtiibhggjlandmaaWGuard
import Derived.Test.YtiibhggjlandmaaWNEv
import Derived.Test.YtiibhggjlandmaaWMore
namespace Go.Proofs.Ytiibhggjlandmaa.PDecodeMoves
open Go.RowKit Go.Proofs.YtiibhggjlandmaaW.PrintWords Go.Proofs.YtiibhggjlandmaaW.PrintLast Go.Proofs.YtiibhggjlandmaaW.PrintMore Go.Proofs.Ytiibhggjlandmaa.PB
attribute [local go_sem] max2_int min2_int max_two min_two max_three min_three max_four min_four   -- for this text's walks alone
set_option linter.unusedVariables false
set_option linter.unusedSimpArgs false



def errW : Option Int → Value
  | none => .nilIface
  | some c => .iface 0 (.int .i64 c)
theorem errW_none : errW none = .nilIface := rfl
theorem errW_some (c : Int) : errW (some c) = .iface 0 (.int .i64 c) := rfl

-- the values' own types

end Go.Proofs.Ytiibhggjlandmaa.PDecodeMoves
