/- Texts of this claim, put together by a program: PurePar3. -/
import Derived.Test.YtiibhggjlandmaaDoorMB18
/- The parcels from 24576 on. -/
namespace Go.Proofs.YtiibhggjlandmaaDoor.Pure
open Go.RowKit Go.Proofs.YtiibhggjlandmaaDoorW.PrintWords Go.Proofs.YtiibhggjlandmaaDoorW.PrintMore Go.Proofs.YtiibhggjlandmaaDoor.PB Go.Proofs.YtiibhggjlandmaaDoor.PD Go.Proofs.YtiibhggjlandmaaDoor.Mth
set_option maxRecDepth 1000000 in
set_option maxHeartbeats 8000000 in
theorem allP_24 : allP 1024 24576 = true := by decide +kernel
set_option maxRecDepth 1000000 in
set_option maxHeartbeats 8000000 in
theorem allP_25 : allP 1024 25600 = true := by decide +kernel
set_option maxRecDepth 1000000 in
set_option maxHeartbeats 8000000 in
theorem allP_26 : allP 1024 26624 = true := by decide +kernel
set_option maxRecDepth 1000000 in
set_option maxHeartbeats 8000000 in
theorem allP_27 : allP 1024 27648 = true := by decide +kernel
set_option maxRecDepth 1000000 in
set_option maxHeartbeats 8000000 in
theorem allP_28 : allP 1024 28672 = true := by decide +kernel
set_option maxRecDepth 1000000 in
set_option maxHeartbeats 8000000 in
theorem allP_29 : allP 1024 29696 = true := by decide +kernel
set_option maxRecDepth 1000000 in
set_option maxHeartbeats 8000000 in
theorem allP_30 : allP 1024 30720 = true := by decide +kernel
set_option maxRecDepth 1000000 in
set_option maxHeartbeats 8000000 in
theorem allP_31 : allP 1024 31744 = true := by decide +kernel
end Go.Proofs.YtiibhggjlandmaaDoor.Pure
