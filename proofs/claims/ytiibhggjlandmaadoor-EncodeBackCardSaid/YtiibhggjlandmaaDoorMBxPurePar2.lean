/- Texts of this claim, put together by a program: PurePar2. -/
import Derived.Test.YtiibhggjlandmaaDoorMB18
/- The parcels from 16384 on. -/
namespace Go.Proofs.YtiibhggjlandmaaDoor.Pure
open Go.RowKit Go.Proofs.YtiibhggjlandmaaDoorW.PrintWords Go.Proofs.YtiibhggjlandmaaDoorW.PrintMore Go.Proofs.YtiibhggjlandmaaDoor.PB Go.Proofs.YtiibhggjlandmaaDoor.PD Go.Proofs.YtiibhggjlandmaaDoor.Mth
set_option maxRecDepth 1000000 in
set_option maxHeartbeats 8000000 in
theorem allP_16 : allP 1024 16384 = true := by decide +kernel
set_option maxRecDepth 1000000 in
set_option maxHeartbeats 8000000 in
theorem allP_17 : allP 1024 17408 = true := by decide +kernel
set_option maxRecDepth 1000000 in
set_option maxHeartbeats 8000000 in
theorem allP_18 : allP 1024 18432 = true := by decide +kernel
set_option maxRecDepth 1000000 in
set_option maxHeartbeats 8000000 in
theorem allP_19 : allP 1024 19456 = true := by decide +kernel
set_option maxRecDepth 1000000 in
set_option maxHeartbeats 8000000 in
theorem allP_20 : allP 1024 20480 = true := by decide +kernel
set_option maxRecDepth 1000000 in
set_option maxHeartbeats 8000000 in
theorem allP_21 : allP 1024 21504 = true := by decide +kernel
set_option maxRecDepth 1000000 in
set_option maxHeartbeats 8000000 in
theorem allP_22 : allP 1024 22528 = true := by decide +kernel
set_option maxRecDepth 1000000 in
set_option maxHeartbeats 8000000 in
theorem allP_23 : allP 1024 23552 = true := by decide +kernel
end Go.Proofs.YtiibhggjlandmaaDoor.Pure
