/- Texts of this claim, put together by a program: PurePar0. -/
import Derived.Test.YtiibhggjlandmaaDoorMB18
/- The parcels from 0 on. -/
namespace Go.Proofs.YtiibhggjlandmaaDoor.Pure
open Go.RowKit Go.Proofs.YtiibhggjlandmaaDoorW.PrintWords Go.Proofs.YtiibhggjlandmaaDoorW.PrintMore Go.Proofs.YtiibhggjlandmaaDoor.PB Go.Proofs.YtiibhggjlandmaaDoor.PD Go.Proofs.YtiibhggjlandmaaDoor.Mth
set_option maxRecDepth 1000000 in
set_option maxHeartbeats 8000000 in
theorem allP_0 : allP 1024 0 = true := by decide +kernel
set_option maxRecDepth 1000000 in
set_option maxHeartbeats 8000000 in
theorem allP_1 : allP 1024 1024 = true := by decide +kernel
set_option maxRecDepth 1000000 in
set_option maxHeartbeats 8000000 in
theorem allP_2 : allP 1024 2048 = true := by decide +kernel
set_option maxRecDepth 1000000 in
set_option maxHeartbeats 8000000 in
theorem allP_3 : allP 1024 3072 = true := by decide +kernel
set_option maxRecDepth 1000000 in
set_option maxHeartbeats 8000000 in
theorem allP_4 : allP 1024 4096 = true := by decide +kernel
set_option maxRecDepth 1000000 in
set_option maxHeartbeats 8000000 in
theorem allP_5 : allP 1024 5120 = true := by decide +kernel
set_option maxRecDepth 1000000 in
set_option maxHeartbeats 8000000 in
theorem allP_6 : allP 1024 6144 = true := by decide +kernel
set_option maxRecDepth 1000000 in
set_option maxHeartbeats 8000000 in
theorem allP_7 : allP 1024 7168 = true := by decide +kernel
end Go.Proofs.YtiibhggjlandmaaDoor.Pure
