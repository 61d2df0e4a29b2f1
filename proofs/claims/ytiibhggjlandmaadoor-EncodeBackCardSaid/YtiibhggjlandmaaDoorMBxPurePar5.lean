/- Texts of this claim, put together by a program: PurePar5. -/
import Derived.Test.YtiibhggjlandmaaDoorMB18
/- The parcels from 40960 on. -/
namespace Go.Proofs.YtiibhggjlandmaaDoor.Pure
open Go.RowKit Go.Proofs.YtiibhggjlandmaaDoorW.PrintWords Go.Proofs.YtiibhggjlandmaaDoorW.PrintMore Go.Proofs.YtiibhggjlandmaaDoor.PB Go.Proofs.YtiibhggjlandmaaDoor.PD Go.Proofs.YtiibhggjlandmaaDoor.Mth
set_option maxRecDepth 1000000 in
set_option maxHeartbeats 8000000 in
theorem allP_40 : allP 1024 40960 = true := by decide +kernel
set_option maxRecDepth 1000000 in
set_option maxHeartbeats 8000000 in
theorem allP_41 : allP 1024 41984 = true := by decide +kernel
set_option maxRecDepth 1000000 in
set_option maxHeartbeats 8000000 in
theorem allP_42 : allP 1024 43008 = true := by decide +kernel
set_option maxRecDepth 1000000 in
set_option maxHeartbeats 8000000 in
theorem allP_43 : allP 1024 44032 = true := by decide +kernel
set_option maxRecDepth 1000000 in
set_option maxHeartbeats 8000000 in
theorem allP_44 : allP 1024 45056 = true := by decide +kernel
set_option maxRecDepth 1000000 in
set_option maxHeartbeats 8000000 in
theorem allP_45 : allP 1024 46080 = true := by decide +kernel
set_option maxRecDepth 1000000 in
set_option maxHeartbeats 8000000 in
theorem allP_46 : allP 1024 47104 = true := by decide +kernel
set_option maxRecDepth 1000000 in
set_option maxHeartbeats 8000000 in
theorem allP_47 : allP 1024 48128 = true := by decide +kernel
end Go.Proofs.YtiibhggjlandmaaDoor.Pure
