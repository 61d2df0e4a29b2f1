/- Texts of this claim, put together by a program: PurePar6. -/
import Derived.Test.YtiibhggjlandmaaDoorMB18
/- The parcels from 49152 on. -/
namespace Go.Proofs.YtiibhggjlandmaaDoor.Pure
open Go.RowKit Go.Proofs.YtiibhggjlandmaaDoorW.PrintWords Go.Proofs.YtiibhggjlandmaaDoorW.PrintMore Go.Proofs.YtiibhggjlandmaaDoor.PB Go.Proofs.YtiibhggjlandmaaDoor.PD Go.Proofs.YtiibhggjlandmaaDoor.Mth
set_option maxRecDepth 1000000 in
set_option maxHeartbeats 8000000 in
theorem allP_48 : allP 1024 49152 = true := by decide +kernel
set_option maxRecDepth 1000000 in
set_option maxHeartbeats 8000000 in
theorem allP_49 : allP 1024 50176 = true := by decide +kernel
set_option maxRecDepth 1000000 in
set_option maxHeartbeats 8000000 in
theorem allP_50 : allP 1024 51200 = true := by decide +kernel
set_option maxRecDepth 1000000 in
set_option maxHeartbeats 8000000 in
theorem allP_51 : allP 1024 52224 = true := by decide +kernel
set_option maxRecDepth 1000000 in
set_option maxHeartbeats 8000000 in
theorem allP_52 : allP 1024 53248 = true := by decide +kernel
set_option maxRecDepth 1000000 in
set_option maxHeartbeats 8000000 in
theorem allP_53 : allP 1024 54272 = true := by decide +kernel
set_option maxRecDepth 1000000 in
set_option maxHeartbeats 8000000 in
theorem allP_54 : allP 1024 55296 = true := by decide +kernel
set_option maxRecDepth 1000000 in
set_option maxHeartbeats 8000000 in
theorem allP_55 : allP 1024 56320 = true := by decide +kernel
end Go.Proofs.YtiibhggjlandmaaDoor.Pure
