/- The parcels from 8192 on. -/
import Derived.Test.YtiibhggjlandmaaPureShoQ
namespace Go.Proofs.Ytiibhggjlandmaa.Pure
open Go.RowKit Go.Proofs.YtiibhggjlandmaaW.PrintWords Go.Proofs.YtiibhggjlandmaaW.PrintMore Go.Proofs.Ytiibhggjlandmaa.PB Go.Proofs.Ytiibhggjlandmaa.PF Go.Proofs.Ytiibhggjlandmaa.Mth
set_option maxRecDepth 1000000 in
set_option maxHeartbeats 8000000 in
theorem allS_8 : allS 1024 8192 = true := by decide +kernel
set_option maxRecDepth 1000000 in
set_option maxHeartbeats 8000000 in
theorem allS_9 : allS 1024 9216 = true := by decide +kernel
set_option maxRecDepth 1000000 in
set_option maxHeartbeats 8000000 in
theorem allS_10 : allS 1024 10240 = true := by decide +kernel
set_option maxRecDepth 1000000 in
set_option maxHeartbeats 8000000 in
theorem allS_11 : allS 1024 11264 = true := by decide +kernel
set_option maxRecDepth 1000000 in
set_option maxHeartbeats 8000000 in
theorem allS_12 : allS 1024 12288 = true := by decide +kernel
set_option maxRecDepth 1000000 in
set_option maxHeartbeats 8000000 in
theorem allS_13 : allS 1024 13312 = true := by decide +kernel
set_option maxRecDepth 1000000 in
set_option maxHeartbeats 8000000 in
theorem allS_14 : allS 1024 14336 = true := by decide +kernel
set_option maxRecDepth 1000000 in
set_option maxHeartbeats 8000000 in
theorem allS_15 : allS 1024 15360 = true := by decide +kernel
end Go.Proofs.Ytiibhggjlandmaa.Pure
