/- The parcels from 24576 on. -/
import Derived.Test.YtiibhggjlandmaaPureShoQ
namespace Go.Proofs.Ytiibhggjlandmaa.Pure
open Go.RowKit Go.Proofs.YtiibhggjlandmaaW.PrintWords Go.Proofs.YtiibhggjlandmaaW.PrintMore Go.Proofs.Ytiibhggjlandmaa.PB Go.Proofs.Ytiibhggjlandmaa.PF Go.Proofs.Ytiibhggjlandmaa.Mth
set_option maxRecDepth 1000000 in
set_option maxHeartbeats 8000000 in
theorem allS_24 : allS 1024 24576 = true := by decide +kernel
set_option maxRecDepth 1000000 in
set_option maxHeartbeats 8000000 in
theorem allS_25 : allS 1024 25600 = true := by decide +kernel
set_option maxRecDepth 1000000 in
set_option maxHeartbeats 8000000 in
theorem allS_26 : allS 1024 26624 = true := by decide +kernel
set_option maxRecDepth 1000000 in
set_option maxHeartbeats 8000000 in
theorem allS_27 : allS 1024 27648 = true := by decide +kernel
set_option maxRecDepth 1000000 in
set_option maxHeartbeats 8000000 in
theorem allS_28 : allS 1024 28672 = true := by decide +kernel
set_option maxRecDepth 1000000 in
set_option maxHeartbeats 8000000 in
theorem allS_29 : allS 1024 29696 = true := by decide +kernel
set_option maxRecDepth 1000000 in
set_option maxHeartbeats 8000000 in
theorem allS_30 : allS 1024 30720 = true := by decide +kernel
set_option maxRecDepth 1000000 in
set_option maxHeartbeats 8000000 in
theorem allS_31 : allS 1024 31744 = true := by decide +kernel
end Go.Proofs.Ytiibhggjlandmaa.Pure
