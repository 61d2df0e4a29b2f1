/- The parcels from 24576 on. -/
import Derived.Test.YtiibhggjlandmaaPureExpQ
namespace Go.Proofs.Ytiibhggjlandmaa.Pure
open Go.RowKit Go.Proofs.YtiibhggjlandmaaW.PrintWords Go.Proofs.YtiibhggjlandmaaW.PrintMore Go.Proofs.Ytiibhggjlandmaa.PD
set_option maxRecDepth 1000000 in
set_option maxHeartbeats 8000000 in
theorem allE_12 : allE 2048 24576 = true := by decide +kernel
set_option maxRecDepth 1000000 in
set_option maxHeartbeats 8000000 in
theorem allE_13 : allE 2048 26624 = true := by decide +kernel
set_option maxRecDepth 1000000 in
set_option maxHeartbeats 8000000 in
theorem allE_14 : allE 2048 28672 = true := by decide +kernel
set_option maxRecDepth 1000000 in
set_option maxHeartbeats 8000000 in
theorem allE_15 : allE 2048 30720 = true := by decide +kernel
end Go.Proofs.Ytiibhggjlandmaa.Pure
