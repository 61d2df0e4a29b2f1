/- The parcels from 0 on. -/
import Derived.Test.YtiibhggjlandmaaPureExpQ
namespace Go.Proofs.Ytiibhggjlandmaa.Pure
open Go.RowKit Go.Proofs.YtiibhggjlandmaaW.PrintWords Go.Proofs.YtiibhggjlandmaaW.PrintMore Go.Proofs.Ytiibhggjlandmaa.PD
set_option maxRecDepth 1000000 in
set_option maxHeartbeats 8000000 in
theorem allE_0 : allE 2048 0 = true := by decide +kernel
set_option maxRecDepth 1000000 in
set_option maxHeartbeats 8000000 in
theorem allE_1 : allE 2048 2048 = true := by decide +kernel
set_option maxRecDepth 1000000 in
set_option maxHeartbeats 8000000 in
theorem allE_2 : allE 2048 4096 = true := by decide +kernel
set_option maxRecDepth 1000000 in
set_option maxHeartbeats 8000000 in
theorem allE_3 : allE 2048 6144 = true := by decide +kernel
end Go.Proofs.Ytiibhggjlandmaa.Pure
