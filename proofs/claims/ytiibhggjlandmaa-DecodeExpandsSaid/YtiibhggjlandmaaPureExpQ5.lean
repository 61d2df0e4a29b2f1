/- The parcels from 40960 on. -/
import Derived.Test.YtiibhggjlandmaaPureExpQ
namespace Go.Proofs.Ytiibhggjlandmaa.Pure
open Go.RowKit Go.Proofs.YtiibhggjlandmaaW.PrintWords Go.Proofs.YtiibhggjlandmaaW.PrintMore Go.Proofs.Ytiibhggjlandmaa.PD
set_option maxRecDepth 1000000 in
set_option maxHeartbeats 8000000 in
theorem allE_20 : allE 2048 40960 = true := by decide +kernel
set_option maxRecDepth 1000000 in
set_option maxHeartbeats 8000000 in
theorem allE_21 : allE 2048 43008 = true := by decide +kernel
set_option maxRecDepth 1000000 in
set_option maxHeartbeats 8000000 in
theorem allE_22 : allE 2048 45056 = true := by decide +kernel
set_option maxRecDepth 1000000 in
set_option maxHeartbeats 8000000 in
theorem allE_23 : allE 2048 47104 = true := by decide +kernel
end Go.Proofs.Ytiibhggjlandmaa.Pure
