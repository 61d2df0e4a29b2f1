/- The parcels from 57344 on. -/
import Derived.Test.YtiibhggjlandmaaPureExpQ
namespace Go.Proofs.Ytiibhggjlandmaa.Pure
open Go.RowKit Go.Proofs.YtiibhggjlandmaaW.PrintWords Go.Proofs.YtiibhggjlandmaaW.PrintMore Go.Proofs.Ytiibhggjlandmaa.PD
set_option maxRecDepth 1000000 in
set_option maxHeartbeats 8000000 in
theorem allE_28 : allE 2048 57344 = true := by decide +kernel
set_option maxRecDepth 1000000 in
set_option maxHeartbeats 8000000 in
theorem allE_29 : allE 2048 59392 = true := by decide +kernel
set_option maxRecDepth 1000000 in
set_option maxHeartbeats 8000000 in
theorem allE_30 : allE 2048 61440 = true := by decide +kernel
set_option maxRecDepth 1000000 in
set_option maxHeartbeats 8000000 in
theorem allE_31 : allE 2048 63488 = true := by decide +kernel
end Go.Proofs.Ytiibhggjlandmaa.Pure
