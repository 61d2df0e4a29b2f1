/- The parcels from 8192 on. -/
import Derived.Test.YtiibhggjlandmaaPureExpQ
namespace Go.Proofs.Ytiibhggjlandmaa.Pure
open Go.RowKit Go.Proofs.YtiibhggjlandmaaW.PrintWords Go.Proofs.YtiibhggjlandmaaW.PrintMore Go.Proofs.Ytiibhggjlandmaa.PD
set_option maxRecDepth 1000000 in
set_option maxHeartbeats 8000000 in
theorem allE_4 : allE 2048 8192 = true := by decide +kernel
set_option maxRecDepth 1000000 in
set_option maxHeartbeats 8000000 in
theorem allE_5 : allE 2048 10240 = true := by decide +kernel
set_option maxRecDepth 1000000 in
set_option maxHeartbeats 8000000 in
theorem allE_6 : allE 2048 12288 = true := by decide +kernel
set_option maxRecDepth 1000000 in
set_option maxHeartbeats 8000000 in
theorem allE_7 : allE 2048 14336 = true := by decide +kernel
end Go.Proofs.Ytiibhggjlandmaa.Pure
