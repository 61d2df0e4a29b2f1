/- The numbers under which the translation holds sync.Mutex. No condition. -/
import Derived.Test.YtkocfcgdjjdnhaaProg
import Derived.Conc.MuLone
import Derived.KernelRfl
namespace Go.Proofs.Ytkocfcgdjjdnhaa.BW
abbrev muLink : Go.Conc.Locks.MuLink := { lock := 62, unlock := 63, ilock := 75, iunlock := 76, lockSlow := 82, unlockSlow := 85, disable := 78, enable := 80, acquire := 81, relMerge := 83, cas32 := 79, add32 := 84, tMutex := 81, tIMutex := 79, tPMutex := 114, tPIMutex := 117, tPI32 := 119, tUP := 121, tNoCopy := 77, tU32 := 23 }
theorem muLib : Go.Conc.Locks.MuLib Try.prog muLink :=
  ⟨Try.func62, Try.func63, Try.func75, Try.func76, Try.func78, Try.func80, Try.func81, Try.func83, Try.func79, Try.func84, Try.underlying79, Try.runUnderlying79, Try.sizeOf79, Try.isAgg79, Try.zeroValue79, Try.underlying81, Try.runUnderlying81, Try.sizeOf81, Try.isAgg81, Try.zeroValue81, Try.underlying114, Try.runUnderlying114, Try.sizeOf114, Try.isAgg114, Try.zeroValue114, Try.underlying117, Try.runUnderlying117, Try.sizeOf117, Try.isAgg117, Try.zeroValue117, Try.underlying119, Try.runUnderlying119, Try.sizeOf119, Try.isAgg119, Try.zeroValue119, Try.underlying121, Try.runUnderlying121, Try.sizeOf121, Try.isAgg121, Try.zeroValue121, Try.underlying77, Try.runUnderlying77, Try.sizeOf77, Try.isAgg77, Try.zeroValue77, Try.underlying21, Try.runUnderlying21, Try.sizeOf21, Try.isAgg21, Try.zeroValue21, (by kernel_rfl)⟩
end Go.Proofs.Ytkocfcgdjjdnhaa.BW
