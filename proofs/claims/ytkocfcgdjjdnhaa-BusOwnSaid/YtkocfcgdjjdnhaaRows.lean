/-
  No cell of these rows narrows 'for every input' (looked for: loops, veiled, ifaces, maps, wideKeys, modest, calm, conditions, laid).
  DERIVED. THE GIVEN ROWS OF THIS SEAT. 14 by the template 'for every input the law returns true; each argument reads behind the call as it read before'; 0 by the template 'total and deterministic' (their statements: YtkocfcgdjjdnhaaTotals.lean).
  GIVEN WITH THE SEED: the statements are not yours to turn. If you find one false, say at which input.
  Laid BY PROGRAM, IN A SANDBOX (cutbox-rows.mjs): the forced cells as the released guide's own fill.sh prints them over the translation 40a583390a4c63e4… (all of the seat's roots in one cut). By AI agents, Wed Nov 11 2026. No macro, syntax, notation, axiom, sorry.
-/
import Derived.Test.YtkocfcgdjjdnhaaChecked
import GoSem.Claim
import GoSem.ClaimJoined
import GoSem.ClaimMapViews
import Derived.JoinedTies
import Derived.KernelRfl
namespace Go.Proofs.Ytkocfcgdjjdnhaa
/- THE CELL 'sum', in the pinned program and in every row, IS THE sha256 OF THE DUMP (.gsa) THAT YtkocfcgdjjdnhaaProg.lean LOADS. Nothing in Lean hashes anything: it is a label: what it is worth is what the hold of that sum in a sandbox is worth. -/
noncomputable def Try.pinned : Pinned := { name := "ytkocfcgdjjdnhaa", sum := "40a583390a4c63e4716fb785c5775c4929a223f9498a26aee0e584d31f72a1c2", checked := Try.checked }
namespace Rows
def none {H : Type} : Left H := { results := [], args := [] }

/-- 'anvillaw03.BusMakes': WHATEVER THE INPUT: true; the input reads as it did. -/
def busMakesSpec : ChangeSpec := { name := "busMakes", fn := fun _ => fun
  | [d] => { results := [.lit (.bool true)], args := [d] }
  | _ => none }
def busMakesRow : OpenClaim := { program := "ytkocfcgdjjdnhaa", sum := "40a583390a4c63e4716fb785c5775c4929a223f9498a26aee0e584d31f72a1c2", func := "anvil/anvillaw03.BusMakes", spec := "busMakes", inPlace := ["(*internal/sync.Mutex).Lock", "internal/race.Disable", "sync/atomic.CompareAndSwapInt32", "internal/race.Enable", "internal/race.Acquire", "(*internal/sync.Mutex).lockSlow", "internal/sync.runtime_canSpin", "internal/sync.runtime_doSpin", "internal/sync.throw", "internal/sync.runtime_nanotime", "internal/sync.runtime_SemacquireMutex", "sync/atomic.AddInt32", "(*internal/sync.Mutex).Unlock", "internal/race.ReleaseMerge", "(*internal/sync.Mutex).unlockSlow", "internal/sync.fatal", "internal/sync.runtime_Semrelease"], apart := false }
def BusMakesSaid : Prop := busMakesRow.holds Try.pinned (OpenSpec.ofChange busMakesSpec)

/-- ITS FALSE NEIGHBOUR: 'it returns false'. Refute it at one input. -/
def busMakesWrong : ChangeSpec := { name := "busMakes", fn := fun _ => fun
  | [d] => { results := [.lit (.bool false)], args := [d] }
  | _ => none }
def BusMakesWrongFalsely : Prop := busMakesRow.holds Try.pinned (OpenSpec.ofChange busMakesWrong)

/-- 'anvillaw03.BusOwn': WHATEVER THE INPUT: true; the input reads as it did. -/
def busOwnSpec : ChangeSpec := { name := "busOwn", fn := fun _ => fun
  | [d] => { results := [.lit (.bool true)], args := [d] }
  | _ => none }
def busOwnRow : OpenClaim := { program := "ytkocfcgdjjdnhaa", sum := "40a583390a4c63e4716fb785c5775c4929a223f9498a26aee0e584d31f72a1c2", func := "anvil/anvillaw03.BusOwn", spec := "busOwn", inPlace := ["(*internal/sync.Mutex).Lock", "internal/race.Disable", "sync/atomic.CompareAndSwapInt32", "internal/race.Enable", "internal/race.Acquire", "(*internal/sync.Mutex).lockSlow", "internal/sync.runtime_canSpin", "internal/sync.runtime_doSpin", "internal/sync.throw", "internal/sync.runtime_nanotime", "internal/sync.runtime_SemacquireMutex", "sync/atomic.AddInt32", "(*internal/sync.Mutex).Unlock", "internal/race.ReleaseMerge", "(*internal/sync.Mutex).unlockSlow", "internal/sync.fatal", "internal/sync.runtime_Semrelease"], apart := false }
def BusOwnSaid : Prop := busOwnRow.holds Try.pinned (OpenSpec.ofChange busOwnSpec)

/-- ITS FALSE NEIGHBOUR: 'it returns false'. Refute it at one input. -/
def busOwnWrong : ChangeSpec := { name := "busOwn", fn := fun _ => fun
  | [d] => { results := [.lit (.bool false)], args := [d] }
  | _ => none }
def BusOwnWrongFalsely : Prop := busOwnRow.holds Try.pinned (OpenSpec.ofChange busOwnWrong)

/-- 'anvillaw03.BusConsole': WHATEVER THE INPUT: true; the input reads as it did. -/
def busConsoleSpec : ChangeSpec := { name := "busConsole", fn := fun _ => fun
  | [d] => { results := [.lit (.bool true)], args := [d] }
  | _ => none }
def busConsoleRow : OpenClaim := { program := "ytkocfcgdjjdnhaa", sum := "40a583390a4c63e4716fb785c5775c4929a223f9498a26aee0e584d31f72a1c2", func := "anvil/anvillaw03.BusConsole", spec := "busConsole", inPlace := ["(*internal/sync.Mutex).Lock", "internal/race.Disable", "sync/atomic.CompareAndSwapInt32", "internal/race.Enable", "internal/race.Acquire", "(*internal/sync.Mutex).lockSlow", "internal/sync.runtime_canSpin", "internal/sync.runtime_doSpin", "internal/sync.throw", "internal/sync.runtime_nanotime", "internal/sync.runtime_SemacquireMutex", "sync/atomic.AddInt32", "(*internal/sync.Mutex).Unlock", "internal/race.ReleaseMerge", "(*internal/sync.Mutex).unlockSlow", "internal/sync.fatal", "internal/sync.runtime_Semrelease"], unfollowed := true, recurses := true, apart := false }
def BusConsoleSaid : Prop := busConsoleRow.holds Try.pinned (OpenSpec.ofChange busConsoleSpec)

/-- ITS FALSE NEIGHBOUR: 'it returns false'. Refute it at one input. -/
def busConsoleWrong : ChangeSpec := { name := "busConsole", fn := fun _ => fun
  | [d] => { results := [.lit (.bool false)], args := [d] }
  | _ => none }
def BusConsoleWrongFalsely : Prop := busConsoleRow.holds Try.pinned (OpenSpec.ofChange busConsoleWrong)

/-- 'anvillaw03.BusApart': WHATEVER THE INPUT: true; the input reads as it did. -/
def busApartSpec : ChangeSpec := { name := "busApart", fn := fun _ => fun
  | [d] => { results := [.lit (.bool true)], args := [d] }
  | _ => none }
def busApartRow : OpenClaim := { program := "ytkocfcgdjjdnhaa", sum := "40a583390a4c63e4716fb785c5775c4929a223f9498a26aee0e584d31f72a1c2", func := "anvil/anvillaw03.BusApart", spec := "busApart", inPlace := ["(*internal/sync.Mutex).Lock", "internal/race.Disable", "sync/atomic.CompareAndSwapInt32", "internal/race.Enable", "internal/race.Acquire", "(*internal/sync.Mutex).lockSlow", "internal/sync.runtime_canSpin", "internal/sync.runtime_doSpin", "internal/sync.throw", "internal/sync.runtime_nanotime", "internal/sync.runtime_SemacquireMutex", "sync/atomic.AddInt32", "(*internal/sync.Mutex).Unlock", "internal/race.ReleaseMerge", "(*internal/sync.Mutex).unlockSlow", "internal/sync.fatal", "internal/sync.runtime_Semrelease"], unfollowed := true, recurses := true, apart := false }
def BusApartSaid : Prop := busApartRow.holds Try.pinned (OpenSpec.ofChange busApartSpec)

/-- ITS FALSE NEIGHBOUR: 'it returns false'. Refute it at one input. -/
def busApartWrong : ChangeSpec := { name := "busApart", fn := fun _ => fun
  | [d] => { results := [.lit (.bool false)], args := [d] }
  | _ => none }
def BusApartWrongFalsely : Prop := busApartRow.holds Try.pinned (OpenSpec.ofChange busApartWrong)

/-- 'anvillaw03.BusMemory': WHATEVER THE INPUT: true; the input reads as it did. -/
def busMemorySpec : ChangeSpec := { name := "busMemory", fn := fun _ => fun
  | [d] => { results := [.lit (.bool true)], args := [d] }
  | _ => none }
def busMemoryRow : OpenClaim := { program := "ytkocfcgdjjdnhaa", sum := "40a583390a4c63e4716fb785c5775c4929a223f9498a26aee0e584d31f72a1c2", func := "anvil/anvillaw03.BusMemory", spec := "busMemory", inPlace := ["(*internal/sync.Mutex).Lock", "internal/race.Disable", "sync/atomic.CompareAndSwapInt32", "internal/race.Enable", "internal/race.Acquire", "(*internal/sync.Mutex).lockSlow", "internal/sync.runtime_canSpin", "internal/sync.runtime_doSpin", "internal/sync.throw", "internal/sync.runtime_nanotime", "internal/sync.runtime_SemacquireMutex", "sync/atomic.AddInt32", "(*internal/sync.Mutex).Unlock", "internal/race.ReleaseMerge", "(*internal/sync.Mutex).unlockSlow", "internal/sync.fatal", "internal/sync.runtime_Semrelease"], unfollowed := true, recurses := true, apart := false }
def BusMemorySaid : Prop := busMemoryRow.holds Try.pinned (OpenSpec.ofChange busMemorySpec)

/-- ITS FALSE NEIGHBOUR: 'it returns false'. Refute it at one input. -/
def busMemoryWrong : ChangeSpec := { name := "busMemory", fn := fun _ => fun
  | [d] => { results := [.lit (.bool false)], args := [d] }
  | _ => none }
def BusMemoryWrongFalsely : Prop := busMemoryRow.holds Try.pinned (OpenSpec.ofChange busMemoryWrong)

/-- 'anvillaw03.BusLoads': WHATEVER THE INPUT: true; the input reads as it did. -/
def busLoadsSpec : ChangeSpec := { name := "busLoads", fn := fun _ => fun
  | [d] => { results := [.lit (.bool true)], args := [d] }
  | _ => none }
def busLoadsRow : OpenClaim := { program := "ytkocfcgdjjdnhaa", sum := "40a583390a4c63e4716fb785c5775c4929a223f9498a26aee0e584d31f72a1c2", func := "anvil/anvillaw03.BusLoads", spec := "busLoads", inPlace := ["(*internal/sync.Mutex).Lock", "internal/race.Disable", "sync/atomic.CompareAndSwapInt32", "internal/race.Enable", "internal/race.Acquire", "(*internal/sync.Mutex).lockSlow", "internal/sync.runtime_canSpin", "internal/sync.runtime_doSpin", "internal/sync.throw", "internal/sync.runtime_nanotime", "internal/sync.runtime_SemacquireMutex", "sync/atomic.AddInt32", "(*internal/sync.Mutex).Unlock", "internal/race.ReleaseMerge", "(*internal/sync.Mutex).unlockSlow", "internal/sync.fatal", "internal/sync.runtime_Semrelease"], unfollowed := true, recurses := true, apart := false }
def BusLoadsSaid : Prop := busLoadsRow.holds Try.pinned (OpenSpec.ofChange busLoadsSpec)

/-- ITS FALSE NEIGHBOUR: 'it returns false'. Refute it at one input. -/
def busLoadsWrong : ChangeSpec := { name := "busLoads", fn := fun _ => fun
  | [d] => { results := [.lit (.bool false)], args := [d] }
  | _ => none }
def BusLoadsWrongFalsely : Prop := busLoadsRow.holds Try.pinned (OpenSpec.ofChange busLoadsWrong)

/-- 'anvillaw03.BusStores': WHATEVER THE INPUT: true; the input reads as it did. -/
def busStoresSpec : ChangeSpec := { name := "busStores", fn := fun _ => fun
  | [d] => { results := [.lit (.bool true)], args := [d] }
  | _ => none }
def busStoresRow : OpenClaim := { program := "ytkocfcgdjjdnhaa", sum := "40a583390a4c63e4716fb785c5775c4929a223f9498a26aee0e584d31f72a1c2", func := "anvil/anvillaw03.BusStores", spec := "busStores", inPlace := ["(*internal/sync.Mutex).Lock", "internal/race.Disable", "sync/atomic.CompareAndSwapInt32", "internal/race.Enable", "internal/race.Acquire", "(*internal/sync.Mutex).lockSlow", "internal/sync.runtime_canSpin", "internal/sync.runtime_doSpin", "internal/sync.throw", "internal/sync.runtime_nanotime", "internal/sync.runtime_SemacquireMutex", "sync/atomic.AddInt32", "(*internal/sync.Mutex).Unlock", "internal/race.ReleaseMerge", "(*internal/sync.Mutex).unlockSlow", "internal/sync.fatal", "internal/sync.runtime_Semrelease"], unfollowed := true, recurses := true, apart := false }
def BusStoresSaid : Prop := busStoresRow.holds Try.pinned (OpenSpec.ofChange busStoresSpec)

/-- ITS FALSE NEIGHBOUR: 'it returns false'. Refute it at one input. -/
def busStoresWrong : ChangeSpec := { name := "busStores", fn := fun _ => fun
  | [d] => { results := [.lit (.bool false)], args := [d] }
  | _ => none }
def BusStoresWrongFalsely : Prop := busStoresRow.holds Try.pinned (OpenSpec.ofChange busStoresWrong)

/-- 'anvillaw03.BusBegins': WHATEVER THE INPUT: true; the input reads as it did. -/
def busBeginsSpec : ChangeSpec := { name := "busBegins", fn := fun _ => fun
  | [d] => { results := [.lit (.bool true)], args := [d] }
  | _ => none }
def busBeginsRow : OpenClaim := { program := "ytkocfcgdjjdnhaa", sum := "40a583390a4c63e4716fb785c5775c4929a223f9498a26aee0e584d31f72a1c2", func := "anvil/anvillaw03.BusBegins", spec := "busBegins", inPlace := ["(*internal/sync.Mutex).Lock", "internal/race.Disable", "sync/atomic.CompareAndSwapInt32", "internal/race.Enable", "internal/race.Acquire", "(*internal/sync.Mutex).lockSlow", "internal/sync.runtime_canSpin", "internal/sync.runtime_doSpin", "internal/sync.throw", "internal/sync.runtime_nanotime", "internal/sync.runtime_SemacquireMutex", "sync/atomic.AddInt32", "(*internal/sync.Mutex).Unlock", "internal/race.ReleaseMerge", "(*internal/sync.Mutex).unlockSlow", "internal/sync.fatal", "internal/sync.runtime_Semrelease"], unfollowed := true, recurses := true, apart := false }
def BusBeginsSaid : Prop := busBeginsRow.holds Try.pinned (OpenSpec.ofChange busBeginsSpec)

/-- ITS FALSE NEIGHBOUR: 'it returns false'. Refute it at one input. -/
def busBeginsWrong : ChangeSpec := { name := "busBegins", fn := fun _ => fun
  | [d] => { results := [.lit (.bool false)], args := [d] }
  | _ => none }
def BusBeginsWrongFalsely : Prop := busBeginsRow.holds Try.pinned (OpenSpec.ofChange busBeginsWrong)

/-- 'anvillaw03.BusThere': WHATEVER THE INPUT: true; the input reads as it did. -/
def busThereSpec : ChangeSpec := { name := "busThere", fn := fun _ => fun
  | [d] => { results := [.lit (.bool true)], args := [d] }
  | _ => none }
def busThereRow : OpenClaim := { program := "ytkocfcgdjjdnhaa", sum := "40a583390a4c63e4716fb785c5775c4929a223f9498a26aee0e584d31f72a1c2", func := "anvil/anvillaw03.BusThere", spec := "busThere", inPlace := ["(*internal/sync.Mutex).Lock", "internal/race.Disable", "sync/atomic.CompareAndSwapInt32", "internal/race.Enable", "internal/race.Acquire", "(*internal/sync.Mutex).lockSlow", "internal/sync.runtime_canSpin", "internal/sync.runtime_doSpin", "internal/sync.throw", "internal/sync.runtime_nanotime", "internal/sync.runtime_SemacquireMutex", "sync/atomic.AddInt32", "(*internal/sync.Mutex).Unlock", "internal/race.ReleaseMerge", "(*internal/sync.Mutex).unlockSlow", "internal/sync.fatal", "internal/sync.runtime_Semrelease"], unfollowed := true, recurses := true, apart := false }
def BusThereSaid : Prop := busThereRow.holds Try.pinned (OpenSpec.ofChange busThereSpec)

/-- ITS FALSE NEIGHBOUR: 'it returns false'. Refute it at one input. -/
def busThereWrong : ChangeSpec := { name := "busThere", fn := fun _ => fun
  | [d] => { results := [.lit (.bool false)], args := [d] }
  | _ => none }
def BusThereWrongFalsely : Prop := busThereRow.holds Try.pinned (OpenSpec.ofChange busThereWrong)

/-- 'anvillaw03.BusPeeks': WHATEVER THE INPUT: true; the input reads as it did. -/
def busPeeksSpec : ChangeSpec := { name := "busPeeks", fn := fun _ => fun
  | [d] => { results := [.lit (.bool true)], args := [d] }
  | _ => none }
def busPeeksRow : OpenClaim := { program := "ytkocfcgdjjdnhaa", sum := "40a583390a4c63e4716fb785c5775c4929a223f9498a26aee0e584d31f72a1c2", func := "anvil/anvillaw03.BusPeeks", spec := "busPeeks", inPlace := ["(*internal/sync.Mutex).Lock", "internal/race.Disable", "sync/atomic.CompareAndSwapInt32", "internal/race.Enable", "internal/race.Acquire", "(*internal/sync.Mutex).lockSlow", "internal/sync.runtime_canSpin", "internal/sync.runtime_doSpin", "internal/sync.throw", "internal/sync.runtime_nanotime", "internal/sync.runtime_SemacquireMutex", "sync/atomic.AddInt32", "(*internal/sync.Mutex).Unlock", "internal/race.ReleaseMerge", "(*internal/sync.Mutex).unlockSlow", "internal/sync.fatal", "internal/sync.runtime_Semrelease"], unfollowed := true, recurses := true, apart := false }
def BusPeeksSaid : Prop := busPeeksRow.holds Try.pinned (OpenSpec.ofChange busPeeksSpec)

/-- ITS FALSE NEIGHBOUR: 'it returns false'. Refute it at one input. -/
def busPeeksWrong : ChangeSpec := { name := "busPeeks", fn := fun _ => fun
  | [d] => { results := [.lit (.bool false)], args := [d] }
  | _ => none }
def BusPeeksWrongFalsely : Prop := busPeeksRow.holds Try.pinned (OpenSpec.ofChange busPeeksWrong)

/-- 'anvillaw03.BusTells': WHATEVER THE INPUT: true; the input reads as it did. -/
def busTellsSpec : ChangeSpec := { name := "busTells", fn := fun _ => fun
  | [d] => { results := [.lit (.bool true)], args := [d] }
  | _ => none }
def busTellsRow : OpenClaim := { program := "ytkocfcgdjjdnhaa", sum := "40a583390a4c63e4716fb785c5775c4929a223f9498a26aee0e584d31f72a1c2", func := "anvil/anvillaw03.BusTells", spec := "busTells", inPlace := ["(*internal/sync.Mutex).Lock", "internal/race.Disable", "sync/atomic.CompareAndSwapInt32", "internal/race.Enable", "internal/race.Acquire", "(*internal/sync.Mutex).lockSlow", "internal/sync.runtime_canSpin", "internal/sync.runtime_doSpin", "internal/sync.throw", "internal/sync.runtime_nanotime", "internal/sync.runtime_SemacquireMutex", "sync/atomic.AddInt32", "(*internal/sync.Mutex).Unlock", "internal/race.ReleaseMerge", "(*internal/sync.Mutex).unlockSlow", "internal/sync.fatal", "internal/sync.runtime_Semrelease"], unfollowed := true, recurses := true, apart := false }
def BusTellsSaid : Prop := busTellsRow.holds Try.pinned (OpenSpec.ofChange busTellsSpec)

/-- ITS FALSE NEIGHBOUR: 'it returns false'. Refute it at one input. -/
def busTellsWrong : ChangeSpec := { name := "busTells", fn := fun _ => fun
  | [d] => { results := [.lit (.bool false)], args := [d] }
  | _ => none }
def BusTellsWrongFalsely : Prop := busTellsRow.holds Try.pinned (OpenSpec.ofChange busTellsWrong)

/-- 'anvillaw03.BusAll': WHATEVER THE INPUT: true; the input reads as it did. -/
def busAllSpec : ChangeSpec := { name := "busAll", fn := fun _ => fun
  | [d] => { results := [.lit (.bool true)], args := [d] }
  | _ => none }
def busAllRow : OpenClaim := { program := "ytkocfcgdjjdnhaa", sum := "40a583390a4c63e4716fb785c5775c4929a223f9498a26aee0e584d31f72a1c2", func := "anvil/anvillaw03.BusAll", spec := "busAll", inPlace := ["(*internal/sync.Mutex).Lock", "internal/race.Disable", "sync/atomic.CompareAndSwapInt32", "internal/race.Enable", "internal/race.Acquire", "(*internal/sync.Mutex).lockSlow", "internal/sync.runtime_canSpin", "internal/sync.runtime_doSpin", "internal/sync.throw", "internal/sync.runtime_nanotime", "internal/sync.runtime_SemacquireMutex", "sync/atomic.AddInt32", "(*internal/sync.Mutex).Unlock", "internal/race.ReleaseMerge", "(*internal/sync.Mutex).unlockSlow", "internal/sync.fatal", "internal/sync.runtime_Semrelease"], unfollowed := true, recurses := true, apart := false }
def BusAllSaid : Prop := busAllRow.holds Try.pinned (OpenSpec.ofChange busAllSpec)

/-- ITS FALSE NEIGHBOUR: 'it returns false'. Refute it at one input. -/
def busAllWrong : ChangeSpec := { name := "busAll", fn := fun _ => fun
  | [d] => { results := [.lit (.bool false)], args := [d] }
  | _ => none }
def BusAllWrongFalsely : Prop := busAllRow.holds Try.pinned (OpenSpec.ofChange busAllWrong)

/-- 'anvillaw03.BusQuiet': WHATEVER THE INPUT: true; the input reads as it did. -/
def busQuietSpec : ChangeSpec := { name := "busQuiet", fn := fun _ => fun
  | [d] => { results := [.lit (.bool true)], args := [d] }
  | _ => none }
def busQuietRow : OpenClaim := { program := "ytkocfcgdjjdnhaa", sum := "40a583390a4c63e4716fb785c5775c4929a223f9498a26aee0e584d31f72a1c2", func := "anvil/anvillaw03.BusQuiet", spec := "busQuiet", inPlace := ["(*internal/sync.Mutex).Lock", "internal/race.Disable", "sync/atomic.CompareAndSwapInt32", "internal/race.Enable", "internal/race.Acquire", "(*internal/sync.Mutex).lockSlow", "internal/sync.runtime_canSpin", "internal/sync.runtime_doSpin", "internal/sync.throw", "internal/sync.runtime_nanotime", "internal/sync.runtime_SemacquireMutex", "sync/atomic.AddInt32", "(*internal/sync.Mutex).Unlock", "internal/race.ReleaseMerge", "(*internal/sync.Mutex).unlockSlow", "internal/sync.fatal", "internal/sync.runtime_Semrelease"], unfollowed := true, recurses := true, apart := false }
def BusQuietSaid : Prop := busQuietRow.holds Try.pinned (OpenSpec.ofChange busQuietSpec)

/-- ITS FALSE NEIGHBOUR: 'it returns false'. Refute it at one input. -/
def busQuietWrong : ChangeSpec := { name := "busQuiet", fn := fun _ => fun
  | [d] => { results := [.lit (.bool false)], args := [d] }
  | _ => none }
def BusQuietWrongFalsely : Prop := busQuietRow.holds Try.pinned (OpenSpec.ofChange busQuietWrong)

/-- 'anvillaw03.BusOff': WHATEVER THE INPUT: true; the input reads as it did. -/
def busOffSpec : ChangeSpec := { name := "busOff", fn := fun _ => fun
  | [d] => { results := [.lit (.bool true)], args := [d] }
  | _ => none }
def busOffRow : OpenClaim := { program := "ytkocfcgdjjdnhaa", sum := "40a583390a4c63e4716fb785c5775c4929a223f9498a26aee0e584d31f72a1c2", func := "anvil/anvillaw03.BusOff", spec := "busOff", inPlace := ["(*internal/sync.Mutex).Lock", "internal/race.Disable", "sync/atomic.CompareAndSwapInt32", "internal/race.Enable", "internal/race.Acquire", "(*internal/sync.Mutex).lockSlow", "internal/sync.runtime_canSpin", "internal/sync.runtime_doSpin", "internal/sync.throw", "internal/sync.runtime_nanotime", "internal/sync.runtime_SemacquireMutex", "sync/atomic.AddInt32", "(*internal/sync.Mutex).Unlock", "internal/race.ReleaseMerge", "(*internal/sync.Mutex).unlockSlow", "internal/sync.fatal", "internal/sync.runtime_Semrelease"], unfollowed := true, recurses := true, apart := false }
def BusOffSaid : Prop := busOffRow.holds Try.pinned (OpenSpec.ofChange busOffSpec)

/-- ITS FALSE NEIGHBOUR: 'it returns false'. Refute it at one input. -/
def busOffWrong : ChangeSpec := { name := "busOff", fn := fun _ => fun
  | [d] => { results := [.lit (.bool false)], args := [d] }
  | _ => none }
def BusOffWrongFalsely : Prop := busOffRow.holds Try.pinned (OpenSpec.ofChange busOffWrong)

/- THE SECOND FORM. 'bulk': how many values and letters a reading holds, each counted each time it is reached (what is shared counts as often as it is met; a slice's spare places count too). A statement '..UptoSaid' is the law's where the arguments, and the package variables that the reading takes, are together of bulk at most 1048576: NARROWER than '..Said'. Prove '..Said' where nothing that the law and all that it calls make is longer than what came in: it says more and counts as full. Else prove '..UptoSaid'. A law counts once. -/
mutual
def uptoBulk {H : Type} : DataW H → Nat
  | .lit (.string bytes) => bytes.length + 1
  | .lit _ => 1
  | .nil => 1
  | .ptr d => uptoBulk d + 1
  | .slice elems spare => uptoBulkAll elems + uptoBulkAll spare + 1
  | .agg parts => uptoBulkAll parts + 1
  | .iface _ d => uptoBulk d + 1
  | .map entries => uptoBulkEntries entries + 1
  | .held _ => 1
def uptoBulkAll {H : Type} : List (DataW H) → Nat
  | [] => 0
  | d :: r => uptoBulk d + uptoBulkAll r
def uptoBulkEntries {H : Type} : List (Lit × DataW H) → Nat
  | [] => 0
  | x :: r => uptoBulkEntry x + uptoBulkEntries r
def uptoBulkEntry {H : Type} : Lit × DataW H → Nat
  | (.string bytes, d) => bytes.length + uptoBulk d + 1
  | (_, d) => uptoBulk d + 1
 end
def uptoSmall : (H : Type) → List (DataW H) → Bool := fun _ ds => decide (uptoBulkAll ds ≤ 1048576)
def OpenSpec.upto (s : _root_.Go.ChangeSpec) : _root_.Go.OpenSpec := { _root_.Go.OpenSpec.ofChange s with cond := some uptoSmall }

/-- 'anvillaw03.BusMakes', WHERE WHAT IT READS IS OF BULK AT MOST 1048576: true; the input reads as it did. -/
def busMakesUptoRow : OpenClaim := { program := "ytkocfcgdjjdnhaa", sum := "40a583390a4c63e4716fb785c5775c4929a223f9498a26aee0e584d31f72a1c2", func := "anvil/anvillaw03.BusMakes", spec := "busMakes", inPlace := ["(*internal/sync.Mutex).Lock", "internal/race.Disable", "sync/atomic.CompareAndSwapInt32", "internal/race.Enable", "internal/race.Acquire", "(*internal/sync.Mutex).lockSlow", "internal/sync.runtime_canSpin", "internal/sync.runtime_doSpin", "internal/sync.throw", "internal/sync.runtime_nanotime", "internal/sync.runtime_SemacquireMutex", "sync/atomic.AddInt32", "(*internal/sync.Mutex).Unlock", "internal/race.ReleaseMerge", "(*internal/sync.Mutex).unlockSlow", "internal/sync.fatal", "internal/sync.runtime_Semrelease"], apart := false, narrowed := true }
def BusMakesUptoSaid : Prop := busMakesUptoRow.holds Try.pinned (OpenSpec.upto busMakesSpec)

/-- 'anvillaw03.BusOwn', WHERE WHAT IT READS IS OF BULK AT MOST 1048576: true; the input reads as it did. -/
def busOwnUptoRow : OpenClaim := { program := "ytkocfcgdjjdnhaa", sum := "40a583390a4c63e4716fb785c5775c4929a223f9498a26aee0e584d31f72a1c2", func := "anvil/anvillaw03.BusOwn", spec := "busOwn", inPlace := ["(*internal/sync.Mutex).Lock", "internal/race.Disable", "sync/atomic.CompareAndSwapInt32", "internal/race.Enable", "internal/race.Acquire", "(*internal/sync.Mutex).lockSlow", "internal/sync.runtime_canSpin", "internal/sync.runtime_doSpin", "internal/sync.throw", "internal/sync.runtime_nanotime", "internal/sync.runtime_SemacquireMutex", "sync/atomic.AddInt32", "(*internal/sync.Mutex).Unlock", "internal/race.ReleaseMerge", "(*internal/sync.Mutex).unlockSlow", "internal/sync.fatal", "internal/sync.runtime_Semrelease"], apart := false, narrowed := true }
def BusOwnUptoSaid : Prop := busOwnUptoRow.holds Try.pinned (OpenSpec.upto busOwnSpec)

/-- 'anvillaw03.BusConsole', WHERE WHAT IT READS IS OF BULK AT MOST 1048576: true; the input reads as it did. -/
def busConsoleUptoRow : OpenClaim := { program := "ytkocfcgdjjdnhaa", sum := "40a583390a4c63e4716fb785c5775c4929a223f9498a26aee0e584d31f72a1c2", func := "anvil/anvillaw03.BusConsole", spec := "busConsole", inPlace := ["(*internal/sync.Mutex).Lock", "internal/race.Disable", "sync/atomic.CompareAndSwapInt32", "internal/race.Enable", "internal/race.Acquire", "(*internal/sync.Mutex).lockSlow", "internal/sync.runtime_canSpin", "internal/sync.runtime_doSpin", "internal/sync.throw", "internal/sync.runtime_nanotime", "internal/sync.runtime_SemacquireMutex", "sync/atomic.AddInt32", "(*internal/sync.Mutex).Unlock", "internal/race.ReleaseMerge", "(*internal/sync.Mutex).unlockSlow", "internal/sync.fatal", "internal/sync.runtime_Semrelease"], unfollowed := true, recurses := true, apart := false, narrowed := true }
def BusConsoleUptoSaid : Prop := busConsoleUptoRow.holds Try.pinned (OpenSpec.upto busConsoleSpec)

/-- 'anvillaw03.BusApart', WHERE WHAT IT READS IS OF BULK AT MOST 1048576: true; the input reads as it did. -/
def busApartUptoRow : OpenClaim := { program := "ytkocfcgdjjdnhaa", sum := "40a583390a4c63e4716fb785c5775c4929a223f9498a26aee0e584d31f72a1c2", func := "anvil/anvillaw03.BusApart", spec := "busApart", inPlace := ["(*internal/sync.Mutex).Lock", "internal/race.Disable", "sync/atomic.CompareAndSwapInt32", "internal/race.Enable", "internal/race.Acquire", "(*internal/sync.Mutex).lockSlow", "internal/sync.runtime_canSpin", "internal/sync.runtime_doSpin", "internal/sync.throw", "internal/sync.runtime_nanotime", "internal/sync.runtime_SemacquireMutex", "sync/atomic.AddInt32", "(*internal/sync.Mutex).Unlock", "internal/race.ReleaseMerge", "(*internal/sync.Mutex).unlockSlow", "internal/sync.fatal", "internal/sync.runtime_Semrelease"], unfollowed := true, recurses := true, apart := false, narrowed := true }
def BusApartUptoSaid : Prop := busApartUptoRow.holds Try.pinned (OpenSpec.upto busApartSpec)

/-- 'anvillaw03.BusMemory', WHERE WHAT IT READS IS OF BULK AT MOST 1048576: true; the input reads as it did. -/
def busMemoryUptoRow : OpenClaim := { program := "ytkocfcgdjjdnhaa", sum := "40a583390a4c63e4716fb785c5775c4929a223f9498a26aee0e584d31f72a1c2", func := "anvil/anvillaw03.BusMemory", spec := "busMemory", inPlace := ["(*internal/sync.Mutex).Lock", "internal/race.Disable", "sync/atomic.CompareAndSwapInt32", "internal/race.Enable", "internal/race.Acquire", "(*internal/sync.Mutex).lockSlow", "internal/sync.runtime_canSpin", "internal/sync.runtime_doSpin", "internal/sync.throw", "internal/sync.runtime_nanotime", "internal/sync.runtime_SemacquireMutex", "sync/atomic.AddInt32", "(*internal/sync.Mutex).Unlock", "internal/race.ReleaseMerge", "(*internal/sync.Mutex).unlockSlow", "internal/sync.fatal", "internal/sync.runtime_Semrelease"], unfollowed := true, recurses := true, apart := false, narrowed := true }
def BusMemoryUptoSaid : Prop := busMemoryUptoRow.holds Try.pinned (OpenSpec.upto busMemorySpec)

/-- 'anvillaw03.BusLoads', WHERE WHAT IT READS IS OF BULK AT MOST 1048576: true; the input reads as it did. -/
def busLoadsUptoRow : OpenClaim := { program := "ytkocfcgdjjdnhaa", sum := "40a583390a4c63e4716fb785c5775c4929a223f9498a26aee0e584d31f72a1c2", func := "anvil/anvillaw03.BusLoads", spec := "busLoads", inPlace := ["(*internal/sync.Mutex).Lock", "internal/race.Disable", "sync/atomic.CompareAndSwapInt32", "internal/race.Enable", "internal/race.Acquire", "(*internal/sync.Mutex).lockSlow", "internal/sync.runtime_canSpin", "internal/sync.runtime_doSpin", "internal/sync.throw", "internal/sync.runtime_nanotime", "internal/sync.runtime_SemacquireMutex", "sync/atomic.AddInt32", "(*internal/sync.Mutex).Unlock", "internal/race.ReleaseMerge", "(*internal/sync.Mutex).unlockSlow", "internal/sync.fatal", "internal/sync.runtime_Semrelease"], unfollowed := true, recurses := true, apart := false, narrowed := true }
def BusLoadsUptoSaid : Prop := busLoadsUptoRow.holds Try.pinned (OpenSpec.upto busLoadsSpec)

/-- 'anvillaw03.BusStores', WHERE WHAT IT READS IS OF BULK AT MOST 1048576: true; the input reads as it did. -/
def busStoresUptoRow : OpenClaim := { program := "ytkocfcgdjjdnhaa", sum := "40a583390a4c63e4716fb785c5775c4929a223f9498a26aee0e584d31f72a1c2", func := "anvil/anvillaw03.BusStores", spec := "busStores", inPlace := ["(*internal/sync.Mutex).Lock", "internal/race.Disable", "sync/atomic.CompareAndSwapInt32", "internal/race.Enable", "internal/race.Acquire", "(*internal/sync.Mutex).lockSlow", "internal/sync.runtime_canSpin", "internal/sync.runtime_doSpin", "internal/sync.throw", "internal/sync.runtime_nanotime", "internal/sync.runtime_SemacquireMutex", "sync/atomic.AddInt32", "(*internal/sync.Mutex).Unlock", "internal/race.ReleaseMerge", "(*internal/sync.Mutex).unlockSlow", "internal/sync.fatal", "internal/sync.runtime_Semrelease"], unfollowed := true, recurses := true, apart := false, narrowed := true }
def BusStoresUptoSaid : Prop := busStoresUptoRow.holds Try.pinned (OpenSpec.upto busStoresSpec)

/-- 'anvillaw03.BusBegins', WHERE WHAT IT READS IS OF BULK AT MOST 1048576: true; the input reads as it did. -/
def busBeginsUptoRow : OpenClaim := { program := "ytkocfcgdjjdnhaa", sum := "40a583390a4c63e4716fb785c5775c4929a223f9498a26aee0e584d31f72a1c2", func := "anvil/anvillaw03.BusBegins", spec := "busBegins", inPlace := ["(*internal/sync.Mutex).Lock", "internal/race.Disable", "sync/atomic.CompareAndSwapInt32", "internal/race.Enable", "internal/race.Acquire", "(*internal/sync.Mutex).lockSlow", "internal/sync.runtime_canSpin", "internal/sync.runtime_doSpin", "internal/sync.throw", "internal/sync.runtime_nanotime", "internal/sync.runtime_SemacquireMutex", "sync/atomic.AddInt32", "(*internal/sync.Mutex).Unlock", "internal/race.ReleaseMerge", "(*internal/sync.Mutex).unlockSlow", "internal/sync.fatal", "internal/sync.runtime_Semrelease"], unfollowed := true, recurses := true, apart := false, narrowed := true }
def BusBeginsUptoSaid : Prop := busBeginsUptoRow.holds Try.pinned (OpenSpec.upto busBeginsSpec)

/-- 'anvillaw03.BusThere', WHERE WHAT IT READS IS OF BULK AT MOST 1048576: true; the input reads as it did. -/
def busThereUptoRow : OpenClaim := { program := "ytkocfcgdjjdnhaa", sum := "40a583390a4c63e4716fb785c5775c4929a223f9498a26aee0e584d31f72a1c2", func := "anvil/anvillaw03.BusThere", spec := "busThere", inPlace := ["(*internal/sync.Mutex).Lock", "internal/race.Disable", "sync/atomic.CompareAndSwapInt32", "internal/race.Enable", "internal/race.Acquire", "(*internal/sync.Mutex).lockSlow", "internal/sync.runtime_canSpin", "internal/sync.runtime_doSpin", "internal/sync.throw", "internal/sync.runtime_nanotime", "internal/sync.runtime_SemacquireMutex", "sync/atomic.AddInt32", "(*internal/sync.Mutex).Unlock", "internal/race.ReleaseMerge", "(*internal/sync.Mutex).unlockSlow", "internal/sync.fatal", "internal/sync.runtime_Semrelease"], unfollowed := true, recurses := true, apart := false, narrowed := true }
def BusThereUptoSaid : Prop := busThereUptoRow.holds Try.pinned (OpenSpec.upto busThereSpec)

/-- 'anvillaw03.BusPeeks', WHERE WHAT IT READS IS OF BULK AT MOST 1048576: true; the input reads as it did. -/
def busPeeksUptoRow : OpenClaim := { program := "ytkocfcgdjjdnhaa", sum := "40a583390a4c63e4716fb785c5775c4929a223f9498a26aee0e584d31f72a1c2", func := "anvil/anvillaw03.BusPeeks", spec := "busPeeks", inPlace := ["(*internal/sync.Mutex).Lock", "internal/race.Disable", "sync/atomic.CompareAndSwapInt32", "internal/race.Enable", "internal/race.Acquire", "(*internal/sync.Mutex).lockSlow", "internal/sync.runtime_canSpin", "internal/sync.runtime_doSpin", "internal/sync.throw", "internal/sync.runtime_nanotime", "internal/sync.runtime_SemacquireMutex", "sync/atomic.AddInt32", "(*internal/sync.Mutex).Unlock", "internal/race.ReleaseMerge", "(*internal/sync.Mutex).unlockSlow", "internal/sync.fatal", "internal/sync.runtime_Semrelease"], unfollowed := true, recurses := true, apart := false, narrowed := true }
def BusPeeksUptoSaid : Prop := busPeeksUptoRow.holds Try.pinned (OpenSpec.upto busPeeksSpec)

/-- 'anvillaw03.BusTells', WHERE WHAT IT READS IS OF BULK AT MOST 1048576: true; the input reads as it did. -/
def busTellsUptoRow : OpenClaim := { program := "ytkocfcgdjjdnhaa", sum := "40a583390a4c63e4716fb785c5775c4929a223f9498a26aee0e584d31f72a1c2", func := "anvil/anvillaw03.BusTells", spec := "busTells", inPlace := ["(*internal/sync.Mutex).Lock", "internal/race.Disable", "sync/atomic.CompareAndSwapInt32", "internal/race.Enable", "internal/race.Acquire", "(*internal/sync.Mutex).lockSlow", "internal/sync.runtime_canSpin", "internal/sync.runtime_doSpin", "internal/sync.throw", "internal/sync.runtime_nanotime", "internal/sync.runtime_SemacquireMutex", "sync/atomic.AddInt32", "(*internal/sync.Mutex).Unlock", "internal/race.ReleaseMerge", "(*internal/sync.Mutex).unlockSlow", "internal/sync.fatal", "internal/sync.runtime_Semrelease"], unfollowed := true, recurses := true, apart := false, narrowed := true }
def BusTellsUptoSaid : Prop := busTellsUptoRow.holds Try.pinned (OpenSpec.upto busTellsSpec)

/-- 'anvillaw03.BusAll', WHERE WHAT IT READS IS OF BULK AT MOST 1048576: true; the input reads as it did. -/
def busAllUptoRow : OpenClaim := { program := "ytkocfcgdjjdnhaa", sum := "40a583390a4c63e4716fb785c5775c4929a223f9498a26aee0e584d31f72a1c2", func := "anvil/anvillaw03.BusAll", spec := "busAll", inPlace := ["(*internal/sync.Mutex).Lock", "internal/race.Disable", "sync/atomic.CompareAndSwapInt32", "internal/race.Enable", "internal/race.Acquire", "(*internal/sync.Mutex).lockSlow", "internal/sync.runtime_canSpin", "internal/sync.runtime_doSpin", "internal/sync.throw", "internal/sync.runtime_nanotime", "internal/sync.runtime_SemacquireMutex", "sync/atomic.AddInt32", "(*internal/sync.Mutex).Unlock", "internal/race.ReleaseMerge", "(*internal/sync.Mutex).unlockSlow", "internal/sync.fatal", "internal/sync.runtime_Semrelease"], unfollowed := true, recurses := true, apart := false, narrowed := true }
def BusAllUptoSaid : Prop := busAllUptoRow.holds Try.pinned (OpenSpec.upto busAllSpec)

/-- 'anvillaw03.BusQuiet', WHERE WHAT IT READS IS OF BULK AT MOST 1048576: true; the input reads as it did. -/
def busQuietUptoRow : OpenClaim := { program := "ytkocfcgdjjdnhaa", sum := "40a583390a4c63e4716fb785c5775c4929a223f9498a26aee0e584d31f72a1c2", func := "anvil/anvillaw03.BusQuiet", spec := "busQuiet", inPlace := ["(*internal/sync.Mutex).Lock", "internal/race.Disable", "sync/atomic.CompareAndSwapInt32", "internal/race.Enable", "internal/race.Acquire", "(*internal/sync.Mutex).lockSlow", "internal/sync.runtime_canSpin", "internal/sync.runtime_doSpin", "internal/sync.throw", "internal/sync.runtime_nanotime", "internal/sync.runtime_SemacquireMutex", "sync/atomic.AddInt32", "(*internal/sync.Mutex).Unlock", "internal/race.ReleaseMerge", "(*internal/sync.Mutex).unlockSlow", "internal/sync.fatal", "internal/sync.runtime_Semrelease"], unfollowed := true, recurses := true, apart := false, narrowed := true }
def BusQuietUptoSaid : Prop := busQuietUptoRow.holds Try.pinned (OpenSpec.upto busQuietSpec)

/-- 'anvillaw03.BusOff', WHERE WHAT IT READS IS OF BULK AT MOST 1048576: true; the input reads as it did. -/
def busOffUptoRow : OpenClaim := { program := "ytkocfcgdjjdnhaa", sum := "40a583390a4c63e4716fb785c5775c4929a223f9498a26aee0e584d31f72a1c2", func := "anvil/anvillaw03.BusOff", spec := "busOff", inPlace := ["(*internal/sync.Mutex).Lock", "internal/race.Disable", "sync/atomic.CompareAndSwapInt32", "internal/race.Enable", "internal/race.Acquire", "(*internal/sync.Mutex).lockSlow", "internal/sync.runtime_canSpin", "internal/sync.runtime_doSpin", "internal/sync.throw", "internal/sync.runtime_nanotime", "internal/sync.runtime_SemacquireMutex", "sync/atomic.AddInt32", "(*internal/sync.Mutex).Unlock", "internal/race.ReleaseMerge", "(*internal/sync.Mutex).unlockSlow", "internal/sync.fatal", "internal/sync.runtime_Semrelease"], unfollowed := true, recurses := true, apart := false, narrowed := true }
def BusOffUptoSaid : Prop := busOffUptoRow.holds Try.pinned (OpenSpec.upto busOffSpec)

end Rows
end Go.Proofs.Ytkocfcgdjjdnhaa
