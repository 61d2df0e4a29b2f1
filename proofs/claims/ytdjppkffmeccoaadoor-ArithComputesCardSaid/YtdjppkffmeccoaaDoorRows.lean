/-
  NARROWER THAN 'FOR EVERY INPUT', by the rows' own cells (each row's printed sentence says how): ArithComputes: laid · ArithWhole: laid · ArithDivides: laid · ArithHalves: laid · ArithShifts: laid · ArithRing: laid · ArithImmediates: laid · ArithAtomics: laid · ArithKnows: laid · ArithOrders: laid.
  DERIVED. THE GIVEN ROWS OF THIS SEAT. 10 by the template 'for every input the law returns true; each argument reads behind the call as it read before'; 0 by the template 'total and deterministic' (their statements: YtdjppkffmeccoaaDoorTotals.lean).
  GIVEN WITH THE SEED: the statements are not yours to turn. If you find one false, say at which input.
  Laid BY PROGRAM, IN A SANDBOX (cutbox-rows.mjs): the forced cells as the released guide's own fill.sh prints them over the translation 9c195ed4fb66d6c6… (all of the seat's roots in one cut). By AI agents, Wed Nov 11 2026. No macro, syntax, notation, axiom, sorry.
-/
import Derived.Test.YtdjppkffmeccoaaDoorChecked
import GoSem.Claim
import GoSem.ClaimJoined
import GoSem.ClaimMapViews
import Derived.JoinedTies
import Derived.KernelRfl
namespace Go.Proofs.YtdjppkffmeccoaaDoor
/- THE CELL 'sum', in the pinned program and in every row, IS THE sha256 OF THE DUMP (.gsa) THAT YtdjppkffmeccoaaDoorProg.lean LOADS. Nothing in Lean hashes anything: it is a label: what it is worth is what the hold of that sum in a sandbox is worth. -/
noncomputable def Tryd.pinned : Pinned := { name := "ytdjppkffmeccoaadoor", sum := "9c195ed4fb66d6c69154d1f60aceb0efbbd1483ccf345f67ecd5ed5f9fdf0491", checked := Tryd.checked }
namespace Rows
def none {H : Type} : Left H := { results := [], args := [] }

/- WHAT THE LISTED PACKAGE-LEVEL VARIABLES READ AS WHEN THE CALL BEGINS. Each datum BY PROGRAM (the guide's laid-datum.mjs) off the statement by which the dump's own 'gosem.cut.vars' lays the variable. In a bare row this is a premise. The card (YtdjppkffmeccoaaDoorCards.lean) ties it to the program's text. -/
def laid_anvil_arith_plain {H : Type} : DataW H := .agg [.lit (.int .i64 0), .lit (.int .i64 0), .lit (.int .i64 0), .lit (.int .i64 0), .lit (.int .i64 0), .lit (.int .i64 0), .lit (.int .i64 0), .lit (.int .i64 0), .lit (.int .i64 0), .lit (.int .i64 0), .lit (.int .i64 0), .lit (.int .i64 0), .lit (.int .i64 0), .lit (.int .i64 0), .lit (.int .i64 0), .lit (.int .i64 0), .lit (.int .i64 0), .lit (.int .i64 0), .lit (.int .i64 0), .lit (.int .i64 0), .lit (.int .i64 0), .lit (.int .i64 0), .lit (.int .i64 35), .lit (.int .i64 38), .lit (.int .i64 39), .lit (.int .i64 40), .lit (.int .i64 43), .lit (.int .i64 44), .lit (.int .i64 37), .lit (.int .i64 41), .lit (.int .i64 42), .lit (.int .i64 45), .lit (.int .i64 47), .lit (.int .i64 48), .lit (.int .i64 49), .lit (.int .i64 0), .lit (.int .i64 0), .lit (.int .i64 0), .lit (.int .i64 0), .lit (.int .i64 0), .lit (.int .i64 0), .lit (.int .i64 0), .lit (.int .i64 0), .lit (.int .i64 0), .lit (.int .i64 0), .lit (.int .i64 0), .lit (.int .i64 0), .lit (.int .i64 0), .lit (.int .i64 0), .lit (.int .i64 0), .lit (.int .i64 0), .lit (.int .i64 0), .lit (.int .i64 0), .lit (.int .i64 0), .lit (.int .i64 0), .lit (.int .i64 0), .lit (.int .i64 0), .lit (.int .i64 0), .lit (.int .i64 0), .lit (.int .i64 0), .lit (.int .i64 0), .lit (.int .i64 0), .lit (.int .i64 0), .lit (.int .i64 0), .lit (.int .i64 0), .lit (.int .i64 0), .lit (.int .i64 0), .lit (.int .i64 0), .lit (.int .i64 0), .lit (.int .i64 0), .lit (.int .i64 0), .lit (.int .i64 0), .lit (.int .i64 0), .lit (.int .i64 0), .lit (.int .i64 0), .lit (.int .i64 0), .lit (.int .i64 0), .lit (.int .i64 0), .lit (.int .i64 0), .lit (.int .i64 0), .lit (.int .i64 0), .lit (.int .i64 0), .lit (.int .i64 0), .lit (.int .i64 0), .lit (.int .i64 0), .lit (.int .i64 0), .lit (.int .i64 0), .lit (.int .i64 0), .lit (.int .i64 0), .lit (.int .i64 0), .lit (.int .i64 0), .lit (.int .i64 0), .lit (.int .i64 0), .lit (.int .i64 0), .lit (.int .i64 0), .lit (.int .i64 0), .lit (.int .i64 0)]

/-- 'anvillaw01.ArithComputes': WHATEVER THE INPUT: true; the input reads as it did. -/
def arithComputesSpec : ChangeSpec := { name := "arithComputes", fn := fun _ => fun
  | [d] => { results := [.lit (.bool true)], args := [d] }
  | _ => none }
def arithComputesRow : OpenClaim := { program := "ytdjppkffmeccoaadoor", sum := "9c195ed4fb66d6c69154d1f60aceb0efbbd1483ccf345f67ecd5ed5f9fdf0491", func := "anvil/anvillaw01.ArithComputes", spec := "arithComputes", unfollowed := true, recurses := true, named := ["anvil/arith.plain"], apart := false, laid := [("anvil/arith.plain", laid_anvil_arith_plain)] }
def ArithComputesSaid : Prop := arithComputesRow.holds Tryd.pinned (OpenSpec.ofChange arithComputesSpec)

/-- ITS FALSE NEIGHBOUR: 'it returns false'. Refute it at one input. -/
def arithComputesWrong : ChangeSpec := { name := "arithComputes", fn := fun _ => fun
  | [d] => { results := [.lit (.bool false)], args := [d] }
  | _ => none }
def ArithComputesWrongFalsely : Prop := arithComputesRow.holds Tryd.pinned (OpenSpec.ofChange arithComputesWrong)

/-- 'anvillaw01.ArithWhole': WHATEVER THE INPUT: true; the input reads as it did. -/
def arithWholeSpec : ChangeSpec := { name := "arithWhole", fn := fun _ => fun
  | [d] => { results := [.lit (.bool true)], args := [d] }
  | _ => none }
def arithWholeRow : OpenClaim := { program := "ytdjppkffmeccoaadoor", sum := "9c195ed4fb66d6c69154d1f60aceb0efbbd1483ccf345f67ecd5ed5f9fdf0491", func := "anvil/anvillaw01.ArithWhole", spec := "arithWhole", unfollowed := true, recurses := true, named := ["anvil/arith.plain"], apart := false, laid := [("anvil/arith.plain", laid_anvil_arith_plain)] }
def ArithWholeSaid : Prop := arithWholeRow.holds Tryd.pinned (OpenSpec.ofChange arithWholeSpec)

/-- ITS FALSE NEIGHBOUR: 'it returns false'. Refute it at one input. -/
def arithWholeWrong : ChangeSpec := { name := "arithWhole", fn := fun _ => fun
  | [d] => { results := [.lit (.bool false)], args := [d] }
  | _ => none }
def ArithWholeWrongFalsely : Prop := arithWholeRow.holds Tryd.pinned (OpenSpec.ofChange arithWholeWrong)

/-- 'anvillaw01.ArithDivides': WHATEVER THE INPUT: true; the input reads as it did. -/
def arithDividesSpec : ChangeSpec := { name := "arithDivides", fn := fun _ => fun
  | [d] => { results := [.lit (.bool true)], args := [d] }
  | _ => none }
def arithDividesRow : OpenClaim := { program := "ytdjppkffmeccoaadoor", sum := "9c195ed4fb66d6c69154d1f60aceb0efbbd1483ccf345f67ecd5ed5f9fdf0491", func := "anvil/anvillaw01.ArithDivides", spec := "arithDivides", unfollowed := true, recurses := true, named := ["anvil/arith.plain"], apart := false, laid := [("anvil/arith.plain", laid_anvil_arith_plain)] }
def ArithDividesSaid : Prop := arithDividesRow.holds Tryd.pinned (OpenSpec.ofChange arithDividesSpec)

/-- ITS FALSE NEIGHBOUR: 'it returns false'. Refute it at one input. -/
def arithDividesWrong : ChangeSpec := { name := "arithDivides", fn := fun _ => fun
  | [d] => { results := [.lit (.bool false)], args := [d] }
  | _ => none }
def ArithDividesWrongFalsely : Prop := arithDividesRow.holds Tryd.pinned (OpenSpec.ofChange arithDividesWrong)

/-- 'anvillaw01.ArithHalves': WHATEVER THE INPUT: true; the input reads as it did. -/
def arithHalvesSpec : ChangeSpec := { name := "arithHalves", fn := fun _ => fun
  | [d] => { results := [.lit (.bool true)], args := [d] }
  | _ => none }
def arithHalvesRow : OpenClaim := { program := "ytdjppkffmeccoaadoor", sum := "9c195ed4fb66d6c69154d1f60aceb0efbbd1483ccf345f67ecd5ed5f9fdf0491", func := "anvil/anvillaw01.ArithHalves", spec := "arithHalves", unfollowed := true, recurses := true, named := ["anvil/arith.plain"], apart := false, laid := [("anvil/arith.plain", laid_anvil_arith_plain)] }
def ArithHalvesSaid : Prop := arithHalvesRow.holds Tryd.pinned (OpenSpec.ofChange arithHalvesSpec)

/-- ITS FALSE NEIGHBOUR: 'it returns false'. Refute it at one input. -/
def arithHalvesWrong : ChangeSpec := { name := "arithHalves", fn := fun _ => fun
  | [d] => { results := [.lit (.bool false)], args := [d] }
  | _ => none }
def ArithHalvesWrongFalsely : Prop := arithHalvesRow.holds Tryd.pinned (OpenSpec.ofChange arithHalvesWrong)

/-- 'anvillaw01.ArithShifts': WHATEVER THE INPUT: true; the input reads as it did. -/
def arithShiftsSpec : ChangeSpec := { name := "arithShifts", fn := fun _ => fun
  | [d] => { results := [.lit (.bool true)], args := [d] }
  | _ => none }
def arithShiftsRow : OpenClaim := { program := "ytdjppkffmeccoaadoor", sum := "9c195ed4fb66d6c69154d1f60aceb0efbbd1483ccf345f67ecd5ed5f9fdf0491", func := "anvil/anvillaw01.ArithShifts", spec := "arithShifts", unfollowed := true, recurses := true, named := ["anvil/arith.plain"], apart := false, laid := [("anvil/arith.plain", laid_anvil_arith_plain)] }
def ArithShiftsSaid : Prop := arithShiftsRow.holds Tryd.pinned (OpenSpec.ofChange arithShiftsSpec)

/-- ITS FALSE NEIGHBOUR: 'it returns false'. Refute it at one input. -/
def arithShiftsWrong : ChangeSpec := { name := "arithShifts", fn := fun _ => fun
  | [d] => { results := [.lit (.bool false)], args := [d] }
  | _ => none }
def ArithShiftsWrongFalsely : Prop := arithShiftsRow.holds Tryd.pinned (OpenSpec.ofChange arithShiftsWrong)

/-- 'anvillaw01.ArithRing': WHATEVER THE INPUT: true; the input reads as it did. -/
def arithRingSpec : ChangeSpec := { name := "arithRing", fn := fun _ => fun
  | [d] => { results := [.lit (.bool true)], args := [d] }
  | _ => none }
def arithRingRow : OpenClaim := { program := "ytdjppkffmeccoaadoor", sum := "9c195ed4fb66d6c69154d1f60aceb0efbbd1483ccf345f67ecd5ed5f9fdf0491", func := "anvil/anvillaw01.ArithRing", spec := "arithRing", unfollowed := true, recurses := true, named := ["anvil/arith.plain"], apart := false, laid := [("anvil/arith.plain", laid_anvil_arith_plain)] }
def ArithRingSaid : Prop := arithRingRow.holds Tryd.pinned (OpenSpec.ofChange arithRingSpec)

/-- ITS FALSE NEIGHBOUR: 'it returns false'. Refute it at one input. -/
def arithRingWrong : ChangeSpec := { name := "arithRing", fn := fun _ => fun
  | [d] => { results := [.lit (.bool false)], args := [d] }
  | _ => none }
def ArithRingWrongFalsely : Prop := arithRingRow.holds Tryd.pinned (OpenSpec.ofChange arithRingWrong)

/-- 'anvillaw01.ArithImmediates': WHATEVER THE INPUT: true; the input reads as it did. -/
def arithImmediatesSpec : ChangeSpec := { name := "arithImmediates", fn := fun _ => fun
  | [d] => { results := [.lit (.bool true)], args := [d] }
  | _ => none }
def arithImmediatesRow : OpenClaim := { program := "ytdjppkffmeccoaadoor", sum := "9c195ed4fb66d6c69154d1f60aceb0efbbd1483ccf345f67ecd5ed5f9fdf0491", func := "anvil/anvillaw01.ArithImmediates", spec := "arithImmediates", unfollowed := true, recurses := true, named := ["anvil/arith.plain"], apart := false, laid := [("anvil/arith.plain", laid_anvil_arith_plain)] }
def ArithImmediatesSaid : Prop := arithImmediatesRow.holds Tryd.pinned (OpenSpec.ofChange arithImmediatesSpec)

/-- ITS FALSE NEIGHBOUR: 'it returns false'. Refute it at one input. -/
def arithImmediatesWrong : ChangeSpec := { name := "arithImmediates", fn := fun _ => fun
  | [d] => { results := [.lit (.bool false)], args := [d] }
  | _ => none }
def ArithImmediatesWrongFalsely : Prop := arithImmediatesRow.holds Tryd.pinned (OpenSpec.ofChange arithImmediatesWrong)

/-- 'anvillaw01.ArithAtomics': WHATEVER THE INPUT: true; the input reads as it did. -/
def arithAtomicsSpec : ChangeSpec := { name := "arithAtomics", fn := fun _ => fun
  | [d] => { results := [.lit (.bool true)], args := [d] }
  | _ => none }
def arithAtomicsRow : OpenClaim := { program := "ytdjppkffmeccoaadoor", sum := "9c195ed4fb66d6c69154d1f60aceb0efbbd1483ccf345f67ecd5ed5f9fdf0491", func := "anvil/anvillaw01.ArithAtomics", spec := "arithAtomics", unfollowed := true, recurses := true, named := ["anvil/arith.plain"], apart := false, laid := [("anvil/arith.plain", laid_anvil_arith_plain)] }
def ArithAtomicsSaid : Prop := arithAtomicsRow.holds Tryd.pinned (OpenSpec.ofChange arithAtomicsSpec)

/-- ITS FALSE NEIGHBOUR: 'it returns false'. Refute it at one input. -/
def arithAtomicsWrong : ChangeSpec := { name := "arithAtomics", fn := fun _ => fun
  | [d] => { results := [.lit (.bool false)], args := [d] }
  | _ => none }
def ArithAtomicsWrongFalsely : Prop := arithAtomicsRow.holds Tryd.pinned (OpenSpec.ofChange arithAtomicsWrong)

/-- 'anvillaw01.ArithKnows': WHATEVER THE INPUT: true; the input reads as it did. -/
def arithKnowsSpec : ChangeSpec := { name := "arithKnows", fn := fun _ => fun
  | [d] => { results := [.lit (.bool true)], args := [d] }
  | _ => none }
def arithKnowsRow : OpenClaim := { program := "ytdjppkffmeccoaadoor", sum := "9c195ed4fb66d6c69154d1f60aceb0efbbd1483ccf345f67ecd5ed5f9fdf0491", func := "anvil/anvillaw01.ArithKnows", spec := "arithKnows", unfollowed := true, recurses := true, named := ["anvil/arith.plain"], apart := false, laid := [("anvil/arith.plain", laid_anvil_arith_plain)] }
def ArithKnowsSaid : Prop := arithKnowsRow.holds Tryd.pinned (OpenSpec.ofChange arithKnowsSpec)

/-- ITS FALSE NEIGHBOUR: 'it returns false'. Refute it at one input. -/
def arithKnowsWrong : ChangeSpec := { name := "arithKnows", fn := fun _ => fun
  | [d] => { results := [.lit (.bool false)], args := [d] }
  | _ => none }
def ArithKnowsWrongFalsely : Prop := arithKnowsRow.holds Tryd.pinned (OpenSpec.ofChange arithKnowsWrong)

/-- 'anvillaw01.ArithOrders': WHATEVER THE INPUT: true; the input reads as it did. -/
def arithOrdersSpec : ChangeSpec := { name := "arithOrders", fn := fun _ => fun
  | [d] => { results := [.lit (.bool true)], args := [d] }
  | _ => none }
def arithOrdersRow : OpenClaim := { program := "ytdjppkffmeccoaadoor", sum := "9c195ed4fb66d6c69154d1f60aceb0efbbd1483ccf345f67ecd5ed5f9fdf0491", func := "anvil/anvillaw01.ArithOrders", spec := "arithOrders", unfollowed := true, recurses := true, named := ["anvil/arith.plain"], apart := false, laid := [("anvil/arith.plain", laid_anvil_arith_plain)] }
def ArithOrdersSaid : Prop := arithOrdersRow.holds Tryd.pinned (OpenSpec.ofChange arithOrdersSpec)

/-- ITS FALSE NEIGHBOUR: 'it returns false'. Refute it at one input. -/
def arithOrdersWrong : ChangeSpec := { name := "arithOrders", fn := fun _ => fun
  | [d] => { results := [.lit (.bool false)], args := [d] }
  | _ => none }
def ArithOrdersWrongFalsely : Prop := arithOrdersRow.holds Tryd.pinned (OpenSpec.ofChange arithOrdersWrong)

/- THE SECOND FORM. 'bulk': how many values and letters a reading holds, each counted each time it is reached (what is shared counts as often as it is met; a slice's spare places count too). A statement '..UptoSaid' is the law's where the arguments, and the package variables that the reading takes, are together of bulk at most 1048576: NARROWER than '..Said'. Prove '..Said' where nothing that the law and all that it calls make is longer than what came in: it says more and counts as full. Else prove '..UptoSaid'. A law counts once. -/
mutual
def uptoBulk {H : Type} : DataW H → Nat
  | .lit (.string bytes) => bytes.length + 1
  | .lit _ => 1
  | .nil => 1
  | .ptr d => uptoBulk d + 1
  | .slice elems spare => uptoBulkAll elems + uptoBulkAll spare + 1
  | .agg parts => uptoBulkAll parts + 1
  | .iface _ d => uptoBulk d + 1
  | .map entries => uptoBulkEntries entries + 1
  | .held _ => 1
def uptoBulkAll {H : Type} : List (DataW H) → Nat
  | [] => 0
  | d :: r => uptoBulk d + uptoBulkAll r
def uptoBulkEntries {H : Type} : List (Lit × DataW H) → Nat
  | [] => 0
  | x :: r => uptoBulkEntry x + uptoBulkEntries r
def uptoBulkEntry {H : Type} : Lit × DataW H → Nat
  | (.string bytes, d) => bytes.length + uptoBulk d + 1
  | (_, d) => uptoBulk d + 1
 end
def uptoSmall : (H : Type) → List (DataW H) → Bool := fun _ ds => decide (uptoBulkAll ds ≤ 1048576)
def OpenSpec.upto (s : _root_.Go.ChangeSpec) : _root_.Go.OpenSpec := { _root_.Go.OpenSpec.ofChange s with cond := some uptoSmall }

/-- 'anvillaw01.ArithComputes', WHERE WHAT IT READS IS OF BULK AT MOST 1048576: true; the input reads as it did. -/
def arithComputesUptoRow : OpenClaim := { program := "ytdjppkffmeccoaadoor", sum := "9c195ed4fb66d6c69154d1f60aceb0efbbd1483ccf345f67ecd5ed5f9fdf0491", func := "anvil/anvillaw01.ArithComputes", spec := "arithComputes", unfollowed := true, recurses := true, named := ["anvil/arith.plain"], apart := false, laid := [("anvil/arith.plain", laid_anvil_arith_plain)], narrowed := true }
def ArithComputesUptoSaid : Prop := arithComputesUptoRow.holds Tryd.pinned (OpenSpec.upto arithComputesSpec)

/-- 'anvillaw01.ArithWhole', WHERE WHAT IT READS IS OF BULK AT MOST 1048576: true; the input reads as it did. -/
def arithWholeUptoRow : OpenClaim := { program := "ytdjppkffmeccoaadoor", sum := "9c195ed4fb66d6c69154d1f60aceb0efbbd1483ccf345f67ecd5ed5f9fdf0491", func := "anvil/anvillaw01.ArithWhole", spec := "arithWhole", unfollowed := true, recurses := true, named := ["anvil/arith.plain"], apart := false, laid := [("anvil/arith.plain", laid_anvil_arith_plain)], narrowed := true }
def ArithWholeUptoSaid : Prop := arithWholeUptoRow.holds Tryd.pinned (OpenSpec.upto arithWholeSpec)

/-- 'anvillaw01.ArithDivides', WHERE WHAT IT READS IS OF BULK AT MOST 1048576: true; the input reads as it did. -/
def arithDividesUptoRow : OpenClaim := { program := "ytdjppkffmeccoaadoor", sum := "9c195ed4fb66d6c69154d1f60aceb0efbbd1483ccf345f67ecd5ed5f9fdf0491", func := "anvil/anvillaw01.ArithDivides", spec := "arithDivides", unfollowed := true, recurses := true, named := ["anvil/arith.plain"], apart := false, laid := [("anvil/arith.plain", laid_anvil_arith_plain)], narrowed := true }
def ArithDividesUptoSaid : Prop := arithDividesUptoRow.holds Tryd.pinned (OpenSpec.upto arithDividesSpec)

/-- 'anvillaw01.ArithHalves', WHERE WHAT IT READS IS OF BULK AT MOST 1048576: true; the input reads as it did. -/
def arithHalvesUptoRow : OpenClaim := { program := "ytdjppkffmeccoaadoor", sum := "9c195ed4fb66d6c69154d1f60aceb0efbbd1483ccf345f67ecd5ed5f9fdf0491", func := "anvil/anvillaw01.ArithHalves", spec := "arithHalves", unfollowed := true, recurses := true, named := ["anvil/arith.plain"], apart := false, laid := [("anvil/arith.plain", laid_anvil_arith_plain)], narrowed := true }
def ArithHalvesUptoSaid : Prop := arithHalvesUptoRow.holds Tryd.pinned (OpenSpec.upto arithHalvesSpec)

/-- 'anvillaw01.ArithShifts', WHERE WHAT IT READS IS OF BULK AT MOST 1048576: true; the input reads as it did. -/
def arithShiftsUptoRow : OpenClaim := { program := "ytdjppkffmeccoaadoor", sum := "9c195ed4fb66d6c69154d1f60aceb0efbbd1483ccf345f67ecd5ed5f9fdf0491", func := "anvil/anvillaw01.ArithShifts", spec := "arithShifts", unfollowed := true, recurses := true, named := ["anvil/arith.plain"], apart := false, laid := [("anvil/arith.plain", laid_anvil_arith_plain)], narrowed := true }
def ArithShiftsUptoSaid : Prop := arithShiftsUptoRow.holds Tryd.pinned (OpenSpec.upto arithShiftsSpec)

/-- 'anvillaw01.ArithRing', WHERE WHAT IT READS IS OF BULK AT MOST 1048576: true; the input reads as it did. -/
def arithRingUptoRow : OpenClaim := { program := "ytdjppkffmeccoaadoor", sum := "9c195ed4fb66d6c69154d1f60aceb0efbbd1483ccf345f67ecd5ed5f9fdf0491", func := "anvil/anvillaw01.ArithRing", spec := "arithRing", unfollowed := true, recurses := true, named := ["anvil/arith.plain"], apart := false, laid := [("anvil/arith.plain", laid_anvil_arith_plain)], narrowed := true }
def ArithRingUptoSaid : Prop := arithRingUptoRow.holds Tryd.pinned (OpenSpec.upto arithRingSpec)

/-- 'anvillaw01.ArithImmediates', WHERE WHAT IT READS IS OF BULK AT MOST 1048576: true; the input reads as it did. -/
def arithImmediatesUptoRow : OpenClaim := { program := "ytdjppkffmeccoaadoor", sum := "9c195ed4fb66d6c69154d1f60aceb0efbbd1483ccf345f67ecd5ed5f9fdf0491", func := "anvil/anvillaw01.ArithImmediates", spec := "arithImmediates", unfollowed := true, recurses := true, named := ["anvil/arith.plain"], apart := false, laid := [("anvil/arith.plain", laid_anvil_arith_plain)], narrowed := true }
def ArithImmediatesUptoSaid : Prop := arithImmediatesUptoRow.holds Tryd.pinned (OpenSpec.upto arithImmediatesSpec)

/-- 'anvillaw01.ArithAtomics', WHERE WHAT IT READS IS OF BULK AT MOST 1048576: true; the input reads as it did. -/
def arithAtomicsUptoRow : OpenClaim := { program := "ytdjppkffmeccoaadoor", sum := "9c195ed4fb66d6c69154d1f60aceb0efbbd1483ccf345f67ecd5ed5f9fdf0491", func := "anvil/anvillaw01.ArithAtomics", spec := "arithAtomics", unfollowed := true, recurses := true, named := ["anvil/arith.plain"], apart := false, laid := [("anvil/arith.plain", laid_anvil_arith_plain)], narrowed := true }
def ArithAtomicsUptoSaid : Prop := arithAtomicsUptoRow.holds Tryd.pinned (OpenSpec.upto arithAtomicsSpec)

/-- 'anvillaw01.ArithKnows', WHERE WHAT IT READS IS OF BULK AT MOST 1048576: true; the input reads as it did. -/
def arithKnowsUptoRow : OpenClaim := { program := "ytdjppkffmeccoaadoor", sum := "9c195ed4fb66d6c69154d1f60aceb0efbbd1483ccf345f67ecd5ed5f9fdf0491", func := "anvil/anvillaw01.ArithKnows", spec := "arithKnows", unfollowed := true, recurses := true, named := ["anvil/arith.plain"], apart := false, laid := [("anvil/arith.plain", laid_anvil_arith_plain)], narrowed := true }
def ArithKnowsUptoSaid : Prop := arithKnowsUptoRow.holds Tryd.pinned (OpenSpec.upto arithKnowsSpec)

/-- 'anvillaw01.ArithOrders', WHERE WHAT IT READS IS OF BULK AT MOST 1048576: true; the input reads as it did. -/
def arithOrdersUptoRow : OpenClaim := { program := "ytdjppkffmeccoaadoor", sum := "9c195ed4fb66d6c69154d1f60aceb0efbbd1483ccf345f67ecd5ed5f9fdf0491", func := "anvil/anvillaw01.ArithOrders", spec := "arithOrders", unfollowed := true, recurses := true, named := ["anvil/arith.plain"], apart := false, laid := [("anvil/arith.plain", laid_anvil_arith_plain)], narrowed := true }
def ArithOrdersUptoSaid : Prop := arithOrdersUptoRow.holds Tryd.pinned (OpenSpec.upto arithOrdersSpec)

end Rows
end Go.Proofs.YtdjppkffmeccoaaDoor
