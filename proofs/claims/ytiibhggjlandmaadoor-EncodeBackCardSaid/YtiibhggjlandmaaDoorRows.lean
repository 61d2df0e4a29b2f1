/-
  NARROWER THAN 'FOR EVERY INPUT', by the rows' own cells (each row's printed sentence says how): EncodeChecks: laid · EncodeWords: laid · EncodeThere: laid · EncodeBack: laid · EncodeLeast: laid · EncodeApart: laid · EncodeCuts: laid.
  DERIVED. THE GIVEN ROWS OF THIS SEAT. 7 by the template 'for every input the law returns true; each argument reads behind the call as it read before'; 0 by the template 'total and deterministic' (their statements: YtiibhggjlandmaaDoorTotals.lean).
  GIVEN WITH THE SEED: the statements are not yours to turn. If you find one false, say at which input.
  Laid BY PROGRAM, IN A SANDBOX (cutbox-rows.mjs): the forced cells as the released guide's own fill.sh prints them over the translation 5c36f95f3b4b296e… (all of the seat's roots in one cut). By AI agents, Wed Nov 11 2026. No macro, syntax, notation, axiom, sorry.
-/
import Derived.Test.YtiibhggjlandmaaDoorChecked
import GoSem.Claim
import GoSem.ClaimJoined
import GoSem.ClaimMapViews
import Derived.JoinedTies
import Derived.KernelRfl
namespace Go.Proofs.YtiibhggjlandmaaDoor
/- THE CELL 'sum', in the pinned program and in every row, IS THE sha256 OF THE DUMP (.gsa) THAT YtiibhggjlandmaaDoorProg.lean LOADS. Nothing in Lean hashes anything: it is a label: what it is worth is what the hold of that sum in a sandbox is worth. -/
noncomputable def Tryd.pinned : Pinned := { name := "ytiibhggjlandmaadoor", sum := "5c36f95f3b4b296e747c0dc96df4497615c7f5ed333e175e3037a875766dd5bf", checked := Tryd.checked }
namespace Rows
def none {H : Type} : Left H := { results := [], args := [] }

/- WHAT THE LISTED PACKAGE-LEVEL VARIABLES READ AS WHEN THE CALL BEGINS. Each datum BY PROGRAM (the guide's laid-datum.mjs) off the statement by which the dump's own 'gosem.cut.vars' lays the variable. In a bare row this is a premise. The card (YtiibhggjlandmaaDoorCards.lean) ties it to the program's text. -/
def laid_anvil_encode_atomics {H : Type} : DataW H := .agg [.lit (.int .u32 3), .lit (.int .u32 1), .lit (.int .u32 0), .lit (.int .u32 4), .lit (.int .u32 12), .lit (.int .u32 8), .lit (.int .u32 16), .lit (.int .u32 20), .lit (.int .u32 24), .lit (.int .u32 28)]

/-- 'anvillaw06.EncodeChecks': WHATEVER THE INPUT: true; the input reads as it did. -/
def encodeChecksSpec : ChangeSpec := { name := "encodeChecks", fn := fun _ => fun
  | [d] => { results := [.lit (.bool true)], args := [d] }
  | _ => none }
def encodeChecksRow : OpenClaim := { program := "ytiibhggjlandmaadoor", sum := "5c36f95f3b4b296e747c0dc96df4497615c7f5ed333e175e3037a875766dd5bf", func := "anvil/anvillaw06.EncodeChecks", spec := "encodeChecks", named := ["anvil/encode.atomics"], apart := false, laid := [("anvil/encode.atomics", laid_anvil_encode_atomics)] }
def EncodeChecksSaid : Prop := encodeChecksRow.holds Tryd.pinned (OpenSpec.ofChange encodeChecksSpec)

/-- ITS FALSE NEIGHBOUR: 'it returns false'. Refute it at one input. -/
def encodeChecksWrong : ChangeSpec := { name := "encodeChecks", fn := fun _ => fun
  | [d] => { results := [.lit (.bool false)], args := [d] }
  | _ => none }
def EncodeChecksWrongFalsely : Prop := encodeChecksRow.holds Tryd.pinned (OpenSpec.ofChange encodeChecksWrong)

/-- 'anvillaw06.EncodeWords': WHATEVER THE INPUT: true; the input reads as it did. -/
def encodeWordsSpec : ChangeSpec := { name := "encodeWords", fn := fun _ => fun
  | [d] => { results := [.lit (.bool true)], args := [d] }
  | _ => none }
def encodeWordsRow : OpenClaim := { program := "ytiibhggjlandmaadoor", sum := "5c36f95f3b4b296e747c0dc96df4497615c7f5ed333e175e3037a875766dd5bf", func := "anvil/anvillaw06.EncodeWords", spec := "encodeWords", named := ["anvil/encode.atomics"], apart := false, laid := [("anvil/encode.atomics", laid_anvil_encode_atomics)] }
def EncodeWordsSaid : Prop := encodeWordsRow.holds Tryd.pinned (OpenSpec.ofChange encodeWordsSpec)

/-- ITS FALSE NEIGHBOUR: 'it returns false'. Refute it at one input. -/
def encodeWordsWrong : ChangeSpec := { name := "encodeWords", fn := fun _ => fun
  | [d] => { results := [.lit (.bool false)], args := [d] }
  | _ => none }
def EncodeWordsWrongFalsely : Prop := encodeWordsRow.holds Tryd.pinned (OpenSpec.ofChange encodeWordsWrong)

/-- 'anvillaw06.EncodeThere': WHATEVER THE INPUT: true; the input reads as it did. -/
def encodeThereSpec : ChangeSpec := { name := "encodeThere", fn := fun _ => fun
  | [d] => { results := [.lit (.bool true)], args := [d] }
  | _ => none }
def encodeThereRow : OpenClaim := { program := "ytiibhggjlandmaadoor", sum := "5c36f95f3b4b296e747c0dc96df4497615c7f5ed333e175e3037a875766dd5bf", func := "anvil/anvillaw06.EncodeThere", spec := "encodeThere", unfollowed := true, recurses := true, named := ["anvil/encode.atomics"], apart := false, laid := [("anvil/encode.atomics", laid_anvil_encode_atomics)] }
def EncodeThereSaid : Prop := encodeThereRow.holds Tryd.pinned (OpenSpec.ofChange encodeThereSpec)

/-- ITS FALSE NEIGHBOUR: 'it returns false'. Refute it at one input. -/
def encodeThereWrong : ChangeSpec := { name := "encodeThere", fn := fun _ => fun
  | [d] => { results := [.lit (.bool false)], args := [d] }
  | _ => none }
def EncodeThereWrongFalsely : Prop := encodeThereRow.holds Tryd.pinned (OpenSpec.ofChange encodeThereWrong)

/-- 'anvillaw06.EncodeBack': WHATEVER THE INPUT: true; the input reads as it did. -/
def encodeBackSpec : ChangeSpec := { name := "encodeBack", fn := fun _ => fun
  | [d] => { results := [.lit (.bool true)], args := [d] }
  | _ => none }
def encodeBackRow : OpenClaim := { program := "ytiibhggjlandmaadoor", sum := "5c36f95f3b4b296e747c0dc96df4497615c7f5ed333e175e3037a875766dd5bf", func := "anvil/anvillaw06.EncodeBack", spec := "encodeBack", unfollowed := true, recurses := true, named := ["anvil/encode.atomics"], apart := false, laid := [("anvil/encode.atomics", laid_anvil_encode_atomics)] }
def EncodeBackSaid : Prop := encodeBackRow.holds Tryd.pinned (OpenSpec.ofChange encodeBackSpec)

/-- ITS FALSE NEIGHBOUR: 'it returns false'. Refute it at one input. -/
def encodeBackWrong : ChangeSpec := { name := "encodeBack", fn := fun _ => fun
  | [d] => { results := [.lit (.bool false)], args := [d] }
  | _ => none }
def EncodeBackWrongFalsely : Prop := encodeBackRow.holds Tryd.pinned (OpenSpec.ofChange encodeBackWrong)

/-- 'anvillaw06.EncodeLeast': WHATEVER THE INPUT: true; the input reads as it did. -/
def encodeLeastSpec : ChangeSpec := { name := "encodeLeast", fn := fun _ => fun
  | [d1, d2] => { results := [.lit (.bool true)], args := [d1, d2] }
  | _ => none }
def encodeLeastRow : OpenClaim := { program := "ytiibhggjlandmaadoor", sum := "5c36f95f3b4b296e747c0dc96df4497615c7f5ed333e175e3037a875766dd5bf", func := "anvil/anvillaw06.EncodeLeast", spec := "encodeLeast", unfollowed := true, recurses := true, named := ["anvil/encode.atomics"], apart := false, laid := [("anvil/encode.atomics", laid_anvil_encode_atomics)] }
def EncodeLeastSaid : Prop := encodeLeastRow.holds Tryd.pinned (OpenSpec.ofChange encodeLeastSpec)

/-- ITS FALSE NEIGHBOUR: 'it returns false'. Refute it at one input. -/
def encodeLeastWrong : ChangeSpec := { name := "encodeLeast", fn := fun _ => fun
  | [d1, d2] => { results := [.lit (.bool false)], args := [d1, d2] }
  | _ => none }
def EncodeLeastWrongFalsely : Prop := encodeLeastRow.holds Tryd.pinned (OpenSpec.ofChange encodeLeastWrong)

/-- 'anvillaw06.EncodeApart': WHATEVER THE INPUT: true; the input reads as it did. -/
def encodeApartSpec : ChangeSpec := { name := "encodeApart", fn := fun _ => fun
  | [d1, d2] => { results := [.lit (.bool true)], args := [d1, d2] }
  | _ => none }
def encodeApartRow : OpenClaim := { program := "ytiibhggjlandmaadoor", sum := "5c36f95f3b4b296e747c0dc96df4497615c7f5ed333e175e3037a875766dd5bf", func := "anvil/anvillaw06.EncodeApart", spec := "encodeApart", unfollowed := true, recurses := true, named := ["anvil/encode.atomics"], apart := false, laid := [("anvil/encode.atomics", laid_anvil_encode_atomics)] }
def EncodeApartSaid : Prop := encodeApartRow.holds Tryd.pinned (OpenSpec.ofChange encodeApartSpec)

/-- ITS FALSE NEIGHBOUR: 'it returns false'. Refute it at one input. -/
def encodeApartWrong : ChangeSpec := { name := "encodeApart", fn := fun _ => fun
  | [d1, d2] => { results := [.lit (.bool false)], args := [d1, d2] }
  | _ => none }
def EncodeApartWrongFalsely : Prop := encodeApartRow.holds Tryd.pinned (OpenSpec.ofChange encodeApartWrong)

/-- 'anvillaw06.EncodeCuts': WHATEVER THE INPUT: true; the input reads as it did. -/
def encodeCutsSpec : ChangeSpec := { name := "encodeCuts", fn := fun _ => fun
  | [d] => { results := [.lit (.bool true)], args := [d] }
  | _ => none }
def encodeCutsRow : OpenClaim := { program := "ytiibhggjlandmaadoor", sum := "5c36f95f3b4b296e747c0dc96df4497615c7f5ed333e175e3037a875766dd5bf", func := "anvil/anvillaw06.EncodeCuts", spec := "encodeCuts", unfollowed := true, recurses := true, named := ["anvil/encode.atomics"], apart := false, laid := [("anvil/encode.atomics", laid_anvil_encode_atomics)] }
def EncodeCutsSaid : Prop := encodeCutsRow.holds Tryd.pinned (OpenSpec.ofChange encodeCutsSpec)

/-- ITS FALSE NEIGHBOUR: 'it returns false'. Refute it at one input. -/
def encodeCutsWrong : ChangeSpec := { name := "encodeCuts", fn := fun _ => fun
  | [d] => { results := [.lit (.bool false)], args := [d] }
  | _ => none }
def EncodeCutsWrongFalsely : Prop := encodeCutsRow.holds Tryd.pinned (OpenSpec.ofChange encodeCutsWrong)

/- THE SECOND FORM. 'bulk': how many values and letters a reading holds, each counted each time it is reached (what is shared counts as often as it is met; a slice's spare places count too). A statement '..UptoSaid' is the law's where the arguments, and the package variables that the reading takes, are together of bulk at most 1048576: NARROWER than '..Said'. Prove '..Said' where nothing that the law and all that it calls make is longer than what came in: it says more and counts as full. Else prove '..UptoSaid'. A law counts once. -/
mutual
def uptoBulk {H : Type} : DataW H → Nat
  | .lit (.string bytes) => bytes.length + 1
  | .lit _ => 1
  | .nil => 1
  | .ptr d => uptoBulk d + 1
  | .slice elems spare => uptoBulkAll elems + uptoBulkAll spare + 1
  | .agg parts => uptoBulkAll parts + 1
  | .iface _ d => uptoBulk d + 1
  | .map entries => uptoBulkEntries entries + 1
  | .held _ => 1
def uptoBulkAll {H : Type} : List (DataW H) → Nat
  | [] => 0
  | d :: r => uptoBulk d + uptoBulkAll r
def uptoBulkEntries {H : Type} : List (Lit × DataW H) → Nat
  | [] => 0
  | x :: r => uptoBulkEntry x + uptoBulkEntries r
def uptoBulkEntry {H : Type} : Lit × DataW H → Nat
  | (.string bytes, d) => bytes.length + uptoBulk d + 1
  | (_, d) => uptoBulk d + 1
 end
def uptoSmall : (H : Type) → List (DataW H) → Bool := fun _ ds => decide (uptoBulkAll ds ≤ 1048576)
def OpenSpec.upto (s : _root_.Go.ChangeSpec) : _root_.Go.OpenSpec := { _root_.Go.OpenSpec.ofChange s with cond := some uptoSmall }

/-- 'anvillaw06.EncodeChecks', WHERE WHAT IT READS IS OF BULK AT MOST 1048576: true; the input reads as it did. -/
def encodeChecksUptoRow : OpenClaim := { program := "ytiibhggjlandmaadoor", sum := "5c36f95f3b4b296e747c0dc96df4497615c7f5ed333e175e3037a875766dd5bf", func := "anvil/anvillaw06.EncodeChecks", spec := "encodeChecks", named := ["anvil/encode.atomics"], apart := false, laid := [("anvil/encode.atomics", laid_anvil_encode_atomics)], narrowed := true }
def EncodeChecksUptoSaid : Prop := encodeChecksUptoRow.holds Tryd.pinned (OpenSpec.upto encodeChecksSpec)

/-- 'anvillaw06.EncodeWords', WHERE WHAT IT READS IS OF BULK AT MOST 1048576: true; the input reads as it did. -/
def encodeWordsUptoRow : OpenClaim := { program := "ytiibhggjlandmaadoor", sum := "5c36f95f3b4b296e747c0dc96df4497615c7f5ed333e175e3037a875766dd5bf", func := "anvil/anvillaw06.EncodeWords", spec := "encodeWords", named := ["anvil/encode.atomics"], apart := false, laid := [("anvil/encode.atomics", laid_anvil_encode_atomics)], narrowed := true }
def EncodeWordsUptoSaid : Prop := encodeWordsUptoRow.holds Tryd.pinned (OpenSpec.upto encodeWordsSpec)

/-- 'anvillaw06.EncodeThere', WHERE WHAT IT READS IS OF BULK AT MOST 1048576: true; the input reads as it did. -/
def encodeThereUptoRow : OpenClaim := { program := "ytiibhggjlandmaadoor", sum := "5c36f95f3b4b296e747c0dc96df4497615c7f5ed333e175e3037a875766dd5bf", func := "anvil/anvillaw06.EncodeThere", spec := "encodeThere", unfollowed := true, recurses := true, named := ["anvil/encode.atomics"], apart := false, laid := [("anvil/encode.atomics", laid_anvil_encode_atomics)], narrowed := true }
def EncodeThereUptoSaid : Prop := encodeThereUptoRow.holds Tryd.pinned (OpenSpec.upto encodeThereSpec)

/-- 'anvillaw06.EncodeBack', WHERE WHAT IT READS IS OF BULK AT MOST 1048576: true; the input reads as it did. -/
def encodeBackUptoRow : OpenClaim := { program := "ytiibhggjlandmaadoor", sum := "5c36f95f3b4b296e747c0dc96df4497615c7f5ed333e175e3037a875766dd5bf", func := "anvil/anvillaw06.EncodeBack", spec := "encodeBack", unfollowed := true, recurses := true, named := ["anvil/encode.atomics"], apart := false, laid := [("anvil/encode.atomics", laid_anvil_encode_atomics)], narrowed := true }
def EncodeBackUptoSaid : Prop := encodeBackUptoRow.holds Tryd.pinned (OpenSpec.upto encodeBackSpec)

/-- 'anvillaw06.EncodeLeast', WHERE WHAT IT READS IS OF BULK AT MOST 1048576: true; the input reads as it did. -/
def encodeLeastUptoRow : OpenClaim := { program := "ytiibhggjlandmaadoor", sum := "5c36f95f3b4b296e747c0dc96df4497615c7f5ed333e175e3037a875766dd5bf", func := "anvil/anvillaw06.EncodeLeast", spec := "encodeLeast", unfollowed := true, recurses := true, named := ["anvil/encode.atomics"], apart := false, laid := [("anvil/encode.atomics", laid_anvil_encode_atomics)], narrowed := true }
def EncodeLeastUptoSaid : Prop := encodeLeastUptoRow.holds Tryd.pinned (OpenSpec.upto encodeLeastSpec)

/-- 'anvillaw06.EncodeApart', WHERE WHAT IT READS IS OF BULK AT MOST 1048576: true; the input reads as it did. -/
def encodeApartUptoRow : OpenClaim := { program := "ytiibhggjlandmaadoor", sum := "5c36f95f3b4b296e747c0dc96df4497615c7f5ed333e175e3037a875766dd5bf", func := "anvil/anvillaw06.EncodeApart", spec := "encodeApart", unfollowed := true, recurses := true, named := ["anvil/encode.atomics"], apart := false, laid := [("anvil/encode.atomics", laid_anvil_encode_atomics)], narrowed := true }
def EncodeApartUptoSaid : Prop := encodeApartUptoRow.holds Tryd.pinned (OpenSpec.upto encodeApartSpec)

/-- 'anvillaw06.EncodeCuts', WHERE WHAT IT READS IS OF BULK AT MOST 1048576: true; the input reads as it did. -/
def encodeCutsUptoRow : OpenClaim := { program := "ytiibhggjlandmaadoor", sum := "5c36f95f3b4b296e747c0dc96df4497615c7f5ed333e175e3037a875766dd5bf", func := "anvil/anvillaw06.EncodeCuts", spec := "encodeCuts", unfollowed := true, recurses := true, named := ["anvil/encode.atomics"], apart := false, laid := [("anvil/encode.atomics", laid_anvil_encode_atomics)], narrowed := true }
def EncodeCutsUptoSaid : Prop := encodeCutsUptoRow.holds Tryd.pinned (OpenSpec.upto encodeCutsSpec)

end Rows
end Go.Proofs.YtiibhggjlandmaaDoor
