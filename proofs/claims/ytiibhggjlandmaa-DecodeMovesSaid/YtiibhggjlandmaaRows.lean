/-
  No cell of these rows narrows 'for every input' (looked for: loops, veiled, ifaces, maps, wideKeys, modest, calm, conditions, laid).
  DERIVED. THE GIVEN ROWS OF THIS SEAT. 6 by the template 'for every input the law returns true; each argument reads behind the call as it read before'; 0 by the template 'total and deterministic' (their statements: YtiibhggjlandmaaTotals.lean).
  GIVEN WITH THE SEED: the statements are not yours to turn. If you find one false, say at which input.
  Laid BY PROGRAM, IN A SANDBOX (cutbox-rows.mjs): the forced cells as the released guide's own fill.sh prints them over the translation a245534ba9d44df4… (all of the seat's roots in one cut). By AI agents, Wed Nov 11 2026. No macro, syntax, notation, axiom, sorry.
-/
import Derived.Test.YtiibhggjlandmaaChecked
import GoSem.Claim
import GoSem.ClaimJoined
import GoSem.ClaimMapViews
import Derived.JoinedTies
import Derived.KernelRfl
namespace Go.Proofs.Ytiibhggjlandmaa
/- THE CELL 'sum', in the pinned program and in every row, IS THE sha256 OF THE DUMP (.gsa) THAT YtiibhggjlandmaaProg.lean LOADS. Nothing in Lean hashes anything: it is a label: what it is worth is what the hold of that sum in a sandbox is worth. -/
noncomputable def Try.pinned : Pinned := { name := "ytiibhggjlandmaa", sum := "a245534ba9d44df4da4279d159205ee59038b1bdf3933ef00f7089a8d4024f10", checked := Try.checked }
namespace Rows
def none {H : Type} : Left H := { results := [], args := [] }

/-- 'anvillaw05.DecodeExpands': WHATEVER THE INPUT: true; the input reads as it did. -/
def decodeExpandsSpec : ChangeSpec := { name := "decodeExpands", fn := fun _ => fun
  | [d] => { results := [.lit (.bool true)], args := [d] }
  | _ => none }
def decodeExpandsRow : OpenClaim := { program := "ytiibhggjlandmaa", sum := "a245534ba9d44df4da4279d159205ee59038b1bdf3933ef00f7089a8d4024f10", func := "anvil/anvillaw05.DecodeExpands", spec := "decodeExpands", apart := false }
def DecodeExpandsSaid : Prop := decodeExpandsRow.holds Try.pinned (OpenSpec.ofChange decodeExpandsSpec)

/-- ITS FALSE NEIGHBOUR: 'it returns false'. Refute it at one input. -/
def decodeExpandsWrong : ChangeSpec := { name := "decodeExpands", fn := fun _ => fun
  | [d] => { results := [.lit (.bool false)], args := [d] }
  | _ => none }
def DecodeExpandsWrongFalsely : Prop := decodeExpandsRow.holds Try.pinned (OpenSpec.ofChange decodeExpandsWrong)

/-- 'anvillaw05.DecodeReads': WHATEVER THE INPUT: true; the input reads as it did. -/
def decodeReadsSpec : ChangeSpec := { name := "decodeReads", fn := fun _ => fun
  | [d] => { results := [.lit (.bool true)], args := [d] }
  | _ => none }
def decodeReadsRow : OpenClaim := { program := "ytiibhggjlandmaa", sum := "a245534ba9d44df4da4279d159205ee59038b1bdf3933ef00f7089a8d4024f10", func := "anvil/anvillaw05.DecodeReads", spec := "decodeReads", apart := false }
def DecodeReadsSaid : Prop := decodeReadsRow.holds Try.pinned (OpenSpec.ofChange decodeReadsSpec)

/-- ITS FALSE NEIGHBOUR: 'it returns false'. Refute it at one input. -/
def decodeReadsWrong : ChangeSpec := { name := "decodeReads", fn := fun _ => fun
  | [d] => { results := [.lit (.bool false)], args := [d] }
  | _ => none }
def DecodeReadsWrongFalsely : Prop := decodeReadsRow.holds Try.pinned (OpenSpec.ofChange decodeReadsWrong)

/-- 'anvillaw05.DecodeShort': WHATEVER THE INPUT: true; the input reads as it did. -/
def decodeShortSpec : ChangeSpec := { name := "decodeShort", fn := fun _ => fun
  | [d1, d2] => { results := [.lit (.bool true)], args := [d1, d2] }
  | _ => none }
def decodeShortRow : OpenClaim := { program := "ytiibhggjlandmaa", sum := "a245534ba9d44df4da4279d159205ee59038b1bdf3933ef00f7089a8d4024f10", func := "anvil/anvillaw05.DecodeShort", spec := "decodeShort", apart := false }
def DecodeShortSaid : Prop := decodeShortRow.holds Try.pinned (OpenSpec.ofChange decodeShortSpec)

/-- ITS FALSE NEIGHBOUR: 'it returns false'. Refute it at one input. -/
def decodeShortWrong : ChangeSpec := { name := "decodeShort", fn := fun _ => fun
  | [d1, d2] => { results := [.lit (.bool false)], args := [d1, d2] }
  | _ => none }
def DecodeShortWrongFalsely : Prop := decodeShortRow.holds Try.pinned (OpenSpec.ofChange decodeShortWrong)

/-- 'anvillaw05.DecodeApart': WHATEVER THE INPUT: true; the input reads as it did. -/
def decodeApartSpec : ChangeSpec := { name := "decodeApart", fn := fun _ => fun
  | [d1, d2] => { results := [.lit (.bool true)], args := [d1, d2] }
  | _ => none }
def decodeApartRow : OpenClaim := { program := "ytiibhggjlandmaa", sum := "a245534ba9d44df4da4279d159205ee59038b1bdf3933ef00f7089a8d4024f10", func := "anvil/anvillaw05.DecodeApart", spec := "decodeApart", apart := false }
def DecodeApartSaid : Prop := decodeApartRow.holds Try.pinned (OpenSpec.ofChange decodeApartSpec)

/-- ITS FALSE NEIGHBOUR: 'it returns false'. Refute it at one input. -/
def decodeApartWrong : ChangeSpec := { name := "decodeApart", fn := fun _ => fun
  | [d1, d2] => { results := [.lit (.bool false)], args := [d1, d2] }
  | _ => none }
def DecodeApartWrongFalsely : Prop := decodeApartRow.holds Try.pinned (OpenSpec.ofChange decodeApartWrong)

/-- 'anvillaw05.DecodeFields': WHATEVER THE INPUT: true; the input reads as it did. -/
def decodeFieldsSpec : ChangeSpec := { name := "decodeFields", fn := fun _ => fun
  | [d] => { results := [.lit (.bool true)], args := [d] }
  | _ => none }
def decodeFieldsRow : OpenClaim := { program := "ytiibhggjlandmaa", sum := "a245534ba9d44df4da4279d159205ee59038b1bdf3933ef00f7089a8d4024f10", func := "anvil/anvillaw05.DecodeFields", spec := "decodeFields", apart := false }
def DecodeFieldsSaid : Prop := decodeFieldsRow.holds Try.pinned (OpenSpec.ofChange decodeFieldsSpec)

/-- ITS FALSE NEIGHBOUR: 'it returns false'. Refute it at one input. -/
def decodeFieldsWrong : ChangeSpec := { name := "decodeFields", fn := fun _ => fun
  | [d] => { results := [.lit (.bool false)], args := [d] }
  | _ => none }
def DecodeFieldsWrongFalsely : Prop := decodeFieldsRow.holds Try.pinned (OpenSpec.ofChange decodeFieldsWrong)

/-- 'anvillaw05.DecodeMoves': WHATEVER THE INPUT: true; the input reads as it did. -/
def decodeMovesSpec : ChangeSpec := { name := "decodeMoves", fn := fun _ => fun
  | [d1, d2] => { results := [.lit (.bool true)], args := [d1, d2] }
  | _ => none }
def decodeMovesRow : OpenClaim := { program := "ytiibhggjlandmaa", sum := "a245534ba9d44df4da4279d159205ee59038b1bdf3933ef00f7089a8d4024f10", func := "anvil/anvillaw05.DecodeMoves", spec := "decodeMoves", apart := false }
def DecodeMovesSaid : Prop := decodeMovesRow.holds Try.pinned (OpenSpec.ofChange decodeMovesSpec)

/-- ITS FALSE NEIGHBOUR: 'it returns false'. Refute it at one input. -/
def decodeMovesWrong : ChangeSpec := { name := "decodeMoves", fn := fun _ => fun
  | [d1, d2] => { results := [.lit (.bool false)], args := [d1, d2] }
  | _ => none }
def DecodeMovesWrongFalsely : Prop := decodeMovesRow.holds Try.pinned (OpenSpec.ofChange decodeMovesWrong)

/- THE SECOND FORM. 'bulk': how many values and letters a reading holds, each counted each time it is reached (what is shared counts as often as it is met; a slice's spare places count too). A statement '..UptoSaid' is the law's where the arguments, and the package variables that the reading takes, are together of bulk at most 1048576: NARROWER than '..Said'. Prove '..Said' where nothing that the law and all that it calls make is longer than what came in: it says more and counts as full. Else prove '..UptoSaid'. A law counts once. -/
mutual
def uptoBulk {H : Type} : DataW H → Nat
  | .lit (.string bytes) => bytes.length + 1
  | .lit _ => 1
  | .nil => 1
  | .ptr d => uptoBulk d + 1
  | .slice elems spare => uptoBulkAll elems + uptoBulkAll spare + 1
  | .agg parts => uptoBulkAll parts + 1
  | .iface _ d => uptoBulk d + 1
  | .map entries => uptoBulkEntries entries + 1
  | .held _ => 1
def uptoBulkAll {H : Type} : List (DataW H) → Nat
  | [] => 0
  | d :: r => uptoBulk d + uptoBulkAll r
def uptoBulkEntries {H : Type} : List (Lit × DataW H) → Nat
  | [] => 0
  | x :: r => uptoBulkEntry x + uptoBulkEntries r
def uptoBulkEntry {H : Type} : Lit × DataW H → Nat
  | (.string bytes, d) => bytes.length + uptoBulk d + 1
  | (_, d) => uptoBulk d + 1
 end
def uptoSmall : (H : Type) → List (DataW H) → Bool := fun _ ds => decide (uptoBulkAll ds ≤ 1048576)
def OpenSpec.upto (s : _root_.Go.ChangeSpec) : _root_.Go.OpenSpec := { _root_.Go.OpenSpec.ofChange s with cond := some uptoSmall }

/-- 'anvillaw05.DecodeExpands', WHERE WHAT IT READS IS OF BULK AT MOST 1048576: true; the input reads as it did. -/
def decodeExpandsUptoRow : OpenClaim := { program := "ytiibhggjlandmaa", sum := "a245534ba9d44df4da4279d159205ee59038b1bdf3933ef00f7089a8d4024f10", func := "anvil/anvillaw05.DecodeExpands", spec := "decodeExpands", apart := false, narrowed := true }
def DecodeExpandsUptoSaid : Prop := decodeExpandsUptoRow.holds Try.pinned (OpenSpec.upto decodeExpandsSpec)

/-- 'anvillaw05.DecodeReads', WHERE WHAT IT READS IS OF BULK AT MOST 1048576: true; the input reads as it did. -/
def decodeReadsUptoRow : OpenClaim := { program := "ytiibhggjlandmaa", sum := "a245534ba9d44df4da4279d159205ee59038b1bdf3933ef00f7089a8d4024f10", func := "anvil/anvillaw05.DecodeReads", spec := "decodeReads", apart := false, narrowed := true }
def DecodeReadsUptoSaid : Prop := decodeReadsUptoRow.holds Try.pinned (OpenSpec.upto decodeReadsSpec)

/-- 'anvillaw05.DecodeShort', WHERE WHAT IT READS IS OF BULK AT MOST 1048576: true; the input reads as it did. -/
def decodeShortUptoRow : OpenClaim := { program := "ytiibhggjlandmaa", sum := "a245534ba9d44df4da4279d159205ee59038b1bdf3933ef00f7089a8d4024f10", func := "anvil/anvillaw05.DecodeShort", spec := "decodeShort", apart := false, narrowed := true }
def DecodeShortUptoSaid : Prop := decodeShortUptoRow.holds Try.pinned (OpenSpec.upto decodeShortSpec)

/-- 'anvillaw05.DecodeApart', WHERE WHAT IT READS IS OF BULK AT MOST 1048576: true; the input reads as it did. -/
def decodeApartUptoRow : OpenClaim := { program := "ytiibhggjlandmaa", sum := "a245534ba9d44df4da4279d159205ee59038b1bdf3933ef00f7089a8d4024f10", func := "anvil/anvillaw05.DecodeApart", spec := "decodeApart", apart := false, narrowed := true }
def DecodeApartUptoSaid : Prop := decodeApartUptoRow.holds Try.pinned (OpenSpec.upto decodeApartSpec)

/-- 'anvillaw05.DecodeFields', WHERE WHAT IT READS IS OF BULK AT MOST 1048576: true; the input reads as it did. -/
def decodeFieldsUptoRow : OpenClaim := { program := "ytiibhggjlandmaa", sum := "a245534ba9d44df4da4279d159205ee59038b1bdf3933ef00f7089a8d4024f10", func := "anvil/anvillaw05.DecodeFields", spec := "decodeFields", apart := false, narrowed := true }
def DecodeFieldsUptoSaid : Prop := decodeFieldsUptoRow.holds Try.pinned (OpenSpec.upto decodeFieldsSpec)

/-- 'anvillaw05.DecodeMoves', WHERE WHAT IT READS IS OF BULK AT MOST 1048576: true; the input reads as it did. -/
def decodeMovesUptoRow : OpenClaim := { program := "ytiibhggjlandmaa", sum := "a245534ba9d44df4da4279d159205ee59038b1bdf3933ef00f7089a8d4024f10", func := "anvil/anvillaw05.DecodeMoves", spec := "decodeMoves", apart := false, narrowed := true }
def DecodeMovesUptoSaid : Prop := decodeMovesUptoRow.holds Try.pinned (OpenSpec.upto decodeMovesSpec)

end Rows
end Go.Proofs.Ytiibhggjlandmaa
