/-
  No cell of these rows narrows 'for every input' (looked for: loops, veiled, ifaces, maps, wideKeys, modest, calm, conditions, laid).
  DERIVED. THE GIVEN ROWS OF THIS SEAT. 5 by the template 'for every input the law returns true; each argument reads behind the call as it read before'; 0 by the template 'total and deterministic' (their statements: YtdjppkffmeccoaaTotals.lean).
  GIVEN WITH THE SEED: the statements are not yours to turn. If you find one false, say at which input.
  Laid BY PROGRAM, IN A SANDBOX (cutbox-rows.mjs): the forced cells as the released guide's own fill.sh prints them over the translation 7ec597abd4a3fbb5… (all of the seat's roots in one cut). By AI agents, Wed Nov 11 2026. No macro, syntax, notation, axiom, sorry.
-/
import Derived.Test.YtdjppkffmeccoaaChecked
import GoSem.Claim
import GoSem.ClaimJoined
import GoSem.ClaimMapViews
import Derived.JoinedTies
import Derived.KernelRfl
namespace Go.Proofs.Ytdjppkffmeccoaa
/- THE CELL 'sum', in the pinned program and in every row, IS THE sha256 OF THE DUMP (.gsa) THAT YtdjppkffmeccoaaProg.lean LOADS. Nothing in Lean hashes anything: it is a label: what it is worth is what the hold of that sum in a sandbox is worth. -/
noncomputable def Try.pinned : Pinned := { name := "ytdjppkffmeccoaa", sum := "7ec597abd4a3fbb5c3cac4934d025a2f27a4fe83f16013ebe808edb0716f60f8", checked := Try.checked }
namespace Rows
def none {H : Type} : Left H := { results := [], args := [] }

/-- 'anvillaw01.ArithMemory': WHATEVER THE INPUT: true; the input reads as it did. -/
def arithMemorySpec : ChangeSpec := { name := "arithMemory", fn := fun _ => fun
  | [d1, d2, d3] => { results := [.lit (.bool true)], args := [d1, d2, d3] }
  | _ => none }
def arithMemoryRow : OpenClaim := { program := "ytdjppkffmeccoaa", sum := "7ec597abd4a3fbb5c3cac4934d025a2f27a4fe83f16013ebe808edb0716f60f8", func := "anvil/anvillaw01.ArithMemory", spec := "arithMemory", apart := false }
def ArithMemorySaid : Prop := arithMemoryRow.holds Try.pinned (OpenSpec.ofChange arithMemorySpec)

/-- ITS FALSE NEIGHBOUR: 'it returns false'. Refute it at one input. -/
def arithMemoryWrong : ChangeSpec := { name := "arithMemory", fn := fun _ => fun
  | [d1, d2, d3] => { results := [.lit (.bool false)], args := [d1, d2, d3] }
  | _ => none }
def ArithMemoryWrongFalsely : Prop := arithMemoryRow.holds Try.pinned (OpenSpec.ofChange arithMemoryWrong)

/-- 'anvillaw01.ArithBranches': WHATEVER THE INPUT: true; the input reads as it did. -/
def arithBranchesSpec : ChangeSpec := { name := "arithBranches", fn := fun _ => fun
  | [d] => { results := [.lit (.bool true)], args := [d] }
  | _ => none }
def arithBranchesRow : OpenClaim := { program := "ytdjppkffmeccoaa", sum := "7ec597abd4a3fbb5c3cac4934d025a2f27a4fe83f16013ebe808edb0716f60f8", func := "anvil/anvillaw01.ArithBranches", spec := "arithBranches", apart := false }
def ArithBranchesSaid : Prop := arithBranchesRow.holds Try.pinned (OpenSpec.ofChange arithBranchesSpec)

/-- ITS FALSE NEIGHBOUR: 'it returns false'. Refute it at one input. -/
def arithBranchesWrong : ChangeSpec := { name := "arithBranches", fn := fun _ => fun
  | [d] => { results := [.lit (.bool false)], args := [d] }
  | _ => none }
def ArithBranchesWrongFalsely : Prop := arithBranchesRow.holds Try.pinned (OpenSpec.ofChange arithBranchesWrong)

/-- 'anvillaw01.ArithParts': WHATEVER THE INPUT: true; the input reads as it did. -/
def arithPartsSpec : ChangeSpec := { name := "arithParts", fn := fun _ => fun
  | [d] => { results := [.lit (.bool true)], args := [d] }
  | _ => none }
def arithPartsRow : OpenClaim := { program := "ytdjppkffmeccoaa", sum := "7ec597abd4a3fbb5c3cac4934d025a2f27a4fe83f16013ebe808edb0716f60f8", func := "anvil/anvillaw01.ArithParts", spec := "arithParts", apart := false }
def ArithPartsSaid : Prop := arithPartsRow.holds Try.pinned (OpenSpec.ofChange arithPartsSpec)

/-- ITS FALSE NEIGHBOUR: 'it returns false'. Refute it at one input. -/
def arithPartsWrong : ChangeSpec := { name := "arithParts", fn := fun _ => fun
  | [d] => { results := [.lit (.bool false)], args := [d] }
  | _ => none }
def ArithPartsWrongFalsely : Prop := arithPartsRow.holds Try.pinned (OpenSpec.ofChange arithPartsWrong)

/-- 'anvillaw01.ArithProducts': WHATEVER THE INPUT: true; the input reads as it did. -/
def arithProductsSpec : ChangeSpec := { name := "arithProducts", fn := fun _ => fun
  | [d] => { results := [.lit (.bool true)], args := [d] }
  | _ => none }
def arithProductsRow : OpenClaim := { program := "ytdjppkffmeccoaa", sum := "7ec597abd4a3fbb5c3cac4934d025a2f27a4fe83f16013ebe808edb0716f60f8", func := "anvil/anvillaw01.ArithProducts", spec := "arithProducts", apart := false }
def ArithProductsSaid : Prop := arithProductsRow.holds Try.pinned (OpenSpec.ofChange arithProductsSpec)

/-- ITS FALSE NEIGHBOUR: 'it returns false'. Refute it at one input. -/
def arithProductsWrong : ChangeSpec := { name := "arithProducts", fn := fun _ => fun
  | [d] => { results := [.lit (.bool false)], args := [d] }
  | _ => none }
def ArithProductsWrongFalsely : Prop := arithProductsRow.holds Try.pinned (OpenSpec.ofChange arithProductsWrong)

/-- 'anvillaw01.ArithAmos': WHATEVER THE INPUT: true; the input reads as it did. -/
def arithAmosSpec : ChangeSpec := { name := "arithAmos", fn := fun _ => fun
  | [d] => { results := [.lit (.bool true)], args := [d] }
  | _ => none }
def arithAmosRow : OpenClaim := { program := "ytdjppkffmeccoaa", sum := "7ec597abd4a3fbb5c3cac4934d025a2f27a4fe83f16013ebe808edb0716f60f8", func := "anvil/anvillaw01.ArithAmos", spec := "arithAmos", apart := false }
def ArithAmosSaid : Prop := arithAmosRow.holds Try.pinned (OpenSpec.ofChange arithAmosSpec)

/-- ITS FALSE NEIGHBOUR: 'it returns false'. Refute it at one input. -/
def arithAmosWrong : ChangeSpec := { name := "arithAmos", fn := fun _ => fun
  | [d] => { results := [.lit (.bool false)], args := [d] }
  | _ => none }
def ArithAmosWrongFalsely : Prop := arithAmosRow.holds Try.pinned (OpenSpec.ofChange arithAmosWrong)

/- THE SECOND FORM. 'bulk': how many values and letters a reading holds, each counted each time it is reached (what is shared counts as often as it is met; a slice's spare places count too). A statement '..UptoSaid' is the law's where the arguments, and the package variables that the reading takes, are together of bulk at most 1048576: NARROWER than '..Said'. Prove '..Said' where nothing that the law and all that it calls make is longer than what came in: it says more and counts as full. Else prove '..UptoSaid'. A law counts once. -/
mutual
def uptoBulk {H : Type} : DataW H → Nat
  | .lit (.string bytes) => bytes.length + 1
  | .lit _ => 1
  | .nil => 1
  | .ptr d => uptoBulk d + 1
  | .slice elems spare => uptoBulkAll elems + uptoBulkAll spare + 1
  | .agg parts => uptoBulkAll parts + 1
  | .iface _ d => uptoBulk d + 1
  | .map entries => uptoBulkEntries entries + 1
  | .held _ => 1
def uptoBulkAll {H : Type} : List (DataW H) → Nat
  | [] => 0
  | d :: r => uptoBulk d + uptoBulkAll r
def uptoBulkEntries {H : Type} : List (Lit × DataW H) → Nat
  | [] => 0
  | x :: r => uptoBulkEntry x + uptoBulkEntries r
def uptoBulkEntry {H : Type} : Lit × DataW H → Nat
  | (.string bytes, d) => bytes.length + uptoBulk d + 1
  | (_, d) => uptoBulk d + 1
 end
def uptoSmall : (H : Type) → List (DataW H) → Bool := fun _ ds => decide (uptoBulkAll ds ≤ 1048576)
def OpenSpec.upto (s : _root_.Go.ChangeSpec) : _root_.Go.OpenSpec := { _root_.Go.OpenSpec.ofChange s with cond := some uptoSmall }

/-- 'anvillaw01.ArithMemory', WHERE WHAT IT READS IS OF BULK AT MOST 1048576: true; the input reads as it did. -/
def arithMemoryUptoRow : OpenClaim := { program := "ytdjppkffmeccoaa", sum := "7ec597abd4a3fbb5c3cac4934d025a2f27a4fe83f16013ebe808edb0716f60f8", func := "anvil/anvillaw01.ArithMemory", spec := "arithMemory", apart := false, narrowed := true }
def ArithMemoryUptoSaid : Prop := arithMemoryUptoRow.holds Try.pinned (OpenSpec.upto arithMemorySpec)

/-- 'anvillaw01.ArithBranches', WHERE WHAT IT READS IS OF BULK AT MOST 1048576: true; the input reads as it did. -/
def arithBranchesUptoRow : OpenClaim := { program := "ytdjppkffmeccoaa", sum := "7ec597abd4a3fbb5c3cac4934d025a2f27a4fe83f16013ebe808edb0716f60f8", func := "anvil/anvillaw01.ArithBranches", spec := "arithBranches", apart := false, narrowed := true }
def ArithBranchesUptoSaid : Prop := arithBranchesUptoRow.holds Try.pinned (OpenSpec.upto arithBranchesSpec)

/-- 'anvillaw01.ArithParts', WHERE WHAT IT READS IS OF BULK AT MOST 1048576: true; the input reads as it did. -/
def arithPartsUptoRow : OpenClaim := { program := "ytdjppkffmeccoaa", sum := "7ec597abd4a3fbb5c3cac4934d025a2f27a4fe83f16013ebe808edb0716f60f8", func := "anvil/anvillaw01.ArithParts", spec := "arithParts", apart := false, narrowed := true }
def ArithPartsUptoSaid : Prop := arithPartsUptoRow.holds Try.pinned (OpenSpec.upto arithPartsSpec)

/-- 'anvillaw01.ArithProducts', WHERE WHAT IT READS IS OF BULK AT MOST 1048576: true; the input reads as it did. -/
def arithProductsUptoRow : OpenClaim := { program := "ytdjppkffmeccoaa", sum := "7ec597abd4a3fbb5c3cac4934d025a2f27a4fe83f16013ebe808edb0716f60f8", func := "anvil/anvillaw01.ArithProducts", spec := "arithProducts", apart := false, narrowed := true }
def ArithProductsUptoSaid : Prop := arithProductsUptoRow.holds Try.pinned (OpenSpec.upto arithProductsSpec)

/-- 'anvillaw01.ArithAmos', WHERE WHAT IT READS IS OF BULK AT MOST 1048576: true; the input reads as it did. -/
def arithAmosUptoRow : OpenClaim := { program := "ytdjppkffmeccoaa", sum := "7ec597abd4a3fbb5c3cac4934d025a2f27a4fe83f16013ebe808edb0716f60f8", func := "anvil/anvillaw01.ArithAmos", spec := "arithAmos", apart := false, narrowed := true }
def ArithAmosUptoSaid : Prop := arithAmosUptoRow.holds Try.pinned (OpenSpec.upto arithAmosSpec)

end Rows
end Go.Proofs.Ytdjppkffmeccoaa
