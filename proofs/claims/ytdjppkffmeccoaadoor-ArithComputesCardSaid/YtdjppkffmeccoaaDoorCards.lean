/-
  DERIVED. GIVEN WITH THE SEED: THE CARDS: each row of YtdjppkffmeccoaaDoorRows.lean that lists a variable, with what it lists TIED to the program's text (the seventh form; the later family's looks); each row that meets fmt, with fmt's text TOLD by the authors' own Lean function (tested against real Go, not proved from fmt's source: count such statements apart). THE CARD IS WHAT COUNTS. Prove the row's statement (the work); the ties are given (YtdjppkffmeccoaaDoorTie.lean); close each card by the builder's one call (the guide's Derived/Test/ToyasCard.lean, 'card_holds'). Laid BY PROGRAM, IN A SANDBOX (cutbox-door.mjs). By AI agents, Wed Nov 11 2026. No macro, syntax, notation, axiom, sorry.
-/
import Derived.Test.YtdjppkffmeccoaaDoorRows
import GoSem.ClaimSeven
namespace Go.Proofs.YtdjppkffmeccoaaDoor
namespace Rows

/-- THE TIED CARD OF 'anvillaw01.ArithComputes'. -/
def arithComputesCard : Claim7 := { stood := { row := arithComputesRow, standIns := [], harness := (true, "834b6acae4dc8371a9686f74a7608a83f9d1fe58eca74d300725bb27e0b70dd9"), looks := false }, kinds := [], alts := [], laidByText := true, laidKinds := [.data], laidTests := true, laidLooks := .later }
def ArithComputesCardSaid : Prop := Claim7.holds Tryd.pinned (.plain (OpenSpec.ofChange arithComputesSpec)) arithComputesCard

/-- THE TIED CARD OF 'anvillaw01.ArithWhole'. -/
def arithWholeCard : Claim7 := { stood := { row := arithWholeRow, standIns := [], harness := (true, "834b6acae4dc8371a9686f74a7608a83f9d1fe58eca74d300725bb27e0b70dd9"), looks := false }, kinds := [], alts := [], laidByText := true, laidKinds := [.data], laidTests := true, laidLooks := .later }
def ArithWholeCardSaid : Prop := Claim7.holds Tryd.pinned (.plain (OpenSpec.ofChange arithWholeSpec)) arithWholeCard

/-- THE TIED CARD OF 'anvillaw01.ArithDivides'. -/
def arithDividesCard : Claim7 := { stood := { row := arithDividesRow, standIns := [], harness := (true, "834b6acae4dc8371a9686f74a7608a83f9d1fe58eca74d300725bb27e0b70dd9"), looks := false }, kinds := [], alts := [], laidByText := true, laidKinds := [.data], laidTests := true, laidLooks := .later }
def ArithDividesCardSaid : Prop := Claim7.holds Tryd.pinned (.plain (OpenSpec.ofChange arithDividesSpec)) arithDividesCard

/-- THE TIED CARD OF 'anvillaw01.ArithHalves'. -/
def arithHalvesCard : Claim7 := { stood := { row := arithHalvesRow, standIns := [], harness := (true, "834b6acae4dc8371a9686f74a7608a83f9d1fe58eca74d300725bb27e0b70dd9"), looks := false }, kinds := [], alts := [], laidByText := true, laidKinds := [.data], laidTests := true, laidLooks := .later }
def ArithHalvesCardSaid : Prop := Claim7.holds Tryd.pinned (.plain (OpenSpec.ofChange arithHalvesSpec)) arithHalvesCard

/-- THE TIED CARD OF 'anvillaw01.ArithShifts'. -/
def arithShiftsCard : Claim7 := { stood := { row := arithShiftsRow, standIns := [], harness := (true, "834b6acae4dc8371a9686f74a7608a83f9d1fe58eca74d300725bb27e0b70dd9"), looks := false }, kinds := [], alts := [], laidByText := true, laidKinds := [.data], laidTests := true, laidLooks := .later }
def ArithShiftsCardSaid : Prop := Claim7.holds Tryd.pinned (.plain (OpenSpec.ofChange arithShiftsSpec)) arithShiftsCard

/-- THE TIED CARD OF 'anvillaw01.ArithRing'. -/
def arithRingCard : Claim7 := { stood := { row := arithRingRow, standIns := [], harness := (true, "834b6acae4dc8371a9686f74a7608a83f9d1fe58eca74d300725bb27e0b70dd9"), looks := false }, kinds := [], alts := [], laidByText := true, laidKinds := [.data], laidTests := true, laidLooks := .later }
def ArithRingCardSaid : Prop := Claim7.holds Tryd.pinned (.plain (OpenSpec.ofChange arithRingSpec)) arithRingCard

/-- THE TIED CARD OF 'anvillaw01.ArithImmediates'. -/
def arithImmediatesCard : Claim7 := { stood := { row := arithImmediatesRow, standIns := [], harness := (true, "834b6acae4dc8371a9686f74a7608a83f9d1fe58eca74d300725bb27e0b70dd9"), looks := false }, kinds := [], alts := [], laidByText := true, laidKinds := [.data], laidTests := true, laidLooks := .later }
def ArithImmediatesCardSaid : Prop := Claim7.holds Tryd.pinned (.plain (OpenSpec.ofChange arithImmediatesSpec)) arithImmediatesCard

/-- THE TIED CARD OF 'anvillaw01.ArithAtomics'. -/
def arithAtomicsCard : Claim7 := { stood := { row := arithAtomicsRow, standIns := [], harness := (true, "834b6acae4dc8371a9686f74a7608a83f9d1fe58eca74d300725bb27e0b70dd9"), looks := false }, kinds := [], alts := [], laidByText := true, laidKinds := [.data], laidTests := true, laidLooks := .later }
def ArithAtomicsCardSaid : Prop := Claim7.holds Tryd.pinned (.plain (OpenSpec.ofChange arithAtomicsSpec)) arithAtomicsCard

/-- THE TIED CARD OF 'anvillaw01.ArithKnows'. -/
def arithKnowsCard : Claim7 := { stood := { row := arithKnowsRow, standIns := [], harness := (true, "834b6acae4dc8371a9686f74a7608a83f9d1fe58eca74d300725bb27e0b70dd9"), looks := false }, kinds := [], alts := [], laidByText := true, laidKinds := [.data], laidTests := true, laidLooks := .later }
def ArithKnowsCardSaid : Prop := Claim7.holds Tryd.pinned (.plain (OpenSpec.ofChange arithKnowsSpec)) arithKnowsCard

/-- THE TIED CARD OF 'anvillaw01.ArithOrders'. -/
def arithOrdersCard : Claim7 := { stood := { row := arithOrdersRow, standIns := [], harness := (true, "834b6acae4dc8371a9686f74a7608a83f9d1fe58eca74d300725bb27e0b70dd9"), looks := false }, kinds := [], alts := [], laidByText := true, laidKinds := [.data], laidTests := true, laidLooks := .later }
def ArithOrdersCardSaid : Prop := Claim7.holds Tryd.pinned (.plain (OpenSpec.ofChange arithOrdersSpec)) arithOrdersCard

/-- THE SECOND FORM's CARD OF 'anvillaw01.ArithComputes'. -/
def arithComputesUptoCard : Claim7 := { stood := { row := arithComputesUptoRow, standIns := [], harness := (true, "834b6acae4dc8371a9686f74a7608a83f9d1fe58eca74d300725bb27e0b70dd9"), looks := false }, kinds := [], alts := [], laidByText := true, laidKinds := [.data], laidTests := true, laidLooks := .later }
def ArithComputesUptoCardSaid : Prop := Claim7.holds Tryd.pinned (.plain (OpenSpec.upto arithComputesSpec)) arithComputesUptoCard

/-- THE SECOND FORM's CARD OF 'anvillaw01.ArithWhole'. -/
def arithWholeUptoCard : Claim7 := { stood := { row := arithWholeUptoRow, standIns := [], harness := (true, "834b6acae4dc8371a9686f74a7608a83f9d1fe58eca74d300725bb27e0b70dd9"), looks := false }, kinds := [], alts := [], laidByText := true, laidKinds := [.data], laidTests := true, laidLooks := .later }
def ArithWholeUptoCardSaid : Prop := Claim7.holds Tryd.pinned (.plain (OpenSpec.upto arithWholeSpec)) arithWholeUptoCard

/-- THE SECOND FORM's CARD OF 'anvillaw01.ArithDivides'. -/
def arithDividesUptoCard : Claim7 := { stood := { row := arithDividesUptoRow, standIns := [], harness := (true, "834b6acae4dc8371a9686f74a7608a83f9d1fe58eca74d300725bb27e0b70dd9"), looks := false }, kinds := [], alts := [], laidByText := true, laidKinds := [.data], laidTests := true, laidLooks := .later }
def ArithDividesUptoCardSaid : Prop := Claim7.holds Tryd.pinned (.plain (OpenSpec.upto arithDividesSpec)) arithDividesUptoCard

/-- THE SECOND FORM's CARD OF 'anvillaw01.ArithHalves'. -/
def arithHalvesUptoCard : Claim7 := { stood := { row := arithHalvesUptoRow, standIns := [], harness := (true, "834b6acae4dc8371a9686f74a7608a83f9d1fe58eca74d300725bb27e0b70dd9"), looks := false }, kinds := [], alts := [], laidByText := true, laidKinds := [.data], laidTests := true, laidLooks := .later }
def ArithHalvesUptoCardSaid : Prop := Claim7.holds Tryd.pinned (.plain (OpenSpec.upto arithHalvesSpec)) arithHalvesUptoCard

/-- THE SECOND FORM's CARD OF 'anvillaw01.ArithShifts'. -/
def arithShiftsUptoCard : Claim7 := { stood := { row := arithShiftsUptoRow, standIns := [], harness := (true, "834b6acae4dc8371a9686f74a7608a83f9d1fe58eca74d300725bb27e0b70dd9"), looks := false }, kinds := [], alts := [], laidByText := true, laidKinds := [.data], laidTests := true, laidLooks := .later }
def ArithShiftsUptoCardSaid : Prop := Claim7.holds Tryd.pinned (.plain (OpenSpec.upto arithShiftsSpec)) arithShiftsUptoCard

/-- THE SECOND FORM's CARD OF 'anvillaw01.ArithRing'. -/
def arithRingUptoCard : Claim7 := { stood := { row := arithRingUptoRow, standIns := [], harness := (true, "834b6acae4dc8371a9686f74a7608a83f9d1fe58eca74d300725bb27e0b70dd9"), looks := false }, kinds := [], alts := [], laidByText := true, laidKinds := [.data], laidTests := true, laidLooks := .later }
def ArithRingUptoCardSaid : Prop := Claim7.holds Tryd.pinned (.plain (OpenSpec.upto arithRingSpec)) arithRingUptoCard

/-- THE SECOND FORM's CARD OF 'anvillaw01.ArithImmediates'. -/
def arithImmediatesUptoCard : Claim7 := { stood := { row := arithImmediatesUptoRow, standIns := [], harness := (true, "834b6acae4dc8371a9686f74a7608a83f9d1fe58eca74d300725bb27e0b70dd9"), looks := false }, kinds := [], alts := [], laidByText := true, laidKinds := [.data], laidTests := true, laidLooks := .later }
def ArithImmediatesUptoCardSaid : Prop := Claim7.holds Tryd.pinned (.plain (OpenSpec.upto arithImmediatesSpec)) arithImmediatesUptoCard

/-- THE SECOND FORM's CARD OF 'anvillaw01.ArithAtomics'. -/
def arithAtomicsUptoCard : Claim7 := { stood := { row := arithAtomicsUptoRow, standIns := [], harness := (true, "834b6acae4dc8371a9686f74a7608a83f9d1fe58eca74d300725bb27e0b70dd9"), looks := false }, kinds := [], alts := [], laidByText := true, laidKinds := [.data], laidTests := true, laidLooks := .later }
def ArithAtomicsUptoCardSaid : Prop := Claim7.holds Tryd.pinned (.plain (OpenSpec.upto arithAtomicsSpec)) arithAtomicsUptoCard

/-- THE SECOND FORM's CARD OF 'anvillaw01.ArithKnows'. -/
def arithKnowsUptoCard : Claim7 := { stood := { row := arithKnowsUptoRow, standIns := [], harness := (true, "834b6acae4dc8371a9686f74a7608a83f9d1fe58eca74d300725bb27e0b70dd9"), looks := false }, kinds := [], alts := [], laidByText := true, laidKinds := [.data], laidTests := true, laidLooks := .later }
def ArithKnowsUptoCardSaid : Prop := Claim7.holds Tryd.pinned (.plain (OpenSpec.upto arithKnowsSpec)) arithKnowsUptoCard

/-- THE SECOND FORM's CARD OF 'anvillaw01.ArithOrders'. -/
def arithOrdersUptoCard : Claim7 := { stood := { row := arithOrdersUptoRow, standIns := [], harness := (true, "834b6acae4dc8371a9686f74a7608a83f9d1fe58eca74d300725bb27e0b70dd9"), looks := false }, kinds := [], alts := [], laidByText := true, laidKinds := [.data], laidTests := true, laidLooks := .later }
def ArithOrdersUptoCardSaid : Prop := Claim7.holds Tryd.pinned (.plain (OpenSpec.upto arithOrdersSpec)) arithOrdersUptoCard
end Rows
end Go.Proofs.YtdjppkffmeccoaaDoor
