/-
  DERIVED. GIVEN WITH THE SEED: THE CARDS: each row of YtiibhggjlandmaaDoorRows.lean that lists a variable, with what it lists TIED to the program's text (the seventh form; the later family's looks); each row that meets fmt, with fmt's text TOLD by the authors' own Lean function (tested against real Go, not proved from fmt's source: count such statements apart). THE CARD IS WHAT COUNTS. Prove the row's statement (the work); the ties are given (YtiibhggjlandmaaDoorTie.lean); close each card by the builder's one call (the guide's Derived/Test/ToyasCard.lean, 'card_holds'). Laid BY PROGRAM, IN A SANDBOX (cutbox-door.mjs). By AI agents, Wed Nov 11 2026. No macro, syntax, notation, axiom, sorry.
-/
import Derived.Test.YtiibhggjlandmaaDoorRows
import GoSem.ClaimSeven
namespace Go.Proofs.YtiibhggjlandmaaDoor
namespace Rows

/-- THE TIED CARD OF 'anvillaw06.EncodeChecks'. -/
def encodeChecksCard : Claim7 := { stood := { row := encodeChecksRow, standIns := [], harness := (true, "db5e97fba3465853cac8ebdd909c2a8cc8fc99323719d07098f91ec27f48695a"), looks := false }, kinds := [], alts := [], laidByText := true, laidKinds := [.data], laidTests := true, laidLooks := .later }
def EncodeChecksCardSaid : Prop := Claim7.holds Tryd.pinned (.plain (OpenSpec.ofChange encodeChecksSpec)) encodeChecksCard

/-- THE TIED CARD OF 'anvillaw06.EncodeWords'. -/
def encodeWordsCard : Claim7 := { stood := { row := encodeWordsRow, standIns := [], harness := (true, "db5e97fba3465853cac8ebdd909c2a8cc8fc99323719d07098f91ec27f48695a"), looks := false }, kinds := [], alts := [], laidByText := true, laidKinds := [.data], laidTests := true, laidLooks := .later }
def EncodeWordsCardSaid : Prop := Claim7.holds Tryd.pinned (.plain (OpenSpec.ofChange encodeWordsSpec)) encodeWordsCard

/-- THE TIED CARD OF 'anvillaw06.EncodeThere'. -/
def encodeThereCard : Claim7 := { stood := { row := encodeThereRow, standIns := [], harness := (true, "db5e97fba3465853cac8ebdd909c2a8cc8fc99323719d07098f91ec27f48695a"), looks := false }, kinds := [], alts := [], laidByText := true, laidKinds := [.data], laidTests := true, laidLooks := .later }
def EncodeThereCardSaid : Prop := Claim7.holds Tryd.pinned (.plain (OpenSpec.ofChange encodeThereSpec)) encodeThereCard

/-- THE TIED CARD OF 'anvillaw06.EncodeBack'. -/
def encodeBackCard : Claim7 := { stood := { row := encodeBackRow, standIns := [], harness := (true, "db5e97fba3465853cac8ebdd909c2a8cc8fc99323719d07098f91ec27f48695a"), looks := false }, kinds := [], alts := [], laidByText := true, laidKinds := [.data], laidTests := true, laidLooks := .later }
def EncodeBackCardSaid : Prop := Claim7.holds Tryd.pinned (.plain (OpenSpec.ofChange encodeBackSpec)) encodeBackCard

/-- THE TIED CARD OF 'anvillaw06.EncodeLeast'. -/
def encodeLeastCard : Claim7 := { stood := { row := encodeLeastRow, standIns := [], harness := (true, "db5e97fba3465853cac8ebdd909c2a8cc8fc99323719d07098f91ec27f48695a"), looks := false }, kinds := [], alts := [], laidByText := true, laidKinds := [.data], laidTests := true, laidLooks := .later }
def EncodeLeastCardSaid : Prop := Claim7.holds Tryd.pinned (.plain (OpenSpec.ofChange encodeLeastSpec)) encodeLeastCard

/-- THE TIED CARD OF 'anvillaw06.EncodeApart'. -/
def encodeApartCard : Claim7 := { stood := { row := encodeApartRow, standIns := [], harness := (true, "db5e97fba3465853cac8ebdd909c2a8cc8fc99323719d07098f91ec27f48695a"), looks := false }, kinds := [], alts := [], laidByText := true, laidKinds := [.data], laidTests := true, laidLooks := .later }
def EncodeApartCardSaid : Prop := Claim7.holds Tryd.pinned (.plain (OpenSpec.ofChange encodeApartSpec)) encodeApartCard

/-- THE TIED CARD OF 'anvillaw06.EncodeCuts'. -/
def encodeCutsCard : Claim7 := { stood := { row := encodeCutsRow, standIns := [], harness := (true, "db5e97fba3465853cac8ebdd909c2a8cc8fc99323719d07098f91ec27f48695a"), looks := false }, kinds := [], alts := [], laidByText := true, laidKinds := [.data], laidTests := true, laidLooks := .later }
def EncodeCutsCardSaid : Prop := Claim7.holds Tryd.pinned (.plain (OpenSpec.ofChange encodeCutsSpec)) encodeCutsCard

/-- THE SECOND FORM's CARD OF 'anvillaw06.EncodeChecks'. -/
def encodeChecksUptoCard : Claim7 := { stood := { row := encodeChecksUptoRow, standIns := [], harness := (true, "db5e97fba3465853cac8ebdd909c2a8cc8fc99323719d07098f91ec27f48695a"), looks := false }, kinds := [], alts := [], laidByText := true, laidKinds := [.data], laidTests := true, laidLooks := .later }
def EncodeChecksUptoCardSaid : Prop := Claim7.holds Tryd.pinned (.plain (OpenSpec.upto encodeChecksSpec)) encodeChecksUptoCard

/-- THE SECOND FORM's CARD OF 'anvillaw06.EncodeWords'. -/
def encodeWordsUptoCard : Claim7 := { stood := { row := encodeWordsUptoRow, standIns := [], harness := (true, "db5e97fba3465853cac8ebdd909c2a8cc8fc99323719d07098f91ec27f48695a"), looks := false }, kinds := [], alts := [], laidByText := true, laidKinds := [.data], laidTests := true, laidLooks := .later }
def EncodeWordsUptoCardSaid : Prop := Claim7.holds Tryd.pinned (.plain (OpenSpec.upto encodeWordsSpec)) encodeWordsUptoCard

/-- THE SECOND FORM's CARD OF 'anvillaw06.EncodeThere'. -/
def encodeThereUptoCard : Claim7 := { stood := { row := encodeThereUptoRow, standIns := [], harness := (true, "db5e97fba3465853cac8ebdd909c2a8cc8fc99323719d07098f91ec27f48695a"), looks := false }, kinds := [], alts := [], laidByText := true, laidKinds := [.data], laidTests := true, laidLooks := .later }
def EncodeThereUptoCardSaid : Prop := Claim7.holds Tryd.pinned (.plain (OpenSpec.upto encodeThereSpec)) encodeThereUptoCard

/-- THE SECOND FORM's CARD OF 'anvillaw06.EncodeBack'. -/
def encodeBackUptoCard : Claim7 := { stood := { row := encodeBackUptoRow, standIns := [], harness := (true, "db5e97fba3465853cac8ebdd909c2a8cc8fc99323719d07098f91ec27f48695a"), looks := false }, kinds := [], alts := [], laidByText := true, laidKinds := [.data], laidTests := true, laidLooks := .later }
def EncodeBackUptoCardSaid : Prop := Claim7.holds Tryd.pinned (.plain (OpenSpec.upto encodeBackSpec)) encodeBackUptoCard

/-- THE SECOND FORM's CARD OF 'anvillaw06.EncodeLeast'. -/
def encodeLeastUptoCard : Claim7 := { stood := { row := encodeLeastUptoRow, standIns := [], harness := (true, "db5e97fba3465853cac8ebdd909c2a8cc8fc99323719d07098f91ec27f48695a"), looks := false }, kinds := [], alts := [], laidByText := true, laidKinds := [.data], laidTests := true, laidLooks := .later }
def EncodeLeastUptoCardSaid : Prop := Claim7.holds Tryd.pinned (.plain (OpenSpec.upto encodeLeastSpec)) encodeLeastUptoCard

/-- THE SECOND FORM's CARD OF 'anvillaw06.EncodeApart'. -/
def encodeApartUptoCard : Claim7 := { stood := { row := encodeApartUptoRow, standIns := [], harness := (true, "db5e97fba3465853cac8ebdd909c2a8cc8fc99323719d07098f91ec27f48695a"), looks := false }, kinds := [], alts := [], laidByText := true, laidKinds := [.data], laidTests := true, laidLooks := .later }
def EncodeApartUptoCardSaid : Prop := Claim7.holds Tryd.pinned (.plain (OpenSpec.upto encodeApartSpec)) encodeApartUptoCard

/-- THE SECOND FORM's CARD OF 'anvillaw06.EncodeCuts'. -/
def encodeCutsUptoCard : Claim7 := { stood := { row := encodeCutsUptoRow, standIns := [], harness := (true, "db5e97fba3465853cac8ebdd909c2a8cc8fc99323719d07098f91ec27f48695a"), looks := false }, kinds := [], alts := [], laidByText := true, laidKinds := [.data], laidTests := true, laidLooks := .later }
def EncodeCutsUptoCardSaid : Prop := Claim7.holds Tryd.pinned (.plain (OpenSpec.upto encodeCutsSpec)) encodeCutsUptoCard
end Rows
end Go.Proofs.YtiibhggjlandmaaDoor
