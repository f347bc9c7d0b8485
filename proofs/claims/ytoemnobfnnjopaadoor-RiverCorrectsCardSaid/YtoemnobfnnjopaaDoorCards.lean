/-
  DERIVED. GIVEN WITH THE SEED: THE CARDS: each row of YtoemnobfnnjopaaDoorRows.lean that lists a variable, with what it lists TIED to the program's text (the seventh form; the later family's looks); each row that meets fmt, with fmt's text TOLD by the authors' own Lean function (tested against real Go, not proved from fmt's source: count such statements apart). THE CARD IS WHAT COUNTS. Prove the row's statement (the work); the ties are given (YtoemnobfnnjopaaDoorTie.lean); close each card by the builder's one call (the guide's Derived/Test/ToyasCard.lean, 'card_holds'). Laid BY PROGRAM, IN A SANDBOX (cutbox-door.mjs). By AI agents, Wed Nov 11 2026. No macro, syntax, notation, axiom, sorry.
-/
import Derived.Test.YtoemnobfnnjopaaDoorRows
import GoSem.ClaimSeven
namespace Go.Proofs.YtoemnobfnnjopaaDoor
namespace Rows

/-- THE TIED CARD OF 'hachurelaw06.RiverRuns'. -/
def riverRunsCard : Claim7 := { stood := { row := riverRunsRow, standIns := [], harness := (true, "7cd8b45d523cae906f1cbc524622443c67f7595a0cec8104467387f060d70b46"), looks := false }, kinds := [], alts := [], laidByText := true, laidKinds := [.data, .data], laidTests := true, laidLooks := .later }
def RiverRunsCardSaid : Prop := Claim7.holds Tryd.pinned (.plain (OpenSpec.ofChange riverRunsSpec)) riverRunsCard

/-- THE TIED CARD OF 'hachurelaw06.RiverCorrects'. -/
def riverCorrectsCard : Claim7 := { stood := { row := riverCorrectsRow, standIns := [], harness := (true, "7cd8b45d523cae906f1cbc524622443c67f7595a0cec8104467387f060d70b46"), looks := false }, kinds := [], alts := [], laidByText := true, laidKinds := [.data, .data], laidTests := true, laidLooks := .later }
def RiverCorrectsCardSaid : Prop := Claim7.holds Tryd.pinned (.plain (OpenSpec.ofChange riverCorrectsSpec)) riverCorrectsCard

/-- THE TIED CARD OF 'hachurelaw06.RiverKnown'. -/
def riverKnownCard : Claim7 := { stood := { row := riverKnownRow, standIns := [], harness := (true, "7cd8b45d523cae906f1cbc524622443c67f7595a0cec8104467387f060d70b46"), looks := false }, kinds := [], alts := [], laidByText := true, laidKinds := [.data, .data], laidTests := true, laidLooks := .later }
def RiverKnownCardSaid : Prop := Claim7.holds Tryd.pinned (.plain (OpenSpec.ofChange riverKnownSpec)) riverKnownCard

/-- THE TIED CARD OF 'hachurelaw06.RiverFewest'. -/
def riverFewestCard : Claim7 := { stood := { row := riverFewestRow, standIns := [], harness := (true, "7cd8b45d523cae906f1cbc524622443c67f7595a0cec8104467387f060d70b46"), looks := false }, kinds := [], alts := [], laidByText := true, laidKinds := [.data, .data], laidTests := true, laidLooks := .later }
def RiverFewestCardSaid : Prop := Claim7.holds Tryd.pinned (.plain (OpenSpec.ofChange riverFewestSpec)) riverFewestCard

/-- THE TIED CARD OF 'hachurelaw06.RiverProof'. -/
def riverProofCard : Claim7 := { stood := { row := riverProofRow, standIns := [], harness := (true, "7cd8b45d523cae906f1cbc524622443c67f7595a0cec8104467387f060d70b46"), looks := false }, kinds := [], alts := [], laidByText := true, laidKinds := [.data, .data], laidTests := true, laidLooks := .later }
def RiverProofCardSaid : Prop := Claim7.holds Tryd.pinned (.plain (OpenSpec.ofChange riverProofSpec)) riverProofCard

/-- THE TIED CARD OF 'hachurelaw06.RiverFilled'. -/
def riverFilledCard : Claim7 := { stood := { row := riverFilledRow, standIns := [], harness := (true, "7cd8b45d523cae906f1cbc524622443c67f7595a0cec8104467387f060d70b46"), looks := false }, kinds := [], alts := [], laidByText := true, laidKinds := [.data, .data], laidTests := true, laidLooks := .later }
def RiverFilledCardSaid : Prop := Claim7.holds Tryd.pinned (.plain (OpenSpec.ofChange riverFilledSpec)) riverFilledCard

/-- THE TIED CARD OF 'hachurelaw06.RiverLeast'. -/
def riverLeastCard : Claim7 := { stood := { row := riverLeastRow, standIns := [], harness := (true, "7cd8b45d523cae906f1cbc524622443c67f7595a0cec8104467387f060d70b46"), looks := false }, kinds := [], alts := [], laidByText := true, laidKinds := [.data, .data], laidTests := true, laidLooks := .later }
def RiverLeastCardSaid : Prop := Claim7.holds Tryd.pinned (.plain (OpenSpec.ofChange riverLeastSpec)) riverLeastCard

/-- THE TIED CARD OF 'hachurelaw06.RiverPoured'. -/
def riverPouredCard : Claim7 := { stood := { row := riverPouredRow, standIns := [], harness := (true, "7cd8b45d523cae906f1cbc524622443c67f7595a0cec8104467387f060d70b46"), looks := false }, kinds := [], alts := [], laidByText := true, laidKinds := [.data, .data], laidTests := true, laidLooks := .later }
def RiverPouredCardSaid : Prop := Claim7.holds Tryd.pinned (.plain (OpenSpec.ofChange riverPouredSpec)) riverPouredCard

/-- THE TIED CARD OF 'hachurelaw06.RiverCorrected'. -/
def riverCorrectedCard : Claim7 := { stood := { row := riverCorrectedRow, standIns := [], harness := (true, "7cd8b45d523cae906f1cbc524622443c67f7595a0cec8104467387f060d70b46"), looks := false }, kinds := [], alts := [], laidByText := true, laidKinds := [.data, .data], laidTests := true, laidLooks := .later }
def RiverCorrectedCardSaid : Prop := Claim7.holds Tryd.pinned (.plain (OpenSpec.ofChange riverCorrectedSpec)) riverCorrectedCard

/-- THE TIED CARD OF 'hachurelaw06.RiverHigher'. -/
def riverHigherCard : Claim7 := { stood := { row := riverHigherRow, standIns := [], harness := (true, "7cd8b45d523cae906f1cbc524622443c67f7595a0cec8104467387f060d70b46"), looks := false }, kinds := [], alts := [], laidByText := true, laidKinds := [.data, .data], laidTests := true, laidLooks := .later }
def RiverHigherCardSaid : Prop := Claim7.holds Tryd.pinned (.plain (OpenSpec.ofChange riverHigherSpec)) riverHigherCard

/-- THE TIED CARD OF 'hachurelaw06.RiverSteeper'. -/
def riverSteeperCard : Claim7 := { stood := { row := riverSteeperRow, standIns := [], harness := (true, "7cd8b45d523cae906f1cbc524622443c67f7595a0cec8104467387f060d70b46"), looks := false }, kinds := [], alts := [], laidByText := true, laidKinds := [.data, .data], laidTests := true, laidLooks := .later }
def RiverSteeperCardSaid : Prop := Claim7.holds Tryd.pinned (.plain (OpenSpec.ofChange riverSteeperSpec)) riverSteeperCard

/-- THE SECOND FORM's CARD OF 'hachurelaw06.RiverRuns'. -/
def riverRunsUptoCard : Claim7 := { stood := { row := riverRunsUptoRow, standIns := [], harness := (true, "7cd8b45d523cae906f1cbc524622443c67f7595a0cec8104467387f060d70b46"), looks := false }, kinds := [], alts := [], laidByText := true, laidKinds := [.data, .data], laidTests := true, laidLooks := .later }
def RiverRunsUptoCardSaid : Prop := Claim7.holds Tryd.pinned (.plain (OpenSpec.upto riverRunsSpec)) riverRunsUptoCard

/-- THE SECOND FORM's CARD OF 'hachurelaw06.RiverCorrects'. -/
def riverCorrectsUptoCard : Claim7 := { stood := { row := riverCorrectsUptoRow, standIns := [], harness := (true, "7cd8b45d523cae906f1cbc524622443c67f7595a0cec8104467387f060d70b46"), looks := false }, kinds := [], alts := [], laidByText := true, laidKinds := [.data, .data], laidTests := true, laidLooks := .later }
def RiverCorrectsUptoCardSaid : Prop := Claim7.holds Tryd.pinned (.plain (OpenSpec.upto riverCorrectsSpec)) riverCorrectsUptoCard

/-- THE SECOND FORM's CARD OF 'hachurelaw06.RiverKnown'. -/
def riverKnownUptoCard : Claim7 := { stood := { row := riverKnownUptoRow, standIns := [], harness := (true, "7cd8b45d523cae906f1cbc524622443c67f7595a0cec8104467387f060d70b46"), looks := false }, kinds := [], alts := [], laidByText := true, laidKinds := [.data, .data], laidTests := true, laidLooks := .later }
def RiverKnownUptoCardSaid : Prop := Claim7.holds Tryd.pinned (.plain (OpenSpec.upto riverKnownSpec)) riverKnownUptoCard

/-- THE SECOND FORM's CARD OF 'hachurelaw06.RiverFewest'. -/
def riverFewestUptoCard : Claim7 := { stood := { row := riverFewestUptoRow, standIns := [], harness := (true, "7cd8b45d523cae906f1cbc524622443c67f7595a0cec8104467387f060d70b46"), looks := false }, kinds := [], alts := [], laidByText := true, laidKinds := [.data, .data], laidTests := true, laidLooks := .later }
def RiverFewestUptoCardSaid : Prop := Claim7.holds Tryd.pinned (.plain (OpenSpec.upto riverFewestSpec)) riverFewestUptoCard

/-- THE SECOND FORM's CARD OF 'hachurelaw06.RiverProof'. -/
def riverProofUptoCard : Claim7 := { stood := { row := riverProofUptoRow, standIns := [], harness := (true, "7cd8b45d523cae906f1cbc524622443c67f7595a0cec8104467387f060d70b46"), looks := false }, kinds := [], alts := [], laidByText := true, laidKinds := [.data, .data], laidTests := true, laidLooks := .later }
def RiverProofUptoCardSaid : Prop := Claim7.holds Tryd.pinned (.plain (OpenSpec.upto riverProofSpec)) riverProofUptoCard

/-- THE SECOND FORM's CARD OF 'hachurelaw06.RiverFilled'. -/
def riverFilledUptoCard : Claim7 := { stood := { row := riverFilledUptoRow, standIns := [], harness := (true, "7cd8b45d523cae906f1cbc524622443c67f7595a0cec8104467387f060d70b46"), looks := false }, kinds := [], alts := [], laidByText := true, laidKinds := [.data, .data], laidTests := true, laidLooks := .later }
def RiverFilledUptoCardSaid : Prop := Claim7.holds Tryd.pinned (.plain (OpenSpec.upto riverFilledSpec)) riverFilledUptoCard

/-- THE SECOND FORM's CARD OF 'hachurelaw06.RiverLeast'. -/
def riverLeastUptoCard : Claim7 := { stood := { row := riverLeastUptoRow, standIns := [], harness := (true, "7cd8b45d523cae906f1cbc524622443c67f7595a0cec8104467387f060d70b46"), looks := false }, kinds := [], alts := [], laidByText := true, laidKinds := [.data, .data], laidTests := true, laidLooks := .later }
def RiverLeastUptoCardSaid : Prop := Claim7.holds Tryd.pinned (.plain (OpenSpec.upto riverLeastSpec)) riverLeastUptoCard

/-- THE SECOND FORM's CARD OF 'hachurelaw06.RiverPoured'. -/
def riverPouredUptoCard : Claim7 := { stood := { row := riverPouredUptoRow, standIns := [], harness := (true, "7cd8b45d523cae906f1cbc524622443c67f7595a0cec8104467387f060d70b46"), looks := false }, kinds := [], alts := [], laidByText := true, laidKinds := [.data, .data], laidTests := true, laidLooks := .later }
def RiverPouredUptoCardSaid : Prop := Claim7.holds Tryd.pinned (.plain (OpenSpec.upto riverPouredSpec)) riverPouredUptoCard

/-- THE SECOND FORM's CARD OF 'hachurelaw06.RiverCorrected'. -/
def riverCorrectedUptoCard : Claim7 := { stood := { row := riverCorrectedUptoRow, standIns := [], harness := (true, "7cd8b45d523cae906f1cbc524622443c67f7595a0cec8104467387f060d70b46"), looks := false }, kinds := [], alts := [], laidByText := true, laidKinds := [.data, .data], laidTests := true, laidLooks := .later }
def RiverCorrectedUptoCardSaid : Prop := Claim7.holds Tryd.pinned (.plain (OpenSpec.upto riverCorrectedSpec)) riverCorrectedUptoCard

/-- THE SECOND FORM's CARD OF 'hachurelaw06.RiverHigher'. -/
def riverHigherUptoCard : Claim7 := { stood := { row := riverHigherUptoRow, standIns := [], harness := (true, "7cd8b45d523cae906f1cbc524622443c67f7595a0cec8104467387f060d70b46"), looks := false }, kinds := [], alts := [], laidByText := true, laidKinds := [.data, .data], laidTests := true, laidLooks := .later }
def RiverHigherUptoCardSaid : Prop := Claim7.holds Tryd.pinned (.plain (OpenSpec.upto riverHigherSpec)) riverHigherUptoCard

/-- THE SECOND FORM's CARD OF 'hachurelaw06.RiverSteeper'. -/
def riverSteeperUptoCard : Claim7 := { stood := { row := riverSteeperUptoRow, standIns := [], harness := (true, "7cd8b45d523cae906f1cbc524622443c67f7595a0cec8104467387f060d70b46"), looks := false }, kinds := [], alts := [], laidByText := true, laidKinds := [.data, .data], laidTests := true, laidLooks := .later }
def RiverSteeperUptoCardSaid : Prop := Claim7.holds Tryd.pinned (.plain (OpenSpec.upto riverSteeperSpec)) riverSteeperUptoCard
end Rows
end Go.Proofs.YtoemnobfnnjopaaDoor
