/-
  DERIVED. GIVEN WITH THE SEED: THE CARDS: each row of YtnhhfkgldoeifaaGreatDoorRows.lean that lists a variable, with what it lists TIED to the program's text (the seventh form; the later family's looks); each row that meets fmt, with fmt's text TOLD by the authors' own Lean function (tested against real Go, not proved from fmt's source: count such statements apart). THE CARD IS WHAT COUNTS. Prove the row's statement (the work); the ties are given (YtnhhfkgldoeifaaGreatDoorTie.lean); close each card by the builder's one call (the guide's Derived/Test/ToyasCard.lean, 'card_holds'). Laid BY PROGRAM, IN A SANDBOX (cutbox-door.mjs). By AI agents, Wed Nov 11 2026. No macro, syntax, notation, axiom, sorry.
-/
import Derived.Test.YtnhhfkgldoeifaaGreatDoorRows
import GoSem.ClaimSeven
namespace Go.Proofs.YtnhhfkgldoeifaaGreatDoor
namespace Rows

/-- THE TIED CARD OF 'hachuretop.TopHeads'. -/
def topHeadsCard : Claim7 := { stood := { row := topHeadsRow, standIns := [], harness := (true, "a2a38771b39c5ae561e727381d1a8a3862d003bc533e5b925a0aa908a97eb5ba"), looks := true }, kinds := [], alts := [], laidByText := true, laidKinds := [.data, .data, .data, .data, .sentinel, .sentinel, .pinned], laidTests := true, laidLooks := .later }
def TopHeadsCardSaid : Prop := Claim7.holds Tryz.pinned (.plain (OpenSpec.ofChange topHeadsSpec)) topHeadsCard

/-- THE SECOND FORM's CARD OF 'hachuretop.TopHeads'. -/
def topHeadsUptoCard : Claim7 := { stood := { row := topHeadsUptoRow, standIns := [], harness := (true, "a2a38771b39c5ae561e727381d1a8a3862d003bc533e5b925a0aa908a97eb5ba"), looks := true }, kinds := [], alts := [], laidByText := true, laidKinds := [.data, .data, .data, .data, .sentinel, .sentinel, .pinned], laidTests := true, laidLooks := .later }
def TopHeadsUptoCardSaid : Prop := Claim7.holds Tryz.pinned (.plain (OpenSpec.upto topHeadsSpec)) topHeadsUptoCard
end Rows
end Go.Proofs.YtnhhfkgldoeifaaGreatDoor
