/-
  NARROWER THAN 'FOR EVERY INPUT', by the rows' own cells (each row's printed sentence says how): RiverRuns: laid · RiverCorrects: laid · RiverKnown: laid · RiverFewest: laid · RiverProof: laid · RiverFilled: laid · RiverLeast: laid · RiverPoured: laid · RiverCorrected: laid · RiverHigher: laid · RiverSteeper: laid.
  DERIVED. THE GIVEN ROWS OF THIS SEAT. 11 by the template 'for every input the law returns true; each argument reads behind the call as it read before'; 0 by the template 'total and deterministic' (their statements: YtoemnobfnnjopaaDoorTotals.lean).
  GIVEN WITH THE SEED: the statements are not yours to turn. If you find one false, say at which input.
  Laid BY PROGRAM, IN A SANDBOX (cutbox-rows.mjs): the forced cells as the released guide's own fill.sh prints them over the translation a4ce3cc4157ba940… (all of the seat's roots in one cut). By AI agents, Wed Nov 11 2026. No macro, syntax, notation, axiom, sorry.
-/
import Derived.Test.YtoemnobfnnjopaaDoorChecked
import GoSem.Claim
import GoSem.ClaimJoined
import GoSem.ClaimMapViews
import Derived.JoinedTies
import Derived.KernelRfl
namespace Go.Proofs.YtoemnobfnnjopaaDoor
/- THE CELL 'sum', in the pinned program and in every row, IS THE sha256 OF THE DUMP (.gsa) THAT YtoemnobfnnjopaaDoorProg.lean LOADS. Nothing in Lean hashes anything: it is a label: what it is worth is what the hold of that sum in a sandbox is worth. -/
noncomputable def Tryd.pinned : Pinned := { name := "ytoemnobfnnjopaadoor", sum := "a4ce3cc4157ba9402a59c7ccb7585c929bcaf78fb8e6423952f79d4b3620906d", checked := Tryd.checked }
namespace Rows
def none {H : Type} : Left H := { results := [], args := [] }

/- WHAT THE LISTED PACKAGE-LEVEL VARIABLES READ AS WHEN THE CALL BEGINS. Each datum BY PROGRAM (the guide's laid-datum.mjs) off the statement by which the dump's own 'gosem.cut.vars' lays the variable. In a bare row this is a premise. The card (YtoemnobfnnjopaaDoorCards.lean) ties it to the program's text. -/
def laid_math_bits_deBruijn32tab {H : Type} : DataW H := .agg [.lit (.int .u8 0), .lit (.int .u8 1), .lit (.int .u8 28), .lit (.int .u8 2), .lit (.int .u8 29), .lit (.int .u8 14), .lit (.int .u8 24), .lit (.int .u8 3), .lit (.int .u8 30), .lit (.int .u8 22), .lit (.int .u8 20), .lit (.int .u8 15), .lit (.int .u8 25), .lit (.int .u8 17), .lit (.int .u8 4), .lit (.int .u8 8), .lit (.int .u8 31), .lit (.int .u8 27), .lit (.int .u8 13), .lit (.int .u8 23), .lit (.int .u8 21), .lit (.int .u8 19), .lit (.int .u8 16), .lit (.int .u8 7), .lit (.int .u8 26), .lit (.int .u8 12), .lit (.int .u8 18), .lit (.int .u8 6), .lit (.int .u8 11), .lit (.int .u8 5), .lit (.int .u8 10), .lit (.int .u8 9)]
def laid_math_bits_deBruijn64tab {H : Type} : DataW H := .agg [.lit (.int .u8 0), .lit (.int .u8 1), .lit (.int .u8 56), .lit (.int .u8 2), .lit (.int .u8 57), .lit (.int .u8 49), .lit (.int .u8 28), .lit (.int .u8 3), .lit (.int .u8 61), .lit (.int .u8 58), .lit (.int .u8 42), .lit (.int .u8 50), .lit (.int .u8 38), .lit (.int .u8 29), .lit (.int .u8 17), .lit (.int .u8 4), .lit (.int .u8 62), .lit (.int .u8 47), .lit (.int .u8 59), .lit (.int .u8 36), .lit (.int .u8 45), .lit (.int .u8 43), .lit (.int .u8 51), .lit (.int .u8 22), .lit (.int .u8 53), .lit (.int .u8 39), .lit (.int .u8 33), .lit (.int .u8 30), .lit (.int .u8 24), .lit (.int .u8 18), .lit (.int .u8 12), .lit (.int .u8 5), .lit (.int .u8 63), .lit (.int .u8 55), .lit (.int .u8 48), .lit (.int .u8 27), .lit (.int .u8 60), .lit (.int .u8 41), .lit (.int .u8 37), .lit (.int .u8 16), .lit (.int .u8 46), .lit (.int .u8 35), .lit (.int .u8 44), .lit (.int .u8 21), .lit (.int .u8 52), .lit (.int .u8 32), .lit (.int .u8 23), .lit (.int .u8 11), .lit (.int .u8 54), .lit (.int .u8 26), .lit (.int .u8 40), .lit (.int .u8 15), .lit (.int .u8 34), .lit (.int .u8 20), .lit (.int .u8 31), .lit (.int .u8 10), .lit (.int .u8 25), .lit (.int .u8 14), .lit (.int .u8 19), .lit (.int .u8 9), .lit (.int .u8 13), .lit (.int .u8 8), .lit (.int .u8 7), .lit (.int .u8 6)]

/-- 'hachurelaw06.RiverRuns': WHATEVER THE INPUT: true; the input reads as it did. -/
def riverRunsSpec : ChangeSpec := { name := "riverRuns", fn := fun _ => fun
  | [d1, d2] => { results := [.lit (.bool true)], args := [d1, d2] }
  | _ => none }
def riverRunsRow : OpenClaim := { program := "ytoemnobfnnjopaadoor", sum := "a4ce3cc4157ba9402a59c7ccb7585c929bcaf78fb8e6423952f79d4b3620906d", func := "hachure/hachurelaw06.RiverRuns", spec := "riverRuns", unfollowed := true, recurses := true, named := ["math/bits.deBruijn32tab", "math/bits.deBruijn64tab"], plainKeys := false, apart := false, laid := [("math/bits.deBruijn32tab", laid_math_bits_deBruijn32tab), ("math/bits.deBruijn64tab", laid_math_bits_deBruijn64tab)] }
def RiverRunsSaid : Prop := riverRunsRow.holds Tryd.pinned (OpenSpec.ofChange riverRunsSpec)

/-- ITS FALSE NEIGHBOUR: 'it returns false'. Refute it at one input. -/
def riverRunsWrong : ChangeSpec := { name := "riverRuns", fn := fun _ => fun
  | [d1, d2] => { results := [.lit (.bool false)], args := [d1, d2] }
  | _ => none }
def RiverRunsWrongFalsely : Prop := riverRunsRow.holds Tryd.pinned (OpenSpec.ofChange riverRunsWrong)

/-- 'hachurelaw06.RiverCorrects': WHATEVER THE INPUT: true; the input reads as it did. -/
def riverCorrectsSpec : ChangeSpec := { name := "riverCorrects", fn := fun _ => fun
  | [d] => { results := [.lit (.bool true)], args := [d] }
  | _ => none }
def riverCorrectsRow : OpenClaim := { program := "ytoemnobfnnjopaadoor", sum := "a4ce3cc4157ba9402a59c7ccb7585c929bcaf78fb8e6423952f79d4b3620906d", func := "hachure/hachurelaw06.RiverCorrects", spec := "riverCorrects", unfollowed := true, recurses := true, named := ["math/bits.deBruijn32tab", "math/bits.deBruijn64tab"], plainKeys := false, apart := false, laid := [("math/bits.deBruijn32tab", laid_math_bits_deBruijn32tab), ("math/bits.deBruijn64tab", laid_math_bits_deBruijn64tab)] }
def RiverCorrectsSaid : Prop := riverCorrectsRow.holds Tryd.pinned (OpenSpec.ofChange riverCorrectsSpec)

/-- ITS FALSE NEIGHBOUR: 'it returns false'. Refute it at one input. -/
def riverCorrectsWrong : ChangeSpec := { name := "riverCorrects", fn := fun _ => fun
  | [d] => { results := [.lit (.bool false)], args := [d] }
  | _ => none }
def RiverCorrectsWrongFalsely : Prop := riverCorrectsRow.holds Tryd.pinned (OpenSpec.ofChange riverCorrectsWrong)

/-- 'hachurelaw06.RiverKnown': WHATEVER THE INPUT: true; the input reads as it did. -/
def riverKnownSpec : ChangeSpec := { name := "riverKnown", fn := fun _ => fun
  | [] => { results := [.lit (.bool true)], args := [] }
  | _ => none }
def riverKnownRow : OpenClaim := { program := "ytoemnobfnnjopaadoor", sum := "a4ce3cc4157ba9402a59c7ccb7585c929bcaf78fb8e6423952f79d4b3620906d", func := "hachure/hachurelaw06.RiverKnown", spec := "riverKnown", unfollowed := true, recurses := true, named := ["math/bits.deBruijn32tab", "math/bits.deBruijn64tab"], plainKeys := false, apart := false, laid := [("math/bits.deBruijn32tab", laid_math_bits_deBruijn32tab), ("math/bits.deBruijn64tab", laid_math_bits_deBruijn64tab)] }
def RiverKnownSaid : Prop := riverKnownRow.holds Tryd.pinned (OpenSpec.ofChange riverKnownSpec)

/-- ITS FALSE NEIGHBOUR: 'it returns false'. Refute it at one input. -/
def riverKnownWrong : ChangeSpec := { name := "riverKnown", fn := fun _ => fun
  | [] => { results := [.lit (.bool false)], args := [] }
  | _ => none }
def RiverKnownWrongFalsely : Prop := riverKnownRow.holds Tryd.pinned (OpenSpec.ofChange riverKnownWrong)

/-- 'hachurelaw06.RiverFewest': WHATEVER THE INPUT: true; the input reads as it did. -/
def riverFewestSpec : ChangeSpec := { name := "riverFewest", fn := fun _ => fun
  | [d1, d2, d3] => { results := [.lit (.bool true)], args := [d1, d2, d3] }
  | _ => none }
def riverFewestRow : OpenClaim := { program := "ytoemnobfnnjopaadoor", sum := "a4ce3cc4157ba9402a59c7ccb7585c929bcaf78fb8e6423952f79d4b3620906d", func := "hachure/hachurelaw06.RiverFewest", spec := "riverFewest", unfollowed := true, recurses := true, named := ["math/bits.deBruijn32tab", "math/bits.deBruijn64tab"], plainKeys := false, apart := false, laid := [("math/bits.deBruijn32tab", laid_math_bits_deBruijn32tab), ("math/bits.deBruijn64tab", laid_math_bits_deBruijn64tab)] }
def RiverFewestSaid : Prop := riverFewestRow.holds Tryd.pinned (OpenSpec.ofChange riverFewestSpec)

/-- ITS FALSE NEIGHBOUR: 'it returns false'. Refute it at one input. -/
def riverFewestWrong : ChangeSpec := { name := "riverFewest", fn := fun _ => fun
  | [d1, d2, d3] => { results := [.lit (.bool false)], args := [d1, d2, d3] }
  | _ => none }
def RiverFewestWrongFalsely : Prop := riverFewestRow.holds Tryd.pinned (OpenSpec.ofChange riverFewestWrong)

/-- 'hachurelaw06.RiverProof': WHATEVER THE INPUT: true; the input reads as it did. -/
def riverProofSpec : ChangeSpec := { name := "riverProof", fn := fun _ => fun
  | [d1, d2] => { results := [.lit (.bool true)], args := [d1, d2] }
  | _ => none }
def riverProofRow : OpenClaim := { program := "ytoemnobfnnjopaadoor", sum := "a4ce3cc4157ba9402a59c7ccb7585c929bcaf78fb8e6423952f79d4b3620906d", func := "hachure/hachurelaw06.RiverProof", spec := "riverProof", unfollowed := true, recurses := true, named := ["math/bits.deBruijn32tab", "math/bits.deBruijn64tab"], plainKeys := false, apart := false, laid := [("math/bits.deBruijn32tab", laid_math_bits_deBruijn32tab), ("math/bits.deBruijn64tab", laid_math_bits_deBruijn64tab)] }
def RiverProofSaid : Prop := riverProofRow.holds Tryd.pinned (OpenSpec.ofChange riverProofSpec)

/-- ITS FALSE NEIGHBOUR: 'it returns false'. Refute it at one input. -/
def riverProofWrong : ChangeSpec := { name := "riverProof", fn := fun _ => fun
  | [d1, d2] => { results := [.lit (.bool false)], args := [d1, d2] }
  | _ => none }
def RiverProofWrongFalsely : Prop := riverProofRow.holds Tryd.pinned (OpenSpec.ofChange riverProofWrong)

/-- 'hachurelaw06.RiverFilled': WHATEVER THE INPUT: true; the input reads as it did. -/
def riverFilledSpec : ChangeSpec := { name := "riverFilled", fn := fun _ => fun
  | [d1, d2, d3] => { results := [.lit (.bool true)], args := [d1, d2, d3] }
  | _ => none }
def riverFilledRow : OpenClaim := { program := "ytoemnobfnnjopaadoor", sum := "a4ce3cc4157ba9402a59c7ccb7585c929bcaf78fb8e6423952f79d4b3620906d", func := "hachure/hachurelaw06.RiverFilled", spec := "riverFilled", unfollowed := true, recurses := true, named := ["math/bits.deBruijn32tab", "math/bits.deBruijn64tab"], plainKeys := false, apart := false, laid := [("math/bits.deBruijn32tab", laid_math_bits_deBruijn32tab), ("math/bits.deBruijn64tab", laid_math_bits_deBruijn64tab)] }
def RiverFilledSaid : Prop := riverFilledRow.holds Tryd.pinned (OpenSpec.ofChange riverFilledSpec)

/-- ITS FALSE NEIGHBOUR: 'it returns false'. Refute it at one input. -/
def riverFilledWrong : ChangeSpec := { name := "riverFilled", fn := fun _ => fun
  | [d1, d2, d3] => { results := [.lit (.bool false)], args := [d1, d2, d3] }
  | _ => none }
def RiverFilledWrongFalsely : Prop := riverFilledRow.holds Tryd.pinned (OpenSpec.ofChange riverFilledWrong)

/-- 'hachurelaw06.RiverLeast': WHATEVER THE INPUT: true; the input reads as it did. -/
def riverLeastSpec : ChangeSpec := { name := "riverLeast", fn := fun _ => fun
  | [d1, d2] => { results := [.lit (.bool true)], args := [d1, d2] }
  | _ => none }
def riverLeastRow : OpenClaim := { program := "ytoemnobfnnjopaadoor", sum := "a4ce3cc4157ba9402a59c7ccb7585c929bcaf78fb8e6423952f79d4b3620906d", func := "hachure/hachurelaw06.RiverLeast", spec := "riverLeast", unfollowed := true, recurses := true, named := ["math/bits.deBruijn32tab", "math/bits.deBruijn64tab"], plainKeys := false, apart := false, laid := [("math/bits.deBruijn32tab", laid_math_bits_deBruijn32tab), ("math/bits.deBruijn64tab", laid_math_bits_deBruijn64tab)] }
def RiverLeastSaid : Prop := riverLeastRow.holds Tryd.pinned (OpenSpec.ofChange riverLeastSpec)

/-- ITS FALSE NEIGHBOUR: 'it returns false'. Refute it at one input. -/
def riverLeastWrong : ChangeSpec := { name := "riverLeast", fn := fun _ => fun
  | [d1, d2] => { results := [.lit (.bool false)], args := [d1, d2] }
  | _ => none }
def RiverLeastWrongFalsely : Prop := riverLeastRow.holds Tryd.pinned (OpenSpec.ofChange riverLeastWrong)

/-- 'hachurelaw06.RiverPoured': WHATEVER THE INPUT: true; the input reads as it did. -/
def riverPouredSpec : ChangeSpec := { name := "riverPoured", fn := fun _ => fun
  | [d1, d2] => { results := [.lit (.bool true)], args := [d1, d2] }
  | _ => none }
def riverPouredRow : OpenClaim := { program := "ytoemnobfnnjopaadoor", sum := "a4ce3cc4157ba9402a59c7ccb7585c929bcaf78fb8e6423952f79d4b3620906d", func := "hachure/hachurelaw06.RiverPoured", spec := "riverPoured", unfollowed := true, recurses := true, named := ["math/bits.deBruijn32tab", "math/bits.deBruijn64tab"], plainKeys := false, apart := false, laid := [("math/bits.deBruijn32tab", laid_math_bits_deBruijn32tab), ("math/bits.deBruijn64tab", laid_math_bits_deBruijn64tab)] }
def RiverPouredSaid : Prop := riverPouredRow.holds Tryd.pinned (OpenSpec.ofChange riverPouredSpec)

/-- ITS FALSE NEIGHBOUR: 'it returns false'. Refute it at one input. -/
def riverPouredWrong : ChangeSpec := { name := "riverPoured", fn := fun _ => fun
  | [d1, d2] => { results := [.lit (.bool false)], args := [d1, d2] }
  | _ => none }
def RiverPouredWrongFalsely : Prop := riverPouredRow.holds Tryd.pinned (OpenSpec.ofChange riverPouredWrong)

/-- 'hachurelaw06.RiverCorrected': WHATEVER THE INPUT: true; the input reads as it did. -/
def riverCorrectedSpec : ChangeSpec := { name := "riverCorrected", fn := fun _ => fun
  | [d1, d2, d3] => { results := [.lit (.bool true)], args := [d1, d2, d3] }
  | _ => none }
def riverCorrectedRow : OpenClaim := { program := "ytoemnobfnnjopaadoor", sum := "a4ce3cc4157ba9402a59c7ccb7585c929bcaf78fb8e6423952f79d4b3620906d", func := "hachure/hachurelaw06.RiverCorrected", spec := "riverCorrected", unfollowed := true, recurses := true, named := ["math/bits.deBruijn32tab", "math/bits.deBruijn64tab"], plainKeys := false, apart := false, laid := [("math/bits.deBruijn32tab", laid_math_bits_deBruijn32tab), ("math/bits.deBruijn64tab", laid_math_bits_deBruijn64tab)] }
def RiverCorrectedSaid : Prop := riverCorrectedRow.holds Tryd.pinned (OpenSpec.ofChange riverCorrectedSpec)

/-- ITS FALSE NEIGHBOUR: 'it returns false'. Refute it at one input. -/
def riverCorrectedWrong : ChangeSpec := { name := "riverCorrected", fn := fun _ => fun
  | [d1, d2, d3] => { results := [.lit (.bool false)], args := [d1, d2, d3] }
  | _ => none }
def RiverCorrectedWrongFalsely : Prop := riverCorrectedRow.holds Tryd.pinned (OpenSpec.ofChange riverCorrectedWrong)

/-- 'hachurelaw06.RiverHigher': WHATEVER THE INPUT: true; the input reads as it did. -/
def riverHigherSpec : ChangeSpec := { name := "riverHigher", fn := fun _ => fun
  | [d1, d2, d3] => { results := [.lit (.bool true)], args := [d1, d2, d3] }
  | _ => none }
def riverHigherRow : OpenClaim := { program := "ytoemnobfnnjopaadoor", sum := "a4ce3cc4157ba9402a59c7ccb7585c929bcaf78fb8e6423952f79d4b3620906d", func := "hachure/hachurelaw06.RiverHigher", spec := "riverHigher", unfollowed := true, recurses := true, named := ["math/bits.deBruijn32tab", "math/bits.deBruijn64tab"], plainKeys := false, apart := false, laid := [("math/bits.deBruijn32tab", laid_math_bits_deBruijn32tab), ("math/bits.deBruijn64tab", laid_math_bits_deBruijn64tab)] }
def RiverHigherSaid : Prop := riverHigherRow.holds Tryd.pinned (OpenSpec.ofChange riverHigherSpec)

/-- ITS FALSE NEIGHBOUR: 'it returns false'. Refute it at one input. -/
def riverHigherWrong : ChangeSpec := { name := "riverHigher", fn := fun _ => fun
  | [d1, d2, d3] => { results := [.lit (.bool false)], args := [d1, d2, d3] }
  | _ => none }
def RiverHigherWrongFalsely : Prop := riverHigherRow.holds Tryd.pinned (OpenSpec.ofChange riverHigherWrong)

/-- 'hachurelaw06.RiverSteeper': WHATEVER THE INPUT: true; the input reads as it did. -/
def riverSteeperSpec : ChangeSpec := { name := "riverSteeper", fn := fun _ => fun
  | [d1, d2] => { results := [.lit (.bool true)], args := [d1, d2] }
  | _ => none }
def riverSteeperRow : OpenClaim := { program := "ytoemnobfnnjopaadoor", sum := "a4ce3cc4157ba9402a59c7ccb7585c929bcaf78fb8e6423952f79d4b3620906d", func := "hachure/hachurelaw06.RiverSteeper", spec := "riverSteeper", unfollowed := true, recurses := true, named := ["math/bits.deBruijn32tab", "math/bits.deBruijn64tab"], plainKeys := false, apart := false, laid := [("math/bits.deBruijn32tab", laid_math_bits_deBruijn32tab), ("math/bits.deBruijn64tab", laid_math_bits_deBruijn64tab)] }
def RiverSteeperSaid : Prop := riverSteeperRow.holds Tryd.pinned (OpenSpec.ofChange riverSteeperSpec)

/-- ITS FALSE NEIGHBOUR: 'it returns false'. Refute it at one input. -/
def riverSteeperWrong : ChangeSpec := { name := "riverSteeper", fn := fun _ => fun
  | [d1, d2] => { results := [.lit (.bool false)], args := [d1, d2] }
  | _ => none }
def RiverSteeperWrongFalsely : Prop := riverSteeperRow.holds Tryd.pinned (OpenSpec.ofChange riverSteeperWrong)

/- THE SECOND FORM. 'bulk': how many values and letters a reading holds, each counted each time it is reached (what is shared counts as often as it is met; a slice's spare places count too). A statement '..UptoSaid' is the law's where the arguments, and the package variables that the reading takes, are together of bulk at most 1048576: NARROWER than '..Said'. Prove '..Said' where nothing that the law and all that it calls make is longer than what came in: it says more and counts as full. Else prove '..UptoSaid'. A law counts once. -/
mutual
def uptoBulk {H : Type} : DataW H → Nat
  | .lit (.string bytes) => bytes.length + 1
  | .lit _ => 1
  | .nil => 1
  | .ptr d => uptoBulk d + 1
  | .slice elems spare => uptoBulkAll elems + uptoBulkAll spare + 1
  | .agg parts => uptoBulkAll parts + 1
  | .iface _ d => uptoBulk d + 1
  | .map entries => uptoBulkEntries entries + 1
  | .held _ => 1
def uptoBulkAll {H : Type} : List (DataW H) → Nat
  | [] => 0
  | d :: r => uptoBulk d + uptoBulkAll r
def uptoBulkEntries {H : Type} : List (Lit × DataW H) → Nat
  | [] => 0
  | x :: r => uptoBulkEntry x + uptoBulkEntries r
def uptoBulkEntry {H : Type} : Lit × DataW H → Nat
  | (.string bytes, d) => bytes.length + uptoBulk d + 1
  | (_, d) => uptoBulk d + 1
 end
def uptoSmall : (H : Type) → List (DataW H) → Bool := fun _ ds => decide (uptoBulkAll ds ≤ 1048576)
def OpenSpec.upto (s : _root_.Go.ChangeSpec) : _root_.Go.OpenSpec := { _root_.Go.OpenSpec.ofChange s with cond := some uptoSmall }

/-- 'hachurelaw06.RiverRuns', WHERE WHAT IT READS IS OF BULK AT MOST 1048576: true; the input reads as it did. -/
def riverRunsUptoRow : OpenClaim := { program := "ytoemnobfnnjopaadoor", sum := "a4ce3cc4157ba9402a59c7ccb7585c929bcaf78fb8e6423952f79d4b3620906d", func := "hachure/hachurelaw06.RiverRuns", spec := "riverRuns", unfollowed := true, recurses := true, named := ["math/bits.deBruijn32tab", "math/bits.deBruijn64tab"], plainKeys := false, apart := false, laid := [("math/bits.deBruijn32tab", laid_math_bits_deBruijn32tab), ("math/bits.deBruijn64tab", laid_math_bits_deBruijn64tab)], narrowed := true }
def RiverRunsUptoSaid : Prop := riverRunsUptoRow.holds Tryd.pinned (OpenSpec.upto riverRunsSpec)

/-- 'hachurelaw06.RiverCorrects', WHERE WHAT IT READS IS OF BULK AT MOST 1048576: true; the input reads as it did. -/
def riverCorrectsUptoRow : OpenClaim := { program := "ytoemnobfnnjopaadoor", sum := "a4ce3cc4157ba9402a59c7ccb7585c929bcaf78fb8e6423952f79d4b3620906d", func := "hachure/hachurelaw06.RiverCorrects", spec := "riverCorrects", unfollowed := true, recurses := true, named := ["math/bits.deBruijn32tab", "math/bits.deBruijn64tab"], plainKeys := false, apart := false, laid := [("math/bits.deBruijn32tab", laid_math_bits_deBruijn32tab), ("math/bits.deBruijn64tab", laid_math_bits_deBruijn64tab)], narrowed := true }
def RiverCorrectsUptoSaid : Prop := riverCorrectsUptoRow.holds Tryd.pinned (OpenSpec.upto riverCorrectsSpec)

/-- 'hachurelaw06.RiverKnown', WHERE WHAT IT READS IS OF BULK AT MOST 1048576: true; the input reads as it did. -/
def riverKnownUptoRow : OpenClaim := { program := "ytoemnobfnnjopaadoor", sum := "a4ce3cc4157ba9402a59c7ccb7585c929bcaf78fb8e6423952f79d4b3620906d", func := "hachure/hachurelaw06.RiverKnown", spec := "riverKnown", unfollowed := true, recurses := true, named := ["math/bits.deBruijn32tab", "math/bits.deBruijn64tab"], plainKeys := false, apart := false, laid := [("math/bits.deBruijn32tab", laid_math_bits_deBruijn32tab), ("math/bits.deBruijn64tab", laid_math_bits_deBruijn64tab)], narrowed := true }
def RiverKnownUptoSaid : Prop := riverKnownUptoRow.holds Tryd.pinned (OpenSpec.upto riverKnownSpec)

/-- 'hachurelaw06.RiverFewest', WHERE WHAT IT READS IS OF BULK AT MOST 1048576: true; the input reads as it did. -/
def riverFewestUptoRow : OpenClaim := { program := "ytoemnobfnnjopaadoor", sum := "a4ce3cc4157ba9402a59c7ccb7585c929bcaf78fb8e6423952f79d4b3620906d", func := "hachure/hachurelaw06.RiverFewest", spec := "riverFewest", unfollowed := true, recurses := true, named := ["math/bits.deBruijn32tab", "math/bits.deBruijn64tab"], plainKeys := false, apart := false, laid := [("math/bits.deBruijn32tab", laid_math_bits_deBruijn32tab), ("math/bits.deBruijn64tab", laid_math_bits_deBruijn64tab)], narrowed := true }
def RiverFewestUptoSaid : Prop := riverFewestUptoRow.holds Tryd.pinned (OpenSpec.upto riverFewestSpec)

/-- 'hachurelaw06.RiverProof', WHERE WHAT IT READS IS OF BULK AT MOST 1048576: true; the input reads as it did. -/
def riverProofUptoRow : OpenClaim := { program := "ytoemnobfnnjopaadoor", sum := "a4ce3cc4157ba9402a59c7ccb7585c929bcaf78fb8e6423952f79d4b3620906d", func := "hachure/hachurelaw06.RiverProof", spec := "riverProof", unfollowed := true, recurses := true, named := ["math/bits.deBruijn32tab", "math/bits.deBruijn64tab"], plainKeys := false, apart := false, laid := [("math/bits.deBruijn32tab", laid_math_bits_deBruijn32tab), ("math/bits.deBruijn64tab", laid_math_bits_deBruijn64tab)], narrowed := true }
def RiverProofUptoSaid : Prop := riverProofUptoRow.holds Tryd.pinned (OpenSpec.upto riverProofSpec)

/-- 'hachurelaw06.RiverFilled', WHERE WHAT IT READS IS OF BULK AT MOST 1048576: true; the input reads as it did. -/
def riverFilledUptoRow : OpenClaim := { program := "ytoemnobfnnjopaadoor", sum := "a4ce3cc4157ba9402a59c7ccb7585c929bcaf78fb8e6423952f79d4b3620906d", func := "hachure/hachurelaw06.RiverFilled", spec := "riverFilled", unfollowed := true, recurses := true, named := ["math/bits.deBruijn32tab", "math/bits.deBruijn64tab"], plainKeys := false, apart := false, laid := [("math/bits.deBruijn32tab", laid_math_bits_deBruijn32tab), ("math/bits.deBruijn64tab", laid_math_bits_deBruijn64tab)], narrowed := true }
def RiverFilledUptoSaid : Prop := riverFilledUptoRow.holds Tryd.pinned (OpenSpec.upto riverFilledSpec)

/-- 'hachurelaw06.RiverLeast', WHERE WHAT IT READS IS OF BULK AT MOST 1048576: true; the input reads as it did. -/
def riverLeastUptoRow : OpenClaim := { program := "ytoemnobfnnjopaadoor", sum := "a4ce3cc4157ba9402a59c7ccb7585c929bcaf78fb8e6423952f79d4b3620906d", func := "hachure/hachurelaw06.RiverLeast", spec := "riverLeast", unfollowed := true, recurses := true, named := ["math/bits.deBruijn32tab", "math/bits.deBruijn64tab"], plainKeys := false, apart := false, laid := [("math/bits.deBruijn32tab", laid_math_bits_deBruijn32tab), ("math/bits.deBruijn64tab", laid_math_bits_deBruijn64tab)], narrowed := true }
def RiverLeastUptoSaid : Prop := riverLeastUptoRow.holds Tryd.pinned (OpenSpec.upto riverLeastSpec)

/-- 'hachurelaw06.RiverPoured', WHERE WHAT IT READS IS OF BULK AT MOST 1048576: true; the input reads as it did. -/
def riverPouredUptoRow : OpenClaim := { program := "ytoemnobfnnjopaadoor", sum := "a4ce3cc4157ba9402a59c7ccb7585c929bcaf78fb8e6423952f79d4b3620906d", func := "hachure/hachurelaw06.RiverPoured", spec := "riverPoured", unfollowed := true, recurses := true, named := ["math/bits.deBruijn32tab", "math/bits.deBruijn64tab"], plainKeys := false, apart := false, laid := [("math/bits.deBruijn32tab", laid_math_bits_deBruijn32tab), ("math/bits.deBruijn64tab", laid_math_bits_deBruijn64tab)], narrowed := true }
def RiverPouredUptoSaid : Prop := riverPouredUptoRow.holds Tryd.pinned (OpenSpec.upto riverPouredSpec)

/-- 'hachurelaw06.RiverCorrected', WHERE WHAT IT READS IS OF BULK AT MOST 1048576: true; the input reads as it did. -/
def riverCorrectedUptoRow : OpenClaim := { program := "ytoemnobfnnjopaadoor", sum := "a4ce3cc4157ba9402a59c7ccb7585c929bcaf78fb8e6423952f79d4b3620906d", func := "hachure/hachurelaw06.RiverCorrected", spec := "riverCorrected", unfollowed := true, recurses := true, named := ["math/bits.deBruijn32tab", "math/bits.deBruijn64tab"], plainKeys := false, apart := false, laid := [("math/bits.deBruijn32tab", laid_math_bits_deBruijn32tab), ("math/bits.deBruijn64tab", laid_math_bits_deBruijn64tab)], narrowed := true }
def RiverCorrectedUptoSaid : Prop := riverCorrectedUptoRow.holds Tryd.pinned (OpenSpec.upto riverCorrectedSpec)

/-- 'hachurelaw06.RiverHigher', WHERE WHAT IT READS IS OF BULK AT MOST 1048576: true; the input reads as it did. -/
def riverHigherUptoRow : OpenClaim := { program := "ytoemnobfnnjopaadoor", sum := "a4ce3cc4157ba9402a59c7ccb7585c929bcaf78fb8e6423952f79d4b3620906d", func := "hachure/hachurelaw06.RiverHigher", spec := "riverHigher", unfollowed := true, recurses := true, named := ["math/bits.deBruijn32tab", "math/bits.deBruijn64tab"], plainKeys := false, apart := false, laid := [("math/bits.deBruijn32tab", laid_math_bits_deBruijn32tab), ("math/bits.deBruijn64tab", laid_math_bits_deBruijn64tab)], narrowed := true }
def RiverHigherUptoSaid : Prop := riverHigherUptoRow.holds Tryd.pinned (OpenSpec.upto riverHigherSpec)

/-- 'hachurelaw06.RiverSteeper', WHERE WHAT IT READS IS OF BULK AT MOST 1048576: true; the input reads as it did. -/
def riverSteeperUptoRow : OpenClaim := { program := "ytoemnobfnnjopaadoor", sum := "a4ce3cc4157ba9402a59c7ccb7585c929bcaf78fb8e6423952f79d4b3620906d", func := "hachure/hachurelaw06.RiverSteeper", spec := "riverSteeper", unfollowed := true, recurses := true, named := ["math/bits.deBruijn32tab", "math/bits.deBruijn64tab"], plainKeys := false, apart := false, laid := [("math/bits.deBruijn32tab", laid_math_bits_deBruijn32tab), ("math/bits.deBruijn64tab", laid_math_bits_deBruijn64tab)], narrowed := true }
def RiverSteeperUptoSaid : Prop := riverSteeperUptoRow.holds Tryd.pinned (OpenSpec.upto riverSteeperSpec)

end Rows
end Go.Proofs.YtoemnobfnnjopaaDoor
