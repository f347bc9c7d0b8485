/-
  NARROWER THAN 'FOR EVERY INPUT', by the rows' own cells (each row's printed sentence says how): PinSees: laid · PinLengths: laid · PinBest: laid · PinKnown: laid · PinLeast: laid · PinTaller: laid · PinStuck: laid · PinAlone: laid · PinPlaces: laid · PinCovered: laid · PinOff: laid · PinMirrored: laid · PinHigher: laid.
  DERIVED. THE GIVEN ROWS OF THIS SEAT. 13 by the template 'for every input the law returns true; each argument reads behind the call as it read before'; 0 by the template 'total and deterministic' (their statements: YthkgnhcknkjgdaaDoorTotals.lean).
  GIVEN WITH THE SEED: the statements are not yours to turn. If you find one false, say at which input.
  Laid BY PROGRAM, IN A SANDBOX (cutbox-rows.mjs): the forced cells as the released guide's own fill.sh prints them over the translation a99ca61d25a2fef7… (all of the seat's roots in one cut). By AI agents, Wed Nov 11 2026. No macro, syntax, notation, axiom, sorry.
-/
import Derived.Test.YthkgnhcknkjgdaaDoorChecked
import GoSem.Claim
import GoSem.ClaimJoined
import GoSem.ClaimMapViews
import Derived.JoinedTies
import Derived.KernelRfl
namespace Go.Proofs.YthkgnhcknkjgdaaDoor
/- THE CELL 'sum', in the pinned program and in every row, IS THE sha256 OF THE DUMP (.gsa) THAT YthkgnhcknkjgdaaDoorProg.lean LOADS. Nothing in Lean hashes anything: it is a label: what it is worth is what the hold of that sum in a sandbox is worth. -/
noncomputable def Tryd.pinned : Pinned := { name := "ythkgnhcknkjgdaadoor", sum := "a99ca61d25a2fef77009681b86adcd86b4555f798e74dade35a2d43ddc1ab5f9", checked := Tryd.checked }
namespace Rows
def none {H : Type} : Left H := { results := [], args := [] }

/- WHAT THE LISTED PACKAGE-LEVEL VARIABLES READ AS WHEN THE CALL BEGINS. Each datum BY PROGRAM (the guide's laid-datum.mjs) off the statement by which the dump's own 'gosem.cut.vars' lays the variable. In a bare row this is a premise. The card (YthkgnhcknkjgdaaDoorCards.lean) ties it to the program's text. -/
def laid_math_bits_deBruijn32tab {H : Type} : DataW H := .agg [.lit (.int .u8 0), .lit (.int .u8 1), .lit (.int .u8 28), .lit (.int .u8 2), .lit (.int .u8 29), .lit (.int .u8 14), .lit (.int .u8 24), .lit (.int .u8 3), .lit (.int .u8 30), .lit (.int .u8 22), .lit (.int .u8 20), .lit (.int .u8 15), .lit (.int .u8 25), .lit (.int .u8 17), .lit (.int .u8 4), .lit (.int .u8 8), .lit (.int .u8 31), .lit (.int .u8 27), .lit (.int .u8 13), .lit (.int .u8 23), .lit (.int .u8 21), .lit (.int .u8 19), .lit (.int .u8 16), .lit (.int .u8 7), .lit (.int .u8 26), .lit (.int .u8 12), .lit (.int .u8 18), .lit (.int .u8 6), .lit (.int .u8 11), .lit (.int .u8 5), .lit (.int .u8 10), .lit (.int .u8 9)]
def laid_math_bits_deBruijn64tab {H : Type} : DataW H := .agg [.lit (.int .u8 0), .lit (.int .u8 1), .lit (.int .u8 56), .lit (.int .u8 2), .lit (.int .u8 57), .lit (.int .u8 49), .lit (.int .u8 28), .lit (.int .u8 3), .lit (.int .u8 61), .lit (.int .u8 58), .lit (.int .u8 42), .lit (.int .u8 50), .lit (.int .u8 38), .lit (.int .u8 29), .lit (.int .u8 17), .lit (.int .u8 4), .lit (.int .u8 62), .lit (.int .u8 47), .lit (.int .u8 59), .lit (.int .u8 36), .lit (.int .u8 45), .lit (.int .u8 43), .lit (.int .u8 51), .lit (.int .u8 22), .lit (.int .u8 53), .lit (.int .u8 39), .lit (.int .u8 33), .lit (.int .u8 30), .lit (.int .u8 24), .lit (.int .u8 18), .lit (.int .u8 12), .lit (.int .u8 5), .lit (.int .u8 63), .lit (.int .u8 55), .lit (.int .u8 48), .lit (.int .u8 27), .lit (.int .u8 60), .lit (.int .u8 41), .lit (.int .u8 37), .lit (.int .u8 16), .lit (.int .u8 46), .lit (.int .u8 35), .lit (.int .u8 44), .lit (.int .u8 21), .lit (.int .u8 52), .lit (.int .u8 32), .lit (.int .u8 23), .lit (.int .u8 11), .lit (.int .u8 54), .lit (.int .u8 26), .lit (.int .u8 40), .lit (.int .u8 15), .lit (.int .u8 34), .lit (.int .u8 20), .lit (.int .u8 31), .lit (.int .u8 10), .lit (.int .u8 25), .lit (.int .u8 14), .lit (.int .u8 19), .lit (.int .u8 9), .lit (.int .u8 13), .lit (.int .u8 8), .lit (.int .u8 7), .lit (.int .u8 6)]

/-- 'hachurelaw10.PinSees': WHATEVER THE INPUT: true; the input reads as it did. -/
def pinSeesSpec : ChangeSpec := { name := "pinSees", fn := fun _ => fun
  | [d1, d2] => { results := [.lit (.bool true)], args := [d1, d2] }
  | _ => none }
def pinSeesRow : OpenClaim := { program := "ythkgnhcknkjgdaadoor", sum := "a99ca61d25a2fef77009681b86adcd86b4555f798e74dade35a2d43ddc1ab5f9", func := "hachure/hachurelaw10.PinSees", spec := "pinSees", unfollowed := true, recurses := true, named := ["math/bits.deBruijn32tab", "math/bits.deBruijn64tab"], plainKeys := false, apart := false, laid := [("math/bits.deBruijn32tab", laid_math_bits_deBruijn32tab), ("math/bits.deBruijn64tab", laid_math_bits_deBruijn64tab)] }
def PinSeesSaid : Prop := pinSeesRow.holds Tryd.pinned (OpenSpec.ofChange pinSeesSpec)

/-- ITS FALSE NEIGHBOUR: 'it returns false'. Refute it at one input. -/
def pinSeesWrong : ChangeSpec := { name := "pinSees", fn := fun _ => fun
  | [d1, d2] => { results := [.lit (.bool false)], args := [d1, d2] }
  | _ => none }
def PinSeesWrongFalsely : Prop := pinSeesRow.holds Tryd.pinned (OpenSpec.ofChange pinSeesWrong)

/-- 'hachurelaw10.PinLengths': WHATEVER THE INPUT: true; the input reads as it did. -/
def pinLengthsSpec : ChangeSpec := { name := "pinLengths", fn := fun _ => fun
  | [d] => { results := [.lit (.bool true)], args := [d] }
  | _ => none }
def pinLengthsRow : OpenClaim := { program := "ythkgnhcknkjgdaadoor", sum := "a99ca61d25a2fef77009681b86adcd86b4555f798e74dade35a2d43ddc1ab5f9", func := "hachure/hachurelaw10.PinLengths", spec := "pinLengths", unfollowed := true, recurses := true, named := ["math/bits.deBruijn32tab", "math/bits.deBruijn64tab"], plainKeys := false, apart := false, laid := [("math/bits.deBruijn32tab", laid_math_bits_deBruijn32tab), ("math/bits.deBruijn64tab", laid_math_bits_deBruijn64tab)] }
def PinLengthsSaid : Prop := pinLengthsRow.holds Tryd.pinned (OpenSpec.ofChange pinLengthsSpec)

/-- ITS FALSE NEIGHBOUR: 'it returns false'. Refute it at one input. -/
def pinLengthsWrong : ChangeSpec := { name := "pinLengths", fn := fun _ => fun
  | [d] => { results := [.lit (.bool false)], args := [d] }
  | _ => none }
def PinLengthsWrongFalsely : Prop := pinLengthsRow.holds Tryd.pinned (OpenSpec.ofChange pinLengthsWrong)

/-- 'hachurelaw10.PinBest': WHATEVER THE INPUT: true; the input reads as it did. -/
def pinBestSpec : ChangeSpec := { name := "pinBest", fn := fun _ => fun
  | [d1, d2] => { results := [.lit (.bool true)], args := [d1, d2] }
  | _ => none }
def pinBestRow : OpenClaim := { program := "ythkgnhcknkjgdaadoor", sum := "a99ca61d25a2fef77009681b86adcd86b4555f798e74dade35a2d43ddc1ab5f9", func := "hachure/hachurelaw10.PinBest", spec := "pinBest", unfollowed := true, recurses := true, named := ["math/bits.deBruijn32tab", "math/bits.deBruijn64tab"], plainKeys := false, apart := false, laid := [("math/bits.deBruijn32tab", laid_math_bits_deBruijn32tab), ("math/bits.deBruijn64tab", laid_math_bits_deBruijn64tab)] }
def PinBestSaid : Prop := pinBestRow.holds Tryd.pinned (OpenSpec.ofChange pinBestSpec)

/-- ITS FALSE NEIGHBOUR: 'it returns false'. Refute it at one input. -/
def pinBestWrong : ChangeSpec := { name := "pinBest", fn := fun _ => fun
  | [d1, d2] => { results := [.lit (.bool false)], args := [d1, d2] }
  | _ => none }
def PinBestWrongFalsely : Prop := pinBestRow.holds Tryd.pinned (OpenSpec.ofChange pinBestWrong)

/-- 'hachurelaw10.PinKnown': WHATEVER THE INPUT: true; the input reads as it did. -/
def pinKnownSpec : ChangeSpec := { name := "pinKnown", fn := fun _ => fun
  | [] => { results := [.lit (.bool true)], args := [] }
  | _ => none }
def pinKnownRow : OpenClaim := { program := "ythkgnhcknkjgdaadoor", sum := "a99ca61d25a2fef77009681b86adcd86b4555f798e74dade35a2d43ddc1ab5f9", func := "hachure/hachurelaw10.PinKnown", spec := "pinKnown", unfollowed := true, recurses := true, named := ["math/bits.deBruijn32tab", "math/bits.deBruijn64tab"], plainKeys := false, apart := false, laid := [("math/bits.deBruijn32tab", laid_math_bits_deBruijn32tab), ("math/bits.deBruijn64tab", laid_math_bits_deBruijn64tab)] }
def PinKnownSaid : Prop := pinKnownRow.holds Tryd.pinned (OpenSpec.ofChange pinKnownSpec)

/-- ITS FALSE NEIGHBOUR: 'it returns false'. Refute it at one input. -/
def pinKnownWrong : ChangeSpec := { name := "pinKnown", fn := fun _ => fun
  | [] => { results := [.lit (.bool false)], args := [] }
  | _ => none }
def PinKnownWrongFalsely : Prop := pinKnownRow.holds Tryd.pinned (OpenSpec.ofChange pinKnownWrong)

/-- 'hachurelaw10.PinLeast': WHATEVER THE INPUT: true; the input reads as it did. -/
def pinLeastSpec : ChangeSpec := { name := "pinLeast", fn := fun _ => fun
  | [d1, d2] => { results := [.lit (.bool true)], args := [d1, d2] }
  | _ => none }
def pinLeastRow : OpenClaim := { program := "ythkgnhcknkjgdaadoor", sum := "a99ca61d25a2fef77009681b86adcd86b4555f798e74dade35a2d43ddc1ab5f9", func := "hachure/hachurelaw10.PinLeast", spec := "pinLeast", unfollowed := true, recurses := true, named := ["math/bits.deBruijn32tab", "math/bits.deBruijn64tab"], plainKeys := false, apart := false, laid := [("math/bits.deBruijn32tab", laid_math_bits_deBruijn32tab), ("math/bits.deBruijn64tab", laid_math_bits_deBruijn64tab)] }
def PinLeastSaid : Prop := pinLeastRow.holds Tryd.pinned (OpenSpec.ofChange pinLeastSpec)

/-- ITS FALSE NEIGHBOUR: 'it returns false'. Refute it at one input. -/
def pinLeastWrong : ChangeSpec := { name := "pinLeast", fn := fun _ => fun
  | [d1, d2] => { results := [.lit (.bool false)], args := [d1, d2] }
  | _ => none }
def PinLeastWrongFalsely : Prop := pinLeastRow.holds Tryd.pinned (OpenSpec.ofChange pinLeastWrong)

/-- 'hachurelaw10.PinTaller': WHATEVER THE INPUT: true; the input reads as it did. -/
def pinTallerSpec : ChangeSpec := { name := "pinTaller", fn := fun _ => fun
  | [d1, d2, d3] => { results := [.lit (.bool true)], args := [d1, d2, d3] }
  | _ => none }
def pinTallerRow : OpenClaim := { program := "ythkgnhcknkjgdaadoor", sum := "a99ca61d25a2fef77009681b86adcd86b4555f798e74dade35a2d43ddc1ab5f9", func := "hachure/hachurelaw10.PinTaller", spec := "pinTaller", unfollowed := true, recurses := true, named := ["math/bits.deBruijn32tab", "math/bits.deBruijn64tab"], plainKeys := false, apart := false, laid := [("math/bits.deBruijn32tab", laid_math_bits_deBruijn32tab), ("math/bits.deBruijn64tab", laid_math_bits_deBruijn64tab)] }
def PinTallerSaid : Prop := pinTallerRow.holds Tryd.pinned (OpenSpec.ofChange pinTallerSpec)

/-- ITS FALSE NEIGHBOUR: 'it returns false'. Refute it at one input. -/
def pinTallerWrong : ChangeSpec := { name := "pinTaller", fn := fun _ => fun
  | [d1, d2, d3] => { results := [.lit (.bool false)], args := [d1, d2, d3] }
  | _ => none }
def PinTallerWrongFalsely : Prop := pinTallerRow.holds Tryd.pinned (OpenSpec.ofChange pinTallerWrong)

/-- 'hachurelaw10.PinStuck': WHATEVER THE INPUT: true; the input reads as it did. -/
def pinStuckSpec : ChangeSpec := { name := "pinStuck", fn := fun _ => fun
  | [d1, d2] => { results := [.lit (.bool true)], args := [d1, d2] }
  | _ => none }
def pinStuckRow : OpenClaim := { program := "ythkgnhcknkjgdaadoor", sum := "a99ca61d25a2fef77009681b86adcd86b4555f798e74dade35a2d43ddc1ab5f9", func := "hachure/hachurelaw10.PinStuck", spec := "pinStuck", unfollowed := true, recurses := true, named := ["math/bits.deBruijn32tab", "math/bits.deBruijn64tab"], plainKeys := false, apart := false, laid := [("math/bits.deBruijn32tab", laid_math_bits_deBruijn32tab), ("math/bits.deBruijn64tab", laid_math_bits_deBruijn64tab)] }
def PinStuckSaid : Prop := pinStuckRow.holds Tryd.pinned (OpenSpec.ofChange pinStuckSpec)

/-- ITS FALSE NEIGHBOUR: 'it returns false'. Refute it at one input. -/
def pinStuckWrong : ChangeSpec := { name := "pinStuck", fn := fun _ => fun
  | [d1, d2] => { results := [.lit (.bool false)], args := [d1, d2] }
  | _ => none }
def PinStuckWrongFalsely : Prop := pinStuckRow.holds Tryd.pinned (OpenSpec.ofChange pinStuckWrong)

/-- 'hachurelaw10.PinAlone': WHATEVER THE INPUT: true; the input reads as it did. -/
def pinAloneSpec : ChangeSpec := { name := "pinAlone", fn := fun _ => fun
  | [d1, d2, d3] => { results := [.lit (.bool true)], args := [d1, d2, d3] }
  | _ => none }
def pinAloneRow : OpenClaim := { program := "ythkgnhcknkjgdaadoor", sum := "a99ca61d25a2fef77009681b86adcd86b4555f798e74dade35a2d43ddc1ab5f9", func := "hachure/hachurelaw10.PinAlone", spec := "pinAlone", unfollowed := true, recurses := true, named := ["math/bits.deBruijn32tab", "math/bits.deBruijn64tab"], plainKeys := false, apart := false, laid := [("math/bits.deBruijn32tab", laid_math_bits_deBruijn32tab), ("math/bits.deBruijn64tab", laid_math_bits_deBruijn64tab)] }
def PinAloneSaid : Prop := pinAloneRow.holds Tryd.pinned (OpenSpec.ofChange pinAloneSpec)

/-- ITS FALSE NEIGHBOUR: 'it returns false'. Refute it at one input. -/
def pinAloneWrong : ChangeSpec := { name := "pinAlone", fn := fun _ => fun
  | [d1, d2, d3] => { results := [.lit (.bool false)], args := [d1, d2, d3] }
  | _ => none }
def PinAloneWrongFalsely : Prop := pinAloneRow.holds Tryd.pinned (OpenSpec.ofChange pinAloneWrong)

/-- 'hachurelaw10.PinPlaces': WHATEVER THE INPUT: true; the input reads as it did. -/
def pinPlacesSpec : ChangeSpec := { name := "pinPlaces", fn := fun _ => fun
  | [d1, d2, d3] => { results := [.lit (.bool true)], args := [d1, d2, d3] }
  | _ => none }
def pinPlacesRow : OpenClaim := { program := "ythkgnhcknkjgdaadoor", sum := "a99ca61d25a2fef77009681b86adcd86b4555f798e74dade35a2d43ddc1ab5f9", func := "hachure/hachurelaw10.PinPlaces", spec := "pinPlaces", unfollowed := true, recurses := true, named := ["math/bits.deBruijn32tab", "math/bits.deBruijn64tab"], plainKeys := false, apart := false, laid := [("math/bits.deBruijn32tab", laid_math_bits_deBruijn32tab), ("math/bits.deBruijn64tab", laid_math_bits_deBruijn64tab)] }
def PinPlacesSaid : Prop := pinPlacesRow.holds Tryd.pinned (OpenSpec.ofChange pinPlacesSpec)

/-- ITS FALSE NEIGHBOUR: 'it returns false'. Refute it at one input. -/
def pinPlacesWrong : ChangeSpec := { name := "pinPlaces", fn := fun _ => fun
  | [d1, d2, d3] => { results := [.lit (.bool false)], args := [d1, d2, d3] }
  | _ => none }
def PinPlacesWrongFalsely : Prop := pinPlacesRow.holds Tryd.pinned (OpenSpec.ofChange pinPlacesWrong)

/-- 'hachurelaw10.PinCovered': WHATEVER THE INPUT: true; the input reads as it did. -/
def pinCoveredSpec : ChangeSpec := { name := "pinCovered", fn := fun _ => fun
  | [d1, d2] => { results := [.lit (.bool true)], args := [d1, d2] }
  | _ => none }
def pinCoveredRow : OpenClaim := { program := "ythkgnhcknkjgdaadoor", sum := "a99ca61d25a2fef77009681b86adcd86b4555f798e74dade35a2d43ddc1ab5f9", func := "hachure/hachurelaw10.PinCovered", spec := "pinCovered", unfollowed := true, recurses := true, named := ["math/bits.deBruijn32tab", "math/bits.deBruijn64tab"], plainKeys := false, apart := false, laid := [("math/bits.deBruijn32tab", laid_math_bits_deBruijn32tab), ("math/bits.deBruijn64tab", laid_math_bits_deBruijn64tab)] }
def PinCoveredSaid : Prop := pinCoveredRow.holds Tryd.pinned (OpenSpec.ofChange pinCoveredSpec)

/-- ITS FALSE NEIGHBOUR: 'it returns false'. Refute it at one input. -/
def pinCoveredWrong : ChangeSpec := { name := "pinCovered", fn := fun _ => fun
  | [d1, d2] => { results := [.lit (.bool false)], args := [d1, d2] }
  | _ => none }
def PinCoveredWrongFalsely : Prop := pinCoveredRow.holds Tryd.pinned (OpenSpec.ofChange pinCoveredWrong)

/-- 'hachurelaw10.PinOff': WHATEVER THE INPUT: true; the input reads as it did. -/
def pinOffSpec : ChangeSpec := { name := "pinOff", fn := fun _ => fun
  | [d1, d2] => { results := [.lit (.bool true)], args := [d1, d2] }
  | _ => none }
def pinOffRow : OpenClaim := { program := "ythkgnhcknkjgdaadoor", sum := "a99ca61d25a2fef77009681b86adcd86b4555f798e74dade35a2d43ddc1ab5f9", func := "hachure/hachurelaw10.PinOff", spec := "pinOff", unfollowed := true, recurses := true, named := ["math/bits.deBruijn32tab", "math/bits.deBruijn64tab"], plainKeys := false, apart := false, laid := [("math/bits.deBruijn32tab", laid_math_bits_deBruijn32tab), ("math/bits.deBruijn64tab", laid_math_bits_deBruijn64tab)] }
def PinOffSaid : Prop := pinOffRow.holds Tryd.pinned (OpenSpec.ofChange pinOffSpec)

/-- ITS FALSE NEIGHBOUR: 'it returns false'. Refute it at one input. -/
def pinOffWrong : ChangeSpec := { name := "pinOff", fn := fun _ => fun
  | [d1, d2] => { results := [.lit (.bool false)], args := [d1, d2] }
  | _ => none }
def PinOffWrongFalsely : Prop := pinOffRow.holds Tryd.pinned (OpenSpec.ofChange pinOffWrong)

/-- 'hachurelaw10.PinMirrored': WHATEVER THE INPUT: true; the input reads as it did. -/
def pinMirroredSpec : ChangeSpec := { name := "pinMirrored", fn := fun _ => fun
  | [d1, d2, d3] => { results := [.lit (.bool true)], args := [d1, d2, d3] }
  | _ => none }
def pinMirroredRow : OpenClaim := { program := "ythkgnhcknkjgdaadoor", sum := "a99ca61d25a2fef77009681b86adcd86b4555f798e74dade35a2d43ddc1ab5f9", func := "hachure/hachurelaw10.PinMirrored", spec := "pinMirrored", unfollowed := true, recurses := true, named := ["math/bits.deBruijn32tab", "math/bits.deBruijn64tab"], plainKeys := false, apart := false, laid := [("math/bits.deBruijn32tab", laid_math_bits_deBruijn32tab), ("math/bits.deBruijn64tab", laid_math_bits_deBruijn64tab)] }
def PinMirroredSaid : Prop := pinMirroredRow.holds Tryd.pinned (OpenSpec.ofChange pinMirroredSpec)

/-- ITS FALSE NEIGHBOUR: 'it returns false'. Refute it at one input. -/
def pinMirroredWrong : ChangeSpec := { name := "pinMirrored", fn := fun _ => fun
  | [d1, d2, d3] => { results := [.lit (.bool false)], args := [d1, d2, d3] }
  | _ => none }
def PinMirroredWrongFalsely : Prop := pinMirroredRow.holds Tryd.pinned (OpenSpec.ofChange pinMirroredWrong)

/-- 'hachurelaw10.PinHigher': WHATEVER THE INPUT: true; the input reads as it did. -/
def pinHigherSpec : ChangeSpec := { name := "pinHigher", fn := fun _ => fun
  | [d1, d2, d3] => { results := [.lit (.bool true)], args := [d1, d2, d3] }
  | _ => none }
def pinHigherRow : OpenClaim := { program := "ythkgnhcknkjgdaadoor", sum := "a99ca61d25a2fef77009681b86adcd86b4555f798e74dade35a2d43ddc1ab5f9", func := "hachure/hachurelaw10.PinHigher", spec := "pinHigher", unfollowed := true, recurses := true, named := ["math/bits.deBruijn32tab", "math/bits.deBruijn64tab"], plainKeys := false, apart := false, laid := [("math/bits.deBruijn32tab", laid_math_bits_deBruijn32tab), ("math/bits.deBruijn64tab", laid_math_bits_deBruijn64tab)] }
def PinHigherSaid : Prop := pinHigherRow.holds Tryd.pinned (OpenSpec.ofChange pinHigherSpec)

/-- ITS FALSE NEIGHBOUR: 'it returns false'. Refute it at one input. -/
def pinHigherWrong : ChangeSpec := { name := "pinHigher", fn := fun _ => fun
  | [d1, d2, d3] => { results := [.lit (.bool false)], args := [d1, d2, d3] }
  | _ => none }
def PinHigherWrongFalsely : Prop := pinHigherRow.holds Tryd.pinned (OpenSpec.ofChange pinHigherWrong)

/- THE SECOND FORM. 'bulk': how many values and letters a reading holds, each counted each time it is reached (what is shared counts as often as it is met; a slice's spare places count too). A statement '..UptoSaid' is the law's where the arguments, and the package variables that the reading takes, are together of bulk at most 1048576: NARROWER than '..Said'. Prove '..Said' where nothing that the law and all that it calls make is longer than what came in: it says more and counts as full. Else prove '..UptoSaid'. A law counts once. -/
mutual
def uptoBulk {H : Type} : DataW H → Nat
  | .lit (.string bytes) => bytes.length + 1
  | .lit _ => 1
  | .nil => 1
  | .ptr d => uptoBulk d + 1
  | .slice elems spare => uptoBulkAll elems + uptoBulkAll spare + 1
  | .agg parts => uptoBulkAll parts + 1
  | .iface _ d => uptoBulk d + 1
  | .map entries => uptoBulkEntries entries + 1
  | .held _ => 1
def uptoBulkAll {H : Type} : List (DataW H) → Nat
  | [] => 0
  | d :: r => uptoBulk d + uptoBulkAll r
def uptoBulkEntries {H : Type} : List (Lit × DataW H) → Nat
  | [] => 0
  | x :: r => uptoBulkEntry x + uptoBulkEntries r
def uptoBulkEntry {H : Type} : Lit × DataW H → Nat
  | (.string bytes, d) => bytes.length + uptoBulk d + 1
  | (_, d) => uptoBulk d + 1
 end
def uptoSmall : (H : Type) → List (DataW H) → Bool := fun _ ds => decide (uptoBulkAll ds ≤ 1048576)
def OpenSpec.upto (s : _root_.Go.ChangeSpec) : _root_.Go.OpenSpec := { _root_.Go.OpenSpec.ofChange s with cond := some uptoSmall }

/-- 'hachurelaw10.PinSees', WHERE WHAT IT READS IS OF BULK AT MOST 1048576: true; the input reads as it did. -/
def pinSeesUptoRow : OpenClaim := { program := "ythkgnhcknkjgdaadoor", sum := "a99ca61d25a2fef77009681b86adcd86b4555f798e74dade35a2d43ddc1ab5f9", func := "hachure/hachurelaw10.PinSees", spec := "pinSees", unfollowed := true, recurses := true, named := ["math/bits.deBruijn32tab", "math/bits.deBruijn64tab"], plainKeys := false, apart := false, laid := [("math/bits.deBruijn32tab", laid_math_bits_deBruijn32tab), ("math/bits.deBruijn64tab", laid_math_bits_deBruijn64tab)], narrowed := true }
def PinSeesUptoSaid : Prop := pinSeesUptoRow.holds Tryd.pinned (OpenSpec.upto pinSeesSpec)

/-- 'hachurelaw10.PinLengths', WHERE WHAT IT READS IS OF BULK AT MOST 1048576: true; the input reads as it did. -/
def pinLengthsUptoRow : OpenClaim := { program := "ythkgnhcknkjgdaadoor", sum := "a99ca61d25a2fef77009681b86adcd86b4555f798e74dade35a2d43ddc1ab5f9", func := "hachure/hachurelaw10.PinLengths", spec := "pinLengths", unfollowed := true, recurses := true, named := ["math/bits.deBruijn32tab", "math/bits.deBruijn64tab"], plainKeys := false, apart := false, laid := [("math/bits.deBruijn32tab", laid_math_bits_deBruijn32tab), ("math/bits.deBruijn64tab", laid_math_bits_deBruijn64tab)], narrowed := true }
def PinLengthsUptoSaid : Prop := pinLengthsUptoRow.holds Tryd.pinned (OpenSpec.upto pinLengthsSpec)

/-- 'hachurelaw10.PinBest', WHERE WHAT IT READS IS OF BULK AT MOST 1048576: true; the input reads as it did. -/
def pinBestUptoRow : OpenClaim := { program := "ythkgnhcknkjgdaadoor", sum := "a99ca61d25a2fef77009681b86adcd86b4555f798e74dade35a2d43ddc1ab5f9", func := "hachure/hachurelaw10.PinBest", spec := "pinBest", unfollowed := true, recurses := true, named := ["math/bits.deBruijn32tab", "math/bits.deBruijn64tab"], plainKeys := false, apart := false, laid := [("math/bits.deBruijn32tab", laid_math_bits_deBruijn32tab), ("math/bits.deBruijn64tab", laid_math_bits_deBruijn64tab)], narrowed := true }
def PinBestUptoSaid : Prop := pinBestUptoRow.holds Tryd.pinned (OpenSpec.upto pinBestSpec)

/-- 'hachurelaw10.PinKnown', WHERE WHAT IT READS IS OF BULK AT MOST 1048576: true; the input reads as it did. -/
def pinKnownUptoRow : OpenClaim := { program := "ythkgnhcknkjgdaadoor", sum := "a99ca61d25a2fef77009681b86adcd86b4555f798e74dade35a2d43ddc1ab5f9", func := "hachure/hachurelaw10.PinKnown", spec := "pinKnown", unfollowed := true, recurses := true, named := ["math/bits.deBruijn32tab", "math/bits.deBruijn64tab"], plainKeys := false, apart := false, laid := [("math/bits.deBruijn32tab", laid_math_bits_deBruijn32tab), ("math/bits.deBruijn64tab", laid_math_bits_deBruijn64tab)], narrowed := true }
def PinKnownUptoSaid : Prop := pinKnownUptoRow.holds Tryd.pinned (OpenSpec.upto pinKnownSpec)

/-- 'hachurelaw10.PinLeast', WHERE WHAT IT READS IS OF BULK AT MOST 1048576: true; the input reads as it did. -/
def pinLeastUptoRow : OpenClaim := { program := "ythkgnhcknkjgdaadoor", sum := "a99ca61d25a2fef77009681b86adcd86b4555f798e74dade35a2d43ddc1ab5f9", func := "hachure/hachurelaw10.PinLeast", spec := "pinLeast", unfollowed := true, recurses := true, named := ["math/bits.deBruijn32tab", "math/bits.deBruijn64tab"], plainKeys := false, apart := false, laid := [("math/bits.deBruijn32tab", laid_math_bits_deBruijn32tab), ("math/bits.deBruijn64tab", laid_math_bits_deBruijn64tab)], narrowed := true }
def PinLeastUptoSaid : Prop := pinLeastUptoRow.holds Tryd.pinned (OpenSpec.upto pinLeastSpec)

/-- 'hachurelaw10.PinTaller', WHERE WHAT IT READS IS OF BULK AT MOST 1048576: true; the input reads as it did. -/
def pinTallerUptoRow : OpenClaim := { program := "ythkgnhcknkjgdaadoor", sum := "a99ca61d25a2fef77009681b86adcd86b4555f798e74dade35a2d43ddc1ab5f9", func := "hachure/hachurelaw10.PinTaller", spec := "pinTaller", unfollowed := true, recurses := true, named := ["math/bits.deBruijn32tab", "math/bits.deBruijn64tab"], plainKeys := false, apart := false, laid := [("math/bits.deBruijn32tab", laid_math_bits_deBruijn32tab), ("math/bits.deBruijn64tab", laid_math_bits_deBruijn64tab)], narrowed := true }
def PinTallerUptoSaid : Prop := pinTallerUptoRow.holds Tryd.pinned (OpenSpec.upto pinTallerSpec)

/-- 'hachurelaw10.PinStuck', WHERE WHAT IT READS IS OF BULK AT MOST 1048576: true; the input reads as it did. -/
def pinStuckUptoRow : OpenClaim := { program := "ythkgnhcknkjgdaadoor", sum := "a99ca61d25a2fef77009681b86adcd86b4555f798e74dade35a2d43ddc1ab5f9", func := "hachure/hachurelaw10.PinStuck", spec := "pinStuck", unfollowed := true, recurses := true, named := ["math/bits.deBruijn32tab", "math/bits.deBruijn64tab"], plainKeys := false, apart := false, laid := [("math/bits.deBruijn32tab", laid_math_bits_deBruijn32tab), ("math/bits.deBruijn64tab", laid_math_bits_deBruijn64tab)], narrowed := true }
def PinStuckUptoSaid : Prop := pinStuckUptoRow.holds Tryd.pinned (OpenSpec.upto pinStuckSpec)

/-- 'hachurelaw10.PinAlone', WHERE WHAT IT READS IS OF BULK AT MOST 1048576: true; the input reads as it did. -/
def pinAloneUptoRow : OpenClaim := { program := "ythkgnhcknkjgdaadoor", sum := "a99ca61d25a2fef77009681b86adcd86b4555f798e74dade35a2d43ddc1ab5f9", func := "hachure/hachurelaw10.PinAlone", spec := "pinAlone", unfollowed := true, recurses := true, named := ["math/bits.deBruijn32tab", "math/bits.deBruijn64tab"], plainKeys := false, apart := false, laid := [("math/bits.deBruijn32tab", laid_math_bits_deBruijn32tab), ("math/bits.deBruijn64tab", laid_math_bits_deBruijn64tab)], narrowed := true }
def PinAloneUptoSaid : Prop := pinAloneUptoRow.holds Tryd.pinned (OpenSpec.upto pinAloneSpec)

/-- 'hachurelaw10.PinPlaces', WHERE WHAT IT READS IS OF BULK AT MOST 1048576: true; the input reads as it did. -/
def pinPlacesUptoRow : OpenClaim := { program := "ythkgnhcknkjgdaadoor", sum := "a99ca61d25a2fef77009681b86adcd86b4555f798e74dade35a2d43ddc1ab5f9", func := "hachure/hachurelaw10.PinPlaces", spec := "pinPlaces", unfollowed := true, recurses := true, named := ["math/bits.deBruijn32tab", "math/bits.deBruijn64tab"], plainKeys := false, apart := false, laid := [("math/bits.deBruijn32tab", laid_math_bits_deBruijn32tab), ("math/bits.deBruijn64tab", laid_math_bits_deBruijn64tab)], narrowed := true }
def PinPlacesUptoSaid : Prop := pinPlacesUptoRow.holds Tryd.pinned (OpenSpec.upto pinPlacesSpec)

/-- 'hachurelaw10.PinCovered', WHERE WHAT IT READS IS OF BULK AT MOST 1048576: true; the input reads as it did. -/
def pinCoveredUptoRow : OpenClaim := { program := "ythkgnhcknkjgdaadoor", sum := "a99ca61d25a2fef77009681b86adcd86b4555f798e74dade35a2d43ddc1ab5f9", func := "hachure/hachurelaw10.PinCovered", spec := "pinCovered", unfollowed := true, recurses := true, named := ["math/bits.deBruijn32tab", "math/bits.deBruijn64tab"], plainKeys := false, apart := false, laid := [("math/bits.deBruijn32tab", laid_math_bits_deBruijn32tab), ("math/bits.deBruijn64tab", laid_math_bits_deBruijn64tab)], narrowed := true }
def PinCoveredUptoSaid : Prop := pinCoveredUptoRow.holds Tryd.pinned (OpenSpec.upto pinCoveredSpec)

/-- 'hachurelaw10.PinOff', WHERE WHAT IT READS IS OF BULK AT MOST 1048576: true; the input reads as it did. -/
def pinOffUptoRow : OpenClaim := { program := "ythkgnhcknkjgdaadoor", sum := "a99ca61d25a2fef77009681b86adcd86b4555f798e74dade35a2d43ddc1ab5f9", func := "hachure/hachurelaw10.PinOff", spec := "pinOff", unfollowed := true, recurses := true, named := ["math/bits.deBruijn32tab", "math/bits.deBruijn64tab"], plainKeys := false, apart := false, laid := [("math/bits.deBruijn32tab", laid_math_bits_deBruijn32tab), ("math/bits.deBruijn64tab", laid_math_bits_deBruijn64tab)], narrowed := true }
def PinOffUptoSaid : Prop := pinOffUptoRow.holds Tryd.pinned (OpenSpec.upto pinOffSpec)

/-- 'hachurelaw10.PinMirrored', WHERE WHAT IT READS IS OF BULK AT MOST 1048576: true; the input reads as it did. -/
def pinMirroredUptoRow : OpenClaim := { program := "ythkgnhcknkjgdaadoor", sum := "a99ca61d25a2fef77009681b86adcd86b4555f798e74dade35a2d43ddc1ab5f9", func := "hachure/hachurelaw10.PinMirrored", spec := "pinMirrored", unfollowed := true, recurses := true, named := ["math/bits.deBruijn32tab", "math/bits.deBruijn64tab"], plainKeys := false, apart := false, laid := [("math/bits.deBruijn32tab", laid_math_bits_deBruijn32tab), ("math/bits.deBruijn64tab", laid_math_bits_deBruijn64tab)], narrowed := true }
def PinMirroredUptoSaid : Prop := pinMirroredUptoRow.holds Tryd.pinned (OpenSpec.upto pinMirroredSpec)

/-- 'hachurelaw10.PinHigher', WHERE WHAT IT READS IS OF BULK AT MOST 1048576: true; the input reads as it did. -/
def pinHigherUptoRow : OpenClaim := { program := "ythkgnhcknkjgdaadoor", sum := "a99ca61d25a2fef77009681b86adcd86b4555f798e74dade35a2d43ddc1ab5f9", func := "hachure/hachurelaw10.PinHigher", spec := "pinHigher", unfollowed := true, recurses := true, named := ["math/bits.deBruijn32tab", "math/bits.deBruijn64tab"], plainKeys := false, apart := false, laid := [("math/bits.deBruijn32tab", laid_math_bits_deBruijn32tab), ("math/bits.deBruijn64tab", laid_math_bits_deBruijn64tab)], narrowed := true }
def PinHigherUptoSaid : Prop := pinHigherUptoRow.holds Tryd.pinned (OpenSpec.upto pinHigherSpec)

end Rows
end Go.Proofs.YthkgnhcknkjgdaaDoor
