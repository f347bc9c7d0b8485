/-
  No cell of these rows narrows 'for every input' (looked for: loops, veiled, ifaces, maps, wideKeys, modest, calm, conditions, laid).
  DERIVED. THE GIVEN ROWS OF THIS SEAT. 12 by the template 'for every input the law returns true; each argument reads behind the call as it read before'; 0 by the template 'total and deterministic' (their statements: YtafkbioeoklldaaTotals.lean).
  GIVEN WITH THE SEED: the statements are not yours to turn. If you find one false, say at which input.
  Laid BY PROGRAM, IN A SANDBOX (cutbox-rows.mjs): the forced cells as the released guide's own fill.sh prints them over the translation 050baf7db1d8979f… (all of the seat's roots in one cut). By AI agents, Wed Nov 11 2026. No macro, syntax, notation, axiom, sorry.
-/
import Derived.Test.YtafkbioeoklldaaChecked
import GoSem.Claim
import GoSem.ClaimJoined
import GoSem.ClaimMapViews
import Derived.JoinedTies
import Derived.KernelRfl
namespace Go.Proofs.Ytafkbioeoklldaa
/- THE CELL 'sum', in the pinned program and in every row, IS THE sha256 OF THE DUMP (.gsa) THAT YtafkbioeoklldaaProg.lean LOADS. Nothing in Lean hashes anything: it is a label: what it is worth is what the hold of that sum in a sandbox is worth. -/
noncomputable def Try.pinned : Pinned := { name := "ytafkbioeoklldaa", sum := "050baf7db1d8979fe493cf688440ec8963a2a60f587abf38f2a95635c0081112", checked := Try.checked }
namespace Rows
def none {H : Type} : Left H := { results := [], args := [] }

/-- 'hachurelaw05.ScaleCuts': WHATEVER THE INPUT: true; the input reads as it did. -/
def scaleCutsSpec : ChangeSpec := { name := "scaleCuts", fn := fun _ => fun
  | [d1, d2, d3] => { results := [.lit (.bool true)], args := [d1, d2, d3] }
  | _ => none }
def scaleCutsRow : OpenClaim := { program := "ytafkbioeoklldaa", sum := "050baf7db1d8979fe493cf688440ec8963a2a60f587abf38f2a95635c0081112", func := "hachure/hachurelaw05.ScaleCuts", spec := "scaleCuts", unfollowed := true, recurses := true, plainKeys := false, apart := false }
def ScaleCutsSaid : Prop := scaleCutsRow.holds Try.pinned (OpenSpec.ofChange scaleCutsSpec)

/-- ITS FALSE NEIGHBOUR: 'it returns false'. Refute it at one input. -/
def scaleCutsWrong : ChangeSpec := { name := "scaleCuts", fn := fun _ => fun
  | [d1, d2, d3] => { results := [.lit (.bool false)], args := [d1, d2, d3] }
  | _ => none }
def ScaleCutsWrongFalsely : Prop := scaleCutsRow.holds Try.pinned (OpenSpec.ofChange scaleCutsWrong)

/-- 'hachurelaw05.ScaleEnds': WHATEVER THE INPUT: true; the input reads as it did. -/
def scaleEndsSpec : ChangeSpec := { name := "scaleEnds", fn := fun _ => fun
  | [d1, d2] => { results := [.lit (.bool true)], args := [d1, d2] }
  | _ => none }
def scaleEndsRow : OpenClaim := { program := "ytafkbioeoklldaa", sum := "050baf7db1d8979fe493cf688440ec8963a2a60f587abf38f2a95635c0081112", func := "hachure/hachurelaw05.ScaleEnds", spec := "scaleEnds", unfollowed := true, recurses := true, plainKeys := false, apart := false }
def ScaleEndsSaid : Prop := scaleEndsRow.holds Try.pinned (OpenSpec.ofChange scaleEndsSpec)

/-- ITS FALSE NEIGHBOUR: 'it returns false'. Refute it at one input. -/
def scaleEndsWrong : ChangeSpec := { name := "scaleEnds", fn := fun _ => fun
  | [d1, d2] => { results := [.lit (.bool false)], args := [d1, d2] }
  | _ => none }
def ScaleEndsWrongFalsely : Prop := scaleEndsRow.holds Try.pinned (OpenSpec.ofChange scaleEndsWrong)

/-- 'hachurelaw05.ScaleMarks': WHATEVER THE INPUT: true; the input reads as it did. -/
def scaleMarksSpec : ChangeSpec := { name := "scaleMarks", fn := fun _ => fun
  | [d1, d2, d3] => { results := [.lit (.bool true)], args := [d1, d2, d3] }
  | _ => none }
def scaleMarksRow : OpenClaim := { program := "ytafkbioeoklldaa", sum := "050baf7db1d8979fe493cf688440ec8963a2a60f587abf38f2a95635c0081112", func := "hachure/hachurelaw05.ScaleMarks", spec := "scaleMarks", unfollowed := true, recurses := true, plainKeys := false, apart := false }
def ScaleMarksSaid : Prop := scaleMarksRow.holds Try.pinned (OpenSpec.ofChange scaleMarksSpec)

/-- ITS FALSE NEIGHBOUR: 'it returns false'. Refute it at one input. -/
def scaleMarksWrong : ChangeSpec := { name := "scaleMarks", fn := fun _ => fun
  | [d1, d2, d3] => { results := [.lit (.bool false)], args := [d1, d2, d3] }
  | _ => none }
def ScaleMarksWrongFalsely : Prop := scaleMarksRow.holds Try.pinned (OpenSpec.ofChange scaleMarksWrong)

/-- 'hachurelaw05.ScaleKnown': WHATEVER THE INPUT: true; the input reads as it did. -/
def scaleKnownSpec : ChangeSpec := { name := "scaleKnown", fn := fun _ => fun
  | [] => { results := [.lit (.bool true)], args := [] }
  | _ => none }
def scaleKnownRow : OpenClaim := { program := "ytafkbioeoklldaa", sum := "050baf7db1d8979fe493cf688440ec8963a2a60f587abf38f2a95635c0081112", func := "hachure/hachurelaw05.ScaleKnown", spec := "scaleKnown", unfollowed := true, recurses := true, plainKeys := false, apart := false }
def ScaleKnownSaid : Prop := scaleKnownRow.holds Try.pinned (OpenSpec.ofChange scaleKnownSpec)

/-- ITS FALSE NEIGHBOUR: 'it returns false'. Refute it at one input. -/
def scaleKnownWrong : ChangeSpec := { name := "scaleKnown", fn := fun _ => fun
  | [] => { results := [.lit (.bool false)], args := [] }
  | _ => none }
def ScaleKnownWrongFalsely : Prop := scaleKnownRow.holds Try.pinned (OpenSpec.ofChange scaleKnownWrong)

/-- 'hachurelaw05.ScaleGreatest': WHATEVER THE INPUT: true; the input reads as it did. -/
def scaleGreatestSpec : ChangeSpec := { name := "scaleGreatest", fn := fun _ => fun
  | [d1, d2, d3] => { results := [.lit (.bool true)], args := [d1, d2, d3] }
  | _ => none }
def scaleGreatestRow : OpenClaim := { program := "ytafkbioeoklldaa", sum := "050baf7db1d8979fe493cf688440ec8963a2a60f587abf38f2a95635c0081112", func := "hachure/hachurelaw05.ScaleGreatest", spec := "scaleGreatest", unfollowed := true, recurses := true, plainKeys := false, apart := false }
def ScaleGreatestSaid : Prop := scaleGreatestRow.holds Try.pinned (OpenSpec.ofChange scaleGreatestSpec)

/-- ITS FALSE NEIGHBOUR: 'it returns false'. Refute it at one input. -/
def scaleGreatestWrong : ChangeSpec := { name := "scaleGreatest", fn := fun _ => fun
  | [d1, d2, d3] => { results := [.lit (.bool false)], args := [d1, d2, d3] }
  | _ => none }
def ScaleGreatestWrongFalsely : Prop := scaleGreatestRow.holds Try.pinned (OpenSpec.ofChange scaleGreatestWrong)

/-- 'hachurelaw05.ScaleTrue': WHATEVER THE INPUT: true; the input reads as it did. -/
def scaleTrueSpec : ChangeSpec := { name := "scaleTrue", fn := fun _ => fun
  | [d1, d2, d3] => { results := [.lit (.bool true)], args := [d1, d2, d3] }
  | _ => none }
def scaleTrueRow : OpenClaim := { program := "ytafkbioeoklldaa", sum := "050baf7db1d8979fe493cf688440ec8963a2a60f587abf38f2a95635c0081112", func := "hachure/hachurelaw05.ScaleTrue", spec := "scaleTrue", unfollowed := true, recurses := true, plainKeys := false, apart := false }
def ScaleTrueSaid : Prop := scaleTrueRow.holds Try.pinned (OpenSpec.ofChange scaleTrueSpec)

/-- ITS FALSE NEIGHBOUR: 'it returns false'. Refute it at one input. -/
def scaleTrueWrong : ChangeSpec := { name := "scaleTrue", fn := fun _ => fun
  | [d1, d2, d3] => { results := [.lit (.bool false)], args := [d1, d2, d3] }
  | _ => none }
def ScaleTrueWrongFalsely : Prop := scaleTrueRow.holds Try.pinned (OpenSpec.ofChange scaleTrueWrong)

/-- 'hachurelaw05.ScaleLeast': WHATEVER THE INPUT: true; the input reads as it did. -/
def scaleLeastSpec : ChangeSpec := { name := "scaleLeast", fn := fun _ => fun
  | [d1, d2] => { results := [.lit (.bool true)], args := [d1, d2] }
  | _ => none }
def scaleLeastRow : OpenClaim := { program := "ytafkbioeoklldaa", sum := "050baf7db1d8979fe493cf688440ec8963a2a60f587abf38f2a95635c0081112", func := "hachure/hachurelaw05.ScaleLeast", spec := "scaleLeast", unfollowed := true, recurses := true, plainKeys := false, apart := false }
def ScaleLeastSaid : Prop := scaleLeastRow.holds Try.pinned (OpenSpec.ofChange scaleLeastSpec)

/-- ITS FALSE NEIGHBOUR: 'it returns false'. Refute it at one input. -/
def scaleLeastWrong : ChangeSpec := { name := "scaleLeast", fn := fun _ => fun
  | [d1, d2] => { results := [.lit (.bool false)], args := [d1, d2] }
  | _ => none }
def ScaleLeastWrongFalsely : Prop := scaleLeastRow.holds Try.pinned (OpenSpec.ofChange scaleLeastWrong)

/-- 'hachurelaw05.ScaleTold': WHATEVER THE INPUT: true; the input reads as it did. -/
def scaleToldSpec : ChangeSpec := { name := "scaleTold", fn := fun _ => fun
  | [d1, d2, d3] => { results := [.lit (.bool true)], args := [d1, d2, d3] }
  | _ => none }
def scaleToldRow : OpenClaim := { program := "ytafkbioeoklldaa", sum := "050baf7db1d8979fe493cf688440ec8963a2a60f587abf38f2a95635c0081112", func := "hachure/hachurelaw05.ScaleTold", spec := "scaleTold", unfollowed := true, recurses := true, plainKeys := false, apart := false }
def ScaleToldSaid : Prop := scaleToldRow.holds Try.pinned (OpenSpec.ofChange scaleToldSpec)

/-- ITS FALSE NEIGHBOUR: 'it returns false'. Refute it at one input. -/
def scaleToldWrong : ChangeSpec := { name := "scaleTold", fn := fun _ => fun
  | [d1, d2, d3] => { results := [.lit (.bool false)], args := [d1, d2, d3] }
  | _ => none }
def ScaleToldWrongFalsely : Prop := scaleToldRow.holds Try.pinned (OpenSpec.ofChange scaleToldWrong)

/-- 'hachurelaw05.ScaleOff': WHATEVER THE INPUT: true; the input reads as it did. -/
def scaleOffSpec : ChangeSpec := { name := "scaleOff", fn := fun _ => fun
  | [d1, d2] => { results := [.lit (.bool true)], args := [d1, d2] }
  | _ => none }
def scaleOffRow : OpenClaim := { program := "ytafkbioeoklldaa", sum := "050baf7db1d8979fe493cf688440ec8963a2a60f587abf38f2a95635c0081112", func := "hachure/hachurelaw05.ScaleOff", spec := "scaleOff", unfollowed := true, recurses := true, plainKeys := false, apart := false }
def ScaleOffSaid : Prop := scaleOffRow.holds Try.pinned (OpenSpec.ofChange scaleOffSpec)

/-- ITS FALSE NEIGHBOUR: 'it returns false'. Refute it at one input. -/
def scaleOffWrong : ChangeSpec := { name := "scaleOff", fn := fun _ => fun
  | [d1, d2] => { results := [.lit (.bool false)], args := [d1, d2] }
  | _ => none }
def ScaleOffWrongFalsely : Prop := scaleOffRow.holds Try.pinned (OpenSpec.ofChange scaleOffWrong)

/-- 'hachurelaw05.ScaleHigher': WHATEVER THE INPUT: true; the input reads as it did. -/
def scaleHigherSpec : ChangeSpec := { name := "scaleHigher", fn := fun _ => fun
  | [d1, d2] => { results := [.lit (.bool true)], args := [d1, d2] }
  | _ => none }
def scaleHigherRow : OpenClaim := { program := "ytafkbioeoklldaa", sum := "050baf7db1d8979fe493cf688440ec8963a2a60f587abf38f2a95635c0081112", func := "hachure/hachurelaw05.ScaleHigher", spec := "scaleHigher", unfollowed := true, recurses := true, plainKeys := false, apart := false }
def ScaleHigherSaid : Prop := scaleHigherRow.holds Try.pinned (OpenSpec.ofChange scaleHigherSpec)

/-- ITS FALSE NEIGHBOUR: 'it returns false'. Refute it at one input. -/
def scaleHigherWrong : ChangeSpec := { name := "scaleHigher", fn := fun _ => fun
  | [d1, d2] => { results := [.lit (.bool false)], args := [d1, d2] }
  | _ => none }
def ScaleHigherWrongFalsely : Prop := scaleHigherRow.holds Try.pinned (OpenSpec.ofChange scaleHigherWrong)

/-- 'hachurelaw05.ScaleTurned': WHATEVER THE INPUT: true; the input reads as it did. -/
def scaleTurnedSpec : ChangeSpec := { name := "scaleTurned", fn := fun _ => fun
  | [d1, d2, d3] => { results := [.lit (.bool true)], args := [d1, d2, d3] }
  | _ => none }
def scaleTurnedRow : OpenClaim := { program := "ytafkbioeoklldaa", sum := "050baf7db1d8979fe493cf688440ec8963a2a60f587abf38f2a95635c0081112", func := "hachure/hachurelaw05.ScaleTurned", spec := "scaleTurned", unfollowed := true, recurses := true, plainKeys := false, apart := false }
def ScaleTurnedSaid : Prop := scaleTurnedRow.holds Try.pinned (OpenSpec.ofChange scaleTurnedSpec)

/-- ITS FALSE NEIGHBOUR: 'it returns false'. Refute it at one input. -/
def scaleTurnedWrong : ChangeSpec := { name := "scaleTurned", fn := fun _ => fun
  | [d1, d2, d3] => { results := [.lit (.bool false)], args := [d1, d2, d3] }
  | _ => none }
def ScaleTurnedWrongFalsely : Prop := scaleTurnedRow.holds Try.pinned (OpenSpec.ofChange scaleTurnedWrong)

/-- 'hachurelaw05.ScaleMore': WHATEVER THE INPUT: true; the input reads as it did. -/
def scaleMoreSpec : ChangeSpec := { name := "scaleMore", fn := fun _ => fun
  | [d1, d2, d3] => { results := [.lit (.bool true)], args := [d1, d2, d3] }
  | _ => none }
def scaleMoreRow : OpenClaim := { program := "ytafkbioeoklldaa", sum := "050baf7db1d8979fe493cf688440ec8963a2a60f587abf38f2a95635c0081112", func := "hachure/hachurelaw05.ScaleMore", spec := "scaleMore", unfollowed := true, recurses := true, plainKeys := false, apart := false }
def ScaleMoreSaid : Prop := scaleMoreRow.holds Try.pinned (OpenSpec.ofChange scaleMoreSpec)

/-- ITS FALSE NEIGHBOUR: 'it returns false'. Refute it at one input. -/
def scaleMoreWrong : ChangeSpec := { name := "scaleMore", fn := fun _ => fun
  | [d1, d2, d3] => { results := [.lit (.bool false)], args := [d1, d2, d3] }
  | _ => none }
def ScaleMoreWrongFalsely : Prop := scaleMoreRow.holds Try.pinned (OpenSpec.ofChange scaleMoreWrong)

/- THE SECOND FORM. 'bulk': how many values and letters a reading holds, each counted each time it is reached (what is shared counts as often as it is met; a slice's spare places count too). A statement '..UptoSaid' is the law's where the arguments, and the package variables that the reading takes, are together of bulk at most 1048576: NARROWER than '..Said'. Prove '..Said' where nothing that the law and all that it calls make is longer than what came in: it says more and counts as full. Else prove '..UptoSaid'. A law counts once. -/
mutual
def uptoBulk {H : Type} : DataW H → Nat
  | .lit (.string bytes) => bytes.length + 1
  | .lit _ => 1
  | .nil => 1
  | .ptr d => uptoBulk d + 1
  | .slice elems spare => uptoBulkAll elems + uptoBulkAll spare + 1
  | .agg parts => uptoBulkAll parts + 1
  | .iface _ d => uptoBulk d + 1
  | .map entries => uptoBulkEntries entries + 1
  | .held _ => 1
def uptoBulkAll {H : Type} : List (DataW H) → Nat
  | [] => 0
  | d :: r => uptoBulk d + uptoBulkAll r
def uptoBulkEntries {H : Type} : List (Lit × DataW H) → Nat
  | [] => 0
  | x :: r => uptoBulkEntry x + uptoBulkEntries r
def uptoBulkEntry {H : Type} : Lit × DataW H → Nat
  | (.string bytes, d) => bytes.length + uptoBulk d + 1
  | (_, d) => uptoBulk d + 1
 end
def uptoSmall : (H : Type) → List (DataW H) → Bool := fun _ ds => decide (uptoBulkAll ds ≤ 1048576)
def OpenSpec.upto (s : _root_.Go.ChangeSpec) : _root_.Go.OpenSpec := { _root_.Go.OpenSpec.ofChange s with cond := some uptoSmall }

/-- 'hachurelaw05.ScaleCuts', WHERE WHAT IT READS IS OF BULK AT MOST 1048576: true; the input reads as it did. -/
def scaleCutsUptoRow : OpenClaim := { program := "ytafkbioeoklldaa", sum := "050baf7db1d8979fe493cf688440ec8963a2a60f587abf38f2a95635c0081112", func := "hachure/hachurelaw05.ScaleCuts", spec := "scaleCuts", unfollowed := true, recurses := true, plainKeys := false, apart := false, narrowed := true }
def ScaleCutsUptoSaid : Prop := scaleCutsUptoRow.holds Try.pinned (OpenSpec.upto scaleCutsSpec)

/-- 'hachurelaw05.ScaleEnds', WHERE WHAT IT READS IS OF BULK AT MOST 1048576: true; the input reads as it did. -/
def scaleEndsUptoRow : OpenClaim := { program := "ytafkbioeoklldaa", sum := "050baf7db1d8979fe493cf688440ec8963a2a60f587abf38f2a95635c0081112", func := "hachure/hachurelaw05.ScaleEnds", spec := "scaleEnds", unfollowed := true, recurses := true, plainKeys := false, apart := false, narrowed := true }
def ScaleEndsUptoSaid : Prop := scaleEndsUptoRow.holds Try.pinned (OpenSpec.upto scaleEndsSpec)

/-- 'hachurelaw05.ScaleMarks', WHERE WHAT IT READS IS OF BULK AT MOST 1048576: true; the input reads as it did. -/
def scaleMarksUptoRow : OpenClaim := { program := "ytafkbioeoklldaa", sum := "050baf7db1d8979fe493cf688440ec8963a2a60f587abf38f2a95635c0081112", func := "hachure/hachurelaw05.ScaleMarks", spec := "scaleMarks", unfollowed := true, recurses := true, plainKeys := false, apart := false, narrowed := true }
def ScaleMarksUptoSaid : Prop := scaleMarksUptoRow.holds Try.pinned (OpenSpec.upto scaleMarksSpec)

/-- 'hachurelaw05.ScaleKnown', WHERE WHAT IT READS IS OF BULK AT MOST 1048576: true; the input reads as it did. -/
def scaleKnownUptoRow : OpenClaim := { program := "ytafkbioeoklldaa", sum := "050baf7db1d8979fe493cf688440ec8963a2a60f587abf38f2a95635c0081112", func := "hachure/hachurelaw05.ScaleKnown", spec := "scaleKnown", unfollowed := true, recurses := true, plainKeys := false, apart := false, narrowed := true }
def ScaleKnownUptoSaid : Prop := scaleKnownUptoRow.holds Try.pinned (OpenSpec.upto scaleKnownSpec)

/-- 'hachurelaw05.ScaleGreatest', WHERE WHAT IT READS IS OF BULK AT MOST 1048576: true; the input reads as it did. -/
def scaleGreatestUptoRow : OpenClaim := { program := "ytafkbioeoklldaa", sum := "050baf7db1d8979fe493cf688440ec8963a2a60f587abf38f2a95635c0081112", func := "hachure/hachurelaw05.ScaleGreatest", spec := "scaleGreatest", unfollowed := true, recurses := true, plainKeys := false, apart := false, narrowed := true }
def ScaleGreatestUptoSaid : Prop := scaleGreatestUptoRow.holds Try.pinned (OpenSpec.upto scaleGreatestSpec)

/-- 'hachurelaw05.ScaleTrue', WHERE WHAT IT READS IS OF BULK AT MOST 1048576: true; the input reads as it did. -/
def scaleTrueUptoRow : OpenClaim := { program := "ytafkbioeoklldaa", sum := "050baf7db1d8979fe493cf688440ec8963a2a60f587abf38f2a95635c0081112", func := "hachure/hachurelaw05.ScaleTrue", spec := "scaleTrue", unfollowed := true, recurses := true, plainKeys := false, apart := false, narrowed := true }
def ScaleTrueUptoSaid : Prop := scaleTrueUptoRow.holds Try.pinned (OpenSpec.upto scaleTrueSpec)

/-- 'hachurelaw05.ScaleLeast', WHERE WHAT IT READS IS OF BULK AT MOST 1048576: true; the input reads as it did. -/
def scaleLeastUptoRow : OpenClaim := { program := "ytafkbioeoklldaa", sum := "050baf7db1d8979fe493cf688440ec8963a2a60f587abf38f2a95635c0081112", func := "hachure/hachurelaw05.ScaleLeast", spec := "scaleLeast", unfollowed := true, recurses := true, plainKeys := false, apart := false, narrowed := true }
def ScaleLeastUptoSaid : Prop := scaleLeastUptoRow.holds Try.pinned (OpenSpec.upto scaleLeastSpec)

/-- 'hachurelaw05.ScaleTold', WHERE WHAT IT READS IS OF BULK AT MOST 1048576: true; the input reads as it did. -/
def scaleToldUptoRow : OpenClaim := { program := "ytafkbioeoklldaa", sum := "050baf7db1d8979fe493cf688440ec8963a2a60f587abf38f2a95635c0081112", func := "hachure/hachurelaw05.ScaleTold", spec := "scaleTold", unfollowed := true, recurses := true, plainKeys := false, apart := false, narrowed := true }
def ScaleToldUptoSaid : Prop := scaleToldUptoRow.holds Try.pinned (OpenSpec.upto scaleToldSpec)

/-- 'hachurelaw05.ScaleOff', WHERE WHAT IT READS IS OF BULK AT MOST 1048576: true; the input reads as it did. -/
def scaleOffUptoRow : OpenClaim := { program := "ytafkbioeoklldaa", sum := "050baf7db1d8979fe493cf688440ec8963a2a60f587abf38f2a95635c0081112", func := "hachure/hachurelaw05.ScaleOff", spec := "scaleOff", unfollowed := true, recurses := true, plainKeys := false, apart := false, narrowed := true }
def ScaleOffUptoSaid : Prop := scaleOffUptoRow.holds Try.pinned (OpenSpec.upto scaleOffSpec)

/-- 'hachurelaw05.ScaleHigher', WHERE WHAT IT READS IS OF BULK AT MOST 1048576: true; the input reads as it did. -/
def scaleHigherUptoRow : OpenClaim := { program := "ytafkbioeoklldaa", sum := "050baf7db1d8979fe493cf688440ec8963a2a60f587abf38f2a95635c0081112", func := "hachure/hachurelaw05.ScaleHigher", spec := "scaleHigher", unfollowed := true, recurses := true, plainKeys := false, apart := false, narrowed := true }
def ScaleHigherUptoSaid : Prop := scaleHigherUptoRow.holds Try.pinned (OpenSpec.upto scaleHigherSpec)

/-- 'hachurelaw05.ScaleTurned', WHERE WHAT IT READS IS OF BULK AT MOST 1048576: true; the input reads as it did. -/
def scaleTurnedUptoRow : OpenClaim := { program := "ytafkbioeoklldaa", sum := "050baf7db1d8979fe493cf688440ec8963a2a60f587abf38f2a95635c0081112", func := "hachure/hachurelaw05.ScaleTurned", spec := "scaleTurned", unfollowed := true, recurses := true, plainKeys := false, apart := false, narrowed := true }
def ScaleTurnedUptoSaid : Prop := scaleTurnedUptoRow.holds Try.pinned (OpenSpec.upto scaleTurnedSpec)

/-- 'hachurelaw05.ScaleMore', WHERE WHAT IT READS IS OF BULK AT MOST 1048576: true; the input reads as it did. -/
def scaleMoreUptoRow : OpenClaim := { program := "ytafkbioeoklldaa", sum := "050baf7db1d8979fe493cf688440ec8963a2a60f587abf38f2a95635c0081112", func := "hachure/hachurelaw05.ScaleMore", spec := "scaleMore", unfollowed := true, recurses := true, plainKeys := false, apart := false, narrowed := true }
def ScaleMoreUptoSaid : Prop := scaleMoreUptoRow.holds Try.pinned (OpenSpec.upto scaleMoreSpec)

end Rows
end Go.Proofs.Ytafkbioeoklldaa
