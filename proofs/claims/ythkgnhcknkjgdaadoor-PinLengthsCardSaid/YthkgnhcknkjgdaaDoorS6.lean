/-
  Plain lemmas and plain functions, several texts joined.
  Conditions stand in each theorem.
-/
import Derived.Test.YthkgnhcknkjgdaaDoorS5
set_option linter.unusedSimpArgs false
set_option linter.unusedVariables false
/-
  The models of the examples.
  No conditions: no program is in sight.
-/
namespace Go.Proofs.YthkgnhcknkjgdaaDoor
open Go
def oakS : ByteArray := ⟨#[111, 97, 107]⟩
def elmS : ByteArray := ⟨#[101, 108, 109]⟩
def ashS : ByteArray := ⟨#[97, 115, 104]⟩
def modS (most : Int) : Mod := ⟨4, 2, [0, 10, 0, 20, 0, 0, 0, 0], [⟨oakS, 0, 0, 30, 60⟩, ⟨elmS, 2, 0, 26, 100⟩, ⟨ashS, 3, 0, 5, most⟩], [⟨-2, 0, 30, 100⟩]⟩
def mod1 (most : Int) : Mod := { modS most with ps := (modS most).ps.take 1 }
theorem ex_chk : (chk (modS 40)).2.2 = 0 := by decide +kernel
theorem ex_chk11 : (chk (modS 11)).2.2 = 0 := by decide +kernel
theorem ex_chk1 : (chk (mod1 40)).2.2 = 0 := by decide +kernel
theorem ex_hid : hidL (modS 40) 0 30 2 = [0, 2] ∧ hidE (modS 40) 0 30 2 = 0 := by decide +kernel
theorem ex_hid1 : hidL (modS 40) 0 30 1 = [0] ∧ hidE (modS 40) 0 30 1 = 0 := by decide +kernel
theorem ex_hid2 : hidL (modS 40) 0 100 1 = [] ∧ hidE (modS 40) 0 100 1 = 0 := by decide +kernel
theorem ex_seen : sureL (modS 40) 0 = [0] ∧ mayL (modS 40) 0 = [0, 1, 2] ∧ seenE (modS 40) 0 = 0 := by decide +kernel
theorem ex_eye : eyeR (modS 40) 0 1 = (35, 0) ∧ eyeR (modS 40) 0 0 = (0, 0) ∧ eyeR (modS 40) 0 2 = (34, 0) := by decide +kernel
theorem ex_lng : lngL (modS 40) = [30, 31, 12] ∧ lngE (modS 40) = 0 ∧ lngE (modS 11) = 9 := by decide +kernel
theorem ex_stuck : stuckS (modS 40) = (0, 0, 0, 0, 4) ∧ stuckS (modS 11) = (2, 2, 0, 2, 0) := by decide +kernel
theorem ex_best : bestR (modS 40) 30 = (-1, -1, [0, 1, 2]) ∧ bestE (modS 40) 30 = 0 := by decide +kernel
theorem ex_off : offL (modS 40) = [0, 1] := by decide +kernel
theorem ex_few : fewE (modS 40) = 9 ∧ fewL (mod1 40) = [0] ∧ fewE (mod1 40) = 0 := by decide +kernel
end Go.Proofs.YthkgnhcknkjgdaaDoor
