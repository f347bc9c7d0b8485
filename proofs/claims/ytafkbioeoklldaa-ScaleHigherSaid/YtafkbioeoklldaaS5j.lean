/-
  What the document's example comes to.
  No conditions: no program is in sight.
-/
import Derived.Test.YtafkbioeoklldaaS5h
import Derived.Test.YtafkbioeoklldaaS5i
set_option linter.unusedSimpArgs false
set_option linter.unusedVariables false
namespace Go.Proofs.Ytafkbioeoklldaa
open Go
def caH : List Int := [100, 110, 125, 160]
def caR : List (Int × Int) := [(0, 1), (1, 2), (3, 2)]
theorem a17 : cutsR 2 100 50 caH caR 1 2 = [0, 5, 13, 30] ∧ askE 2 100 50 caH caR 1 2 = 0 := by decide +kernel
theorem a20 : offsR 2 100 50 caH caR 2 3 = [50, 0, 15] ∧ askE 2 100 50 caH caR 2 3 = 0 := by decide +kernel
theorem a22 : flatsR 2 100 50 caH caR 1 30 = [0] ∧ askE 2 100 50 caH caR 1 30 = 0 := by decide +kernel
theorem a27 : grtR 2 100 50 caH caR 47 = ((5, 6), 0) := by decide +kernel
theorem a29 : lstR 2 100 50 caH caR = ((1, 16), 0) := by decide +kernel
theorem a31 : scalesR 2 100 50 caH caR [(3, 41, 41)] = [(19, 28), (17, 25), (15, 22), (13, 19), (11, 16), (20, 29)] ∧ marksE 2 100 50 caH caR [(3, 41, 41)] = 0 := by decide +kernel
theorem a24 : apartR 2 100 50 caH caR 1 2 2 3 = [1, 2, 3] ∧ ask2 2 100 50 caH caR 1 2 2 3 = 0 := by decide +kernel
theorem a34 : tellR 2 100 50 caH caR [(1, 2), (3, 5), (2, 3)] = [1] ∧ tellE 2 100 50 caH caR [(1, 2), (3, 5), (2, 3)] = 0 := by decide +kernel
theorem a34b : tellR 2 100 50 caH caR [(19, 28), (17, 25)] = [] ∧ tellE 2 100 50 caH caR [(19, 28), (17, 25)] = 5 := by decide +kernel
theorem b17 : cutsR 2 100 50 caH caR 2 3 = [0, 7, 17, 40] ∧ askE 2 100 50 caH caR 2 3 = 0 := by decide +kernel
theorem b17d : cutsR 1 100 50 caH caR 2 3 = [0, 6, 16, 40] ∧ askE 1 100 50 caH caR 2 3 = 0 := by decide +kernel
theorem b17u : cutsR 3 100 50 caH caR 2 3 = [0, 7, 17, 40] ∧ askE 3 100 50 caH caR 2 3 = 0 := by decide +kernel
theorem b20 : offsR 2 100 50 caH caR 1 2 = [0, 67, 29] ∧ askE 2 100 50 caH caR 1 2 = 0 := by decide +kernel
theorem b22 : flatsR 2 100 50 caH caR 1 2 = [] ∧ askE 2 100 50 caH caR 1 2 = 0 := by decide +kernel
theorem b27 : grtR 2 100 50 caH caR 0 = ((4, 5), 0) := by decide +kernel
theorem b27b : grtR 2 100 50 caH caR 48 = ((21, 25), 0) := by decide +kernel
theorem b31 : scalesR 2 100 50 caH caR [(2, 17, 17), (3, 40, 40)] = [(2, 3)] ∧ marksE 2 100 50 caH caR [(2, 17, 17), (3, 40, 40)] = 0 := by decide +kernel
theorem b24 : apartR 2 100 50 caH caR 19 28 17 25 = [] ∧ ask2 2 100 50 caH caR 19 28 17 25 = 0 := by decide +kernel
end Go.Proofs.Ytafkbioeoklldaa
