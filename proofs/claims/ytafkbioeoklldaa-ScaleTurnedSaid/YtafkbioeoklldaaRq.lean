/-
  Plain lemmas and plain functions, several texts joined.
  Conditions stand in each theorem.
-/
import Derived.Test.YtafkbioeoklldaaRo
set_option linter.unusedSimpArgs false
set_option linter.unusedVariables false
/-
  Further arguments, opened: three bytes.
  No conditions but those in the theorem.
-/
namespace Go.Proofs.Ytafkbioeoklldaa
open Go.ChangeShapes Go.WideShapes Go.Deep Go.RowKit Go.Joins
section
variable {H : Type} {enc : TypeId × Value → H} {w : World} {base : Nat} {spare : Nat → Bool} {held : Bool}
set_option maxRecDepth 100000 in
theorem open_u3 {b0 : Nat} {v : Value} {d : DataW H} {p : List MemPlace} (hv : Value.okWide Try.prog w .any b0 81 v) (h : DataW.Trod enc Try.prog w base spare held 81 v d p) : ∃ x0 x1 x2 : Int, v = .agg #[.int .u8 x0, .int .u8 x1, .int .u8 x2] ∧ (0 ≤ x0 ∧ x0 ≤ 255) ∧ (0 ≤ x1 ∧ x1 ≤ 255) ∧ (0 ≤ x2 ∧ x2 ≤ 255) := by
  obtain ⟨xs, hl, rfl, hx⟩ := open_bytes Try.underlying81 Try.underlying5 (by kernel_rfl) (by kernel_rfl) hv h
  match xs, hl with
  | [x0, x1, x2], _ => exact ⟨x0, x1, x2, rfl, hx _ (by simp), hx _ (by simp), hx _ (by simp)⟩
end
end Go.Proofs.Ytafkbioeoklldaa
