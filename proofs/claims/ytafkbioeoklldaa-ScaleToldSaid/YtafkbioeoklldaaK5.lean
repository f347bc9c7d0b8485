/-
  Plain lemmas and plain functions, several texts joined.
  Conditions stand in each theorem.
-/
import Derived.Test.YtafkbioeoklldaaK2
import Derived.Laws.Small
set_option linter.unusedSimpArgs false
set_option linter.unusedVariables false
/-
  Bools compared.
  No conditions: plain lemmas over any program.
-/
namespace Go.K
open Go.RowKit
section
variable {P : Program} {l : List Value} {d : Option Tmp} {ty : TypeId} {ps : String} {af : Array Edge} {g : Option (Nat × Bool)} {xt yt : TypeId} {x y : Operand} {m n : Bool}
theorem eql_b (hu : P.underlying xt = some .bool) (hx : ev l x = .bool m) (hy : ev l y = .bool n) : Pure P ⟨d, .binOp .eql xt x y yt, ty, ps, af, g⟩ l (.bool (decide (m = n))) := fun w => by
  have e : (m == n) = decide (m = n) := by cases m <;> cases n <;> rfl
  simp [execOp, hx, hy, eqGuard_at_bool, run_eql_bool w xt m n hu, e]
theorem neq_b (hu : P.underlying xt = some .bool) (hx : ev l x = .bool m) (hy : ev l y = .bool n) : Pure P ⟨d, .binOp .neq xt x y yt, ty, ps, af, g⟩ l (.bool (decide (m ≠ n))) := fun w => by
  have e : (!(m == n)) = decide (m ≠ n) := by cases m <;> cases n <;> rfl
  simp only [execOp, hx, hy, eqGuard_at_bool, run_neq_bool w xt m n hu, e, Sem.run_bind, Sem.run_pure, Result.andThen_ok]
theorem rem_u8 {a b : Int} (hx : ev l x = .int .u8 a) (hy : ev l y = .int .u8 b) (h0 : 0 ≤ a) (h1 : 0 < b) : Pure P ⟨d, .binOp .rem xt x y yt, ty, ps, af, g⟩ l (.int .u8 (a % b)) := fun w => by
  have hd : a.tmod b = a % b := Int.tmod_eq_emod_of_nonneg h0
  simp [execOp, hx, hy, eqGuard_rem, binOp_rem, Op.intDiv, show b ≠ 0 by omega, hd]
end
end Go.K
