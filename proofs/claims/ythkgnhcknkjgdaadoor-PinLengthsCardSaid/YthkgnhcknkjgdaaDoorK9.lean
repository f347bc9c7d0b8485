/-
  Plain lemmas and plain functions, several texts joined.
  Conditions stand in each theorem.
-/
import Derived.Test.YthkgnhcknkjgdaaDoorK1
import Derived.WalkSpells
set_option linter.unusedSimpArgs false
set_option linter.unusedVariables false
/-
  Bools that are compared.
  No conditions: plain lemmas over any program.
-/
namespace Go.K
open Go.RowKit
def boT (P : Program) (t : TypeId) : Bool := match P.underlying t with | some .bool => true | _ => false
theorem boT_spec {P : Program} {t : TypeId} (h : boT P t = true) : P.underlying t = some .bool := by
  unfold boT at h
  split at h
  · assumption
  · cases h
section
variable {P : Program} {w0 : World} {L : List Chunk} {l : List Value} {d : Option Tmp} {ty : TypeId} {ps : String} {af : Array Edge} {g : Option (Nat × Bool)} {xt yt : TypeId} {x y : Operand} {a b : Bool}
theorem run_equalIn_b (h : boT P xt = true) (w : World) (k : Nat) : (Op.equalIn (k + 1) xt (.bool a) (.bool b)).run P w = .ok (a == b) w := by
  simp [Op.equalIn, run_underlying (boT_spec h)]
theorem run_equal_b (h : boT P xt = true) (w : World) : (Op.equal xt (.bool a) (.bool b)).run P w = .ok (a == b) w := by
  simp only [Op.equal, Op.maxDepth, run_equalIn_b h w 9999]
theorem eql_b (h : boT P xt = true) (hx : ev l x = .bool a) (hy : ev l y = .bool b) : Pure P ⟨d, .binOp .eql xt x y yt, ty, ps, af, g⟩ l (.bool (a == b)) := fun w => by
  simp [execOp, hx, hy, binOp, eqGuard, run_equal_b h]
theorem neq_b (h : boT P xt = true) (hx : ev l x = .bool a) (hy : ev l y = .bool b) : Pure P ⟨d, .binOp .neq xt x y yt, ty, ps, af, g⟩ l (.bool (a != b)) := fun w => by
  simp [execOp, hx, hy, binOp, eqGuard, run_equal_b h, bne]
end
end Go.K
