/-
  Conversions, shifts, operations on bits and on numbers of any kind.
  No conditions: plain lemmas over any program.
-/
import Derived.Test.YtafkbioeoklldaaKi
set_option linter.unusedSimpArgs false
set_option linter.unusedVariables false
namespace Go.K
open Go.RowKit
section
variable {P : Program} {l : List Value} {d : Option Tmp} {ty : TypeId} {ps : String} {af : Array Edge} {g : Option (Nat × Bool)}
/-- The type is of ints of kind k. -/
def ik (P : Program) (t : TypeId) : Option IntKind := match P.underlying t with | some (.int k) => some k | _ => none
theorem ik_spec {t : TypeId} {k : IntKind} (h : ik P t = some k) : P.underlying t = some (.int k) := by
  unfold ik at h
  split at h
  · rename_i k' hk; cases h; exact hk
  · cases h
theorem conv_int {src dst : TypeId} {x : Operand} {k k' ks : IntKind} {n : Int} (hs : ik P src = some ks) (hd : ik P dst = some k') (hx : ev l x = .int k n) : Pure P ⟨d, .convert src dst x, ty, ps, af, g⟩ l (.int k' (k'.wrap n)) := fun w => by
  simp [execOp, hx, convert, Sem.run_bind, run_underlying (ik_spec hs) w, run_underlying (ik_spec hd) w, Conv.intToInt]
section
variable {xt yt : TypeId} {x y : Operand} {k k' : IntKind} {m n : Int}
theorem shr_int (hx : ev l x = .int k m) (hy : ev l y = .int k' n) (h0 : 0 ≤ n) : Pure P ⟨d, .binOp .shr xt x y yt, ty, ps, af, g⟩ l (.int k (m.fdiv (2 ^ min n.toNat k.bits))) := fun w => by
  have h1 : ¬ n < 0 := by omega
  simp [execOp, hx, hy, binOp, eqGuard, Op.shift, h1]
theorem shl_int (hx : ev l x = .int k m) (hy : ev l y = .int k' n) (h0 : 0 ≤ n) : Pure P ⟨d, .binOp .shl xt x y yt, ty, ps, af, g⟩ l (.int k (k.wrap (m * 2 ^ min n.toNat k.bits))) := fun w => by
  have h1 : ¬ n < 0 := by omega
  simp [execOp, hx, hy, binOp, eqGuard, Op.shift, h1]
theorem and_int (hx : ev l x = .int k m) (hy : ev l y = .int k n) : Pure P ⟨d, .binOp .and xt x y yt, ty, ps, af, g⟩ l (.int k (k.wrap (BitVec.ofInt k.bits m &&& BitVec.ofInt k.bits n).toNat)) := fun w => by
  simp [execOp, hx, hy, binOp, eqGuard, Op.intBits]
theorem add_wrap (hx : ev l x = .int k m) (hy : ev l y = .int k n) : Pure P ⟨d, .binOp .add xt x y yt, ty, ps, af, g⟩ l (.int k (k.wrap (m + n))) := fun w => by
  simp [execOp, hx, hy, binOp, eqGuard, Op.intArith]
end
end
end Go.K
