/-
  Ways that come together again: what stands behind them is walked once.
  No conditions: plain lemmas over any program.
-/
import Derived.Test.YtafkbioeoklldaaKe
import Derived.Test.YtafkbioeoklldaaKs
set_option linter.unusedSimpArgs false
set_option linter.unusedVariables false
namespace Go.K
open Go.RowKit
section
variable {P : Program} {w0 : World} {L : List Chunk} {l : List Value} {x y : Code} {Q : Exit → Act → World → Prop}
/-- At its normal end the state is told by J alone; other exits are as they were. -/
def joinQ (w0 : World) (l : List Value) (wi wr : List Nat) (J : List Value → List Chunk → Prop) (Q : Exit → Act → World → Prop) : Exit → Act → World → Prop
  | .normal, a, w => ∃ vi vr L', a = fr (setF vr (setM l wi vi) wr) ∧ J vi L' ∧ St w0 L' w
  | e, a, w => Q e a w
theorem joinW (wi wr : List Nat) (J : List Value → List Chunk → Prop) (k1 : Hold w0 L (x.wp P (joinQ w0 l wi wr J Q) (fr l)))
    (k2 : ∀ vi vr L', J vi L' → Hold w0 L' (Q .normal (fr (setF vr (setM l wi vi) wr)))) : Hold w0 L (x.wp P Q (fr l)) := fun w hw =>
  wp_mono (k1 w hw) (fun e a' w' hq => by
    cases e with
    | normal => obtain ⟨vi, vr, L', rfl, hJ, hst⟩ := hq; exact k2 vi vr L' hJ w' hst
    | _ => exact hq)
theorem seqJ (wi wr : List Nat) (J : List Value → List Chunk → Prop) (k1 : Hold w0 L (x.wp P (joinQ w0 l wi wr J (Exit.then (y.wp P Q) Q)) (fr l)))
    (k2 : ∀ vi vr L', J vi L' → Hold w0 L' (y.wp P Q (fr (setF vr (setM l wi vi) wr)))) : Hold w0 L ((Code.seq x y).wp P Q (fr l)) :=
  seq (joinW wi wr J k1 k2)
theorem join_here {l0 : List Value} {wi wr : List Nat} {J : List Value → List Chunk → Prop} {L' : List Chunk} (vi : List Value) (hJ : J vi L') (hs : ∀ w, St w0 L w → St w0 L' w) (he : l = setF (nth l) (setM l0 wi vi) wr) :
    Hold w0 L (joinQ w0 l0 wi wr J Q .normal (fr l)) := fun w hw => ⟨vi, nth l, L', by rw [← he], hJ, hs w hw⟩
theorem join_exit {l0 : List Value} {wi wr : List Nat} {J : List Value → List Chunk → Prop} {id : Nat} (k : Hold w0 L (Q (.exit id) (fr l))) : Hold w0 L (joinQ w0 l0 wi wr J Q (.exit id) (fr l)) := k
theorem join_ret {l0 : List Value} {wi wr : List Nat} {J : List Value → List Chunk → Prop} (k : Hold w0 L (Q .ret (fr l))) : Hold w0 L (joinQ w0 l0 wi wr J Q .ret (fr l)) := k
theorem st_sub {L' : List Chunk} (hs : List.Sublist L' L) : ∀ w, St w0 L w → St w0 L' w := fun _ h => h.sub hs
theorem st_perm {L' : List Chunk} (hp : L.Perm L') : ∀ w, St w0 L w → St w0 L' w := fun _ h => h.perm hp
theorem st_swap {c d : Chunk} : ∀ w, St w0 (c :: d :: L) w → St w0 (d :: c :: L) w := st_perm (List.Perm.swap _ _ _)
theorem st_swap1 {a c d : Chunk} : ∀ w, St w0 (a :: c :: d :: L) w → St w0 (a :: d :: c :: L) w := st_perm (.cons _ (List.Perm.swap _ _ _))
theorem st_swap2 {a b c d : Chunk} : ∀ w, St w0 (a :: b :: c :: d :: L) w → St w0 (a :: b :: d :: c :: L) w := st_perm (.cons _ (.cons _ (List.Perm.swap _ _ _)))
end
end Go.K
