/-
  Plain lemmas and plain functions, several texts joined.
  Conditions stand in each theorem.
-/
import Derived.Test.YtoemnobfnnjopaaDoorRows
import Derived.Test.YtoemnobfnnjopaaDoorWd
import Derived.WalkKit
import Derived.ProofKit
import Derived.OpenShut
import Derived.LaidMore
import Derived.Lay
import Derived.Stop.Joined
set_option linter.unusedSimpArgs false
set_option linter.unusedVariables false
/-
  What the laid tables give the walks.
  No conditions but those in the theorems.
-/
namespace Go.Proofs.YtoemnobfnnjopaaDoor
open Go.ChangeShapes Go.WideShapes Go.ChangeAt Go.RowKit
theorem own0 : ownKnob Tryd.prog.godebug = none := by kernel_rfl
theorem laidOut0 : laidOutB Tryd.prog = true := by kernel_rfl
abbrev LAID : List (String × DataW Unit) := [("math/bits.deBruijn32tab", Rows.laid_math_bits_deBruijn32tab), ("math/bits.deBruijn64tab", Rows.laid_math_bits_deBruijn64tab)]
theorem laid64 : (Rows.laid_math_bits_deBruijn64tab : DataW Unit) = .agg (tabZ.map fun n => .lit (.int .u8 n)) := rfl
set_option maxRecDepth 100000 in
theorem tab_of {W : World} (h : laidMetH Tryd.prog LAID W) : Tab W := by
  rw [MakeChecks.laidMetH_plain _ _ _ (by kernel_rfl)] at h
  obtain ⟨ps, ⟨g0, t0, cs0, f0, p0, q0, hg0, ht0, hv0, hd0, ⟨g1, t1, cs1, f1, p1, q1, hg1, ht1, hv1, hd1, _, _⟩, _⟩, _, _⟩ := h
  obtain rfl := Option.some.inj ((show Tryd.prog.globalNamed "math/bits.deBruijn64tab" = some 1 by kernel_rfl).symm.trans hg1)
  have ht2 : (Tryd.prog.globals[1]?).map (·.type) = some 128 := by kernel_rfl
  obtain rfl := Option.some.inj (ht2.symm.trans ht1)
  obtain ⟨xs, m, hls, ex, hbk, hl, hel⟩ := DataW.trod_array Tryd.underlying128 hd1
  have c5 : Tryd.prog.cellsOf 5 = 1 := by kernel_rfl
  have hcell : ∀ r, r < 64 → W.cell? ⟨1, r, none⟩ = some (.int .u8 (tabZ.getD r 0)) := by
    intro r hr
    have hE := hel r hr
    rw [c5, Nat.mul_one, List.getElem?_eq_getElem (by omega)] at hE
    obtain ⟨z, e1, e2, _⟩ := DataW.trod_int Tryd.underlying5 hE
    have hlen : tabZ.length = 64 := by kernel_rfl
    rw [laid64] at ex
    have e3 : (xs.map (·.1)) = tabZ.map fun n => .lit (.int .u8 n) := (DataW.agg.inj (Prod.mk.inj ex).1).symm
    have e4 : (xs.map (·.1))[r]? = (tabZ.map fun n => (DataW.lit (.int .u8 n) : DataW Unit))[r]? := by rw [e3]
    rw [List.getElem?_map, List.getElem?_map, List.getElem?_eq_getElem (by omega : r < xs.length), List.getElem?_eq_getElem (by omega : r < tabZ.length), e2] at e4
    have hz : z = tabZ.getD r 0 := by
      simp only [Option.map_some, Option.some.injEq, DataW.lit.injEq, Lit.int.injEq, true_and] at e4
      rw [e4, List.getD, List.getElem?_eq_getElem (by omega : r < tabZ.length)]; rfl
    rw [World.var?_cell hg1 hv1 r, ← hz]
    have : cs1.toList[r]? = some (.int .u8 z) := by
      have h0 : ((cs1.toList.drop r).take 1)[0]? = some (.int .u8 z) := by rw [e1]; rfl
      simpa using h0
    simpa using this
  have hb : 1 < W.heap.size := World.block_lt_of_cell? W _ (hcell 0 (by decide))
  refine ⟨hb, K.PtrL.old hb fun j u hu => ?_⟩
  have hj : j < 64 := by have := (List.getElem?_eq_some_iff.1 hu).1; rwa [show tab64.length = 64 by kernel_rfl] at this
  rw [show (⟨1, 0, none⟩ : Addr).add j = ⟨1, j, none⟩ by unfold Addr.add; split <;> simp_all, hcell j hj]
  unfold tab64 at hu
  rw [List.getElem?_map, List.getElem?_eq_getElem (by rw [show tabZ.length = 64 by kernel_rfl]; exact hj)] at hu
  rw [List.getD, List.getElem?_eq_getElem (by rw [show tabZ.length = 64 by kernel_rfl]; exact hj)]
  exact hu

end Go.Proofs.YtoemnobfnnjopaaDoor
