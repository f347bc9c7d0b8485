/-
  Plain lemmas and plain functions, several texts joined.
  Conditions stand in each theorem.
-/
import Derived.Test.YthkgnhcknkjgdaaDoorK2
set_option linter.unusedSimpArgs false
set_option linter.unusedVariables false
/-
  An owned row, as its block.
  No conditions: plain lemmas over any program.
-/
namespace Go.K
open Go.RowKit
section
variable {w0 : World} {L : List Chunk} {G : World → Prop}
theorem row_blk {b n c t size : Nat} {xs : List Value} (k : ∀ rest, Hold w0 (blk b t (xs ++ rest) :: L) G) : Hold w0 (row (.slice (some ⟨b, 0, none⟩) n c) t size n xs :: L) G := fun w hw => by
  have h := hw.2.1 _ (List.mem_cons_self)
  have ho : w.ownsRow 0 t size (.slice (some ⟨b, 0, none⟩) n c) n xs := h.1
  rcases ho.2 with ⟨hv, _⟩ | ⟨g, cap, cur, hv, _, hh, _, _, _, ht⟩
  · cases hv
  · injection hv with h1 _ _
    simp at h1
    subst h1
    refine k (cur.toList.drop (n * size)) w ⟨hw.1, fun d hd => ?_, ?_⟩
    · rcases List.mem_cons.1 hd with rfl | hd
      · refine ⟨?_, fun k hk => h.2 k (by
          have : b = k := hk.symm
          subst this; rfl)⟩
        show w.heap[b]? = _
        rw [hh, ← ht, List.take_append_drop]
      · exact hw.2.1 d (List.mem_cons_of_mem _ hd)
    · have hp := List.pairwise_cons.1 hw.2.2
      exact List.pairwise_cons.2 ⟨fun d hd k hk => hp.1 d hd k (by
        have : k = b := hk
        subst this; rfl), hp.2⟩
end
end Go.K
