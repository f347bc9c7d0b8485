/-
  Plain lemmas and plain functions, several texts joined.
  Conditions stand in each theorem.
-/
import Derived.Test.YtoemnobfnnjopaaDoorS5
set_option linter.unusedSimpArgs false
set_option linter.unusedVariables false
/-
  The mouth is fewer steps away than there are points.
  No conditions but those in the theorems.
-/
namespace Go.Proofs.YtoemnobfnnjopaaDoor
open Go
theorem dep_lt {r : List RvT} {i : Nat} (g : Good r) (hi : i < r.length) : dep r i < r.length := by
  have h1 : ((List.range (dep r i + 1)).map fun k => stps r k i).Nodup := by
    unfold List.Nodup
    rw [List.pairwise_map]
    refine List.Pairwise.imp_of_mem (R := fun a b => a ≠ b) ?_ (List.nodup_range (n := dep r i + 1))
    intro a b ha hb hab e
    exact hab (stps_inj g hi (by have := List.mem_range.1 ha; omega) (by have := List.mem_range.1 hb; omega) e)
  have h2 := h1.length_le_of_subset (l₂ := List.range r.length) (fun x hx => by
    obtain ⟨k, _, rfl⟩ := List.mem_map.1 hx
    exact List.mem_range.2 (stps_lt g hi k))
  rw [List.length_map, List.length_range, List.length_range] at h2
  omega
theorem step_at {r : List RvT} {a n k : Nat} (hk : k < n) : (stepL r a n).getD k default = ((stps r k a : Nat) : Int) := map_at hk
end Go.Proofs.YtoemnobfnnjopaaDoor
