/-
  Plain lemmas on lists of ints: the first index at which a test holds.
  No conditions: no program is in sight.
-/
set_option linter.unusedSimpArgs false
set_option linter.unusedVariables false
namespace Go.K
/-- The first index at which p holds, or -1. -/
def idx {E : Type} (p : E → Bool) (xs : List E) : Int :=
  match xs.findIdx? p with
  | some i => i
  | none => -1
theorem gt_mem {E : Type} [Inhabited E] {xs : List E} {k : Nat} (h : k < xs.length) : xs.getD k default ∈ xs := by
  rw [List.getD_eq_getElem?_getD, List.getElem?_eq_getElem h]; simp
theorem idx_found {E : Type} [Inhabited E] {p : E → Bool} {xs : List E} {k : Nat} (hk : k < xs.length) (h0 : ∀ j, j < k → p (xs.getD j default) = false) (h1 : p (xs.getD k default) = true) : idx p xs = k := by
  have : xs.findIdx? p = some k := by
    rw [List.findIdx?_eq_some_iff_getElem]
    refine ⟨hk, ?_, fun j hj => ?_⟩
    · rw [List.getD_eq_getElem?_getD, List.getElem?_eq_getElem hk] at h1; simpa using h1
    · have := h0 j hj
      rw [List.getD_eq_getElem?_getD, List.getElem?_eq_getElem (by omega)] at this; simpa using this
  simp [idx, this]
theorem idx_none {E : Type} [Inhabited E] {p : E → Bool} {xs : List E} (h0 : ∀ j, j < xs.length → p (xs.getD j default) = false) : idx p xs = -1 := by
  have : xs.findIdx? p = none := by
    rw [List.findIdx?_eq_none_iff]
    intro x hx
    obtain ⟨j, hj, rfl⟩ := List.getElem_of_mem hx
    have := h0 j hj
    rw [List.getD_eq_getElem?_getD, List.getElem?_eq_getElem hj] at this; simpa using this
  simp [idx, this]
theorem idx_ge {E : Type} {p : E → Bool} {xs : List E} : decide (idx p xs ≥ 0) = xs.any p := by
  unfold idx
  cases h : xs.findIdx? p with
  | none =>
    have h' := List.findIdx?_eq_none_iff.1 h
    have : xs.any p = false := by simpa using h'
    simp [this]
  | some i =>
    obtain ⟨hlt, hp, _⟩ := List.findIdx?_eq_some_iff_getElem.1 h
    have : xs.any p = true := List.any_eq_true.2 ⟨xs[i], List.getElem_mem hlt, hp⟩
    simp [this]
/-- The first thing whose number q is not 0: its index and number. -/
def fst {E : Type} (q : E → Int) (xs : List E) : Int × Int :=
  match xs.findIdx? (fun x => q x != 0) with
  | some i => (i, match xs[i]? with | some x => q x | none => 0)
  | none => (0, 0)
theorem fst_found {E : Type} [Inhabited E] {q : E → Int} {xs : List E} {k : Nat} (hk : k < xs.length) (h0 : ∀ j, j < k → q (xs.getD j default) = 0) (h1 : q (xs.getD k default) ≠ 0) : fst q xs = ((k : Int), q (xs.getD k default)) := by
  have e : xs.getD k default = xs[k] := by rw [List.getD_eq_getElem?_getD, List.getElem?_eq_getElem hk]; rfl
  have : xs.findIdx? (fun x => q x != 0) = some k := by
    rw [List.findIdx?_eq_some_iff_getElem]
    refine ⟨hk, ?_, fun j hj => ?_⟩
    · rw [e] at h1; simpa using h1
    · have := h0 j hj
      rw [List.getD_eq_getElem?_getD, List.getElem?_eq_getElem (by omega)] at this; simpa using this
  simp [fst, this, hk]
theorem fst_none {E : Type} [Inhabited E] {q : E → Int} {xs : List E} (h0 : ∀ j, j < xs.length → q (xs.getD j default) = 0) : fst q xs = (0, 0) := by
  have : xs.findIdx? (fun x => q x != 0) = none := by
    rw [List.findIdx?_eq_none_iff]
    intro x hx
    obtain ⟨j, hj, rfl⟩ := List.getElem_of_mem hx
    have := h0 j hj
    rw [List.getD_eq_getElem?_getD, List.getElem?_eq_getElem hj] at this; simpa using this
  simp [fst, this]
theorem lt_succ_case {k : Nat} {P : Nat → Prop} (h : ∀ j, j < k → P j) (hk : P k) : ∀ j, j < k + 1 → P j := fun j hj => by
  rcases Nat.lt_or_ge j k with h1 | h1
  · exact h j h1
  · have : j = k := by omega
    subst this; exact hk
end Go.K
