/-
  Plain lemmas and plain functions, several texts joined.
  Conditions stand in each theorem.
-/
import Derived.Test.YtafkbioeoklldaaS7
set_option linter.unusedSimpArgs false
set_option linter.unusedVariables false
/-
  A road that goes the other way; all heights raised: all is the same.
  No conditions: no program is in sight.
-/
namespace Go.Proofs.Ytafkbioeoklldaa
open Go
/-- Roads that are as false and as flat, one by one, whatever the cuts. -/
def SameR (hs hs' : List Int) (rs rs' : List (Int × Int)) : Prop := rs'.length = rs.length ∧ ∀ i, i < rs.length → ∀ (cs : List Int), (∀ u v, offS u v (riseS hs' (rs'.getD i default)) (riseS cs (rs'.getD i default)) = offS u v (riseS hs (rs.getD i default)) (riseS cs (rs.getD i default))) ∧ flatP hs' cs (rs'.getD i default) = flatP hs cs (rs.getD i default)
section
variable {kind base base' most : Int} {hs hs' : List Int} {rs rs' : List (Int × Int)} {u v limit : Int} {cs : List Int}
theorem same_offs (h : SameR hs hs' rs rs') : offs u v hs' cs rs' = offs u v hs cs rs := by
  refine ext_getD (by simp [offs, h.1]) (fun j hj => ?_)
  have hj2 : j < rs.length := by simpa [offs, h.1] using hj
  unfold offs
  rw [getD_map _ _ (by rw [h.1]; exact hj2), getD_map _ _ hj2]
  exact (h.2 j hj2 cs).1 u v
theorem same_flats (h : SameR hs hs' rs rs') : flats hs' cs rs' = flats hs cs rs := by
  unfold flats selN
  rw [h.1]
  congr 1
  apply List.filter_congr
  intro i hi
  exact (h.2 i (List.mem_range.1 hi) cs).2
theorem same_road (h : SameR hs hs' rs rs') (hc : ∀ u v, cuts kind base' u v hs' = cuts kind base u v hs) {s : Int × Int} : roadP kind base' hs' rs' limit s = roadP kind base hs rs limit s := by
  rw [Bool.eq_iff_iff]
  unfold roadP
  simp only [List.all_eq_true, decide_eq_true_eq]
  constructor
  · intro h1 r hr
    obtain ⟨i, hi, rfl⟩ := List.getElem_of_mem hr
    have h2 := h1 (rs'.getD i default) (K.gt_mem (by rw [h.1]; exact hi))
    unfold offP at h2 ⊢
    rw [hc, (h.2 i hi _).1] at h2
    rwa [List.getD_eq_getElem?_getD, List.getElem?_eq_getElem hi] at h2
  · intro h1 r hr
    obtain ⟨i, hi, rfl⟩ := List.getElem_of_mem hr
    have hi2 : i < rs.length := by rw [← h.1]; exact hi
    have h2 := h1 (rs.getD i default) (K.gt_mem hi2)
    unfold offP at h2 ⊢
    rw [← (h.2 i hi2 _).1] at h2
    rw [hc]
    rwa [List.getD_eq_getElem?_getD, List.getElem?_eq_getElem hi] at h2
theorem same_grt (g : Good kind base most hs rs) (g' : Good kind base' most hs' rs') (h : SameR hs hs' rs rs') (hc : ∀ u v, cuts kind base' u v hs' = cuts kind base u v hs) : grtR kind base' most hs' rs' limit = grtR kind base most hs rs limit := by
  have e : okG kind base' most hs' rs' limit = okG kind base most hs rs limit := by
    funext s
    unfold okG fitP
    rw [hc, same_road h hc]
  unfold grtR
  rw [e, g.chk, g'.chk]
theorem same_lst (g : Good kind base most hs rs) (g' : Good kind base' most hs' rs') (h : SameR hs hs' rs rs') (hc : ∀ u v, cuts kind base' u v hs' = cuts kind base u v hs) : lstR kind base' most hs' rs' = lstR kind base most hs rs := by
  have e : okL kind base' most hs' rs' = okL kind base most hs rs := by
    funext s
    unfold okL fitP
    rw [hc, same_flats h]
  unfold lstR
  rw [e, g.chk, g'.chk]
theorem same_offsR (g : Good kind base most hs rs) (g' : Good kind base' most hs' rs') (h : SameR hs hs' rs rs') (hc : ∀ u v, cuts kind base' u v hs' = cuts kind base u v hs) : offsR kind base' most hs' rs' u v = offsR kind base most hs rs u v := by
  unfold offsR
  rw [askE_good g, askE_good g', hc, same_offs h]
theorem same_flatsR (g : Good kind base most hs rs) (g' : Good kind base' most hs' rs') (h : SameR hs hs' rs rs') (hc : ∀ u v, cuts kind base' u v hs' = cuts kind base u v hs) : flatsR kind base' most hs' rs' u v = flatsR kind base most hs rs u v := by
  unfold flatsR
  rw [askE_good g, askE_good g', hc, same_flats h]
/-- A road that goes the other way. -/
theorem off_neg {a b : Int} : offS u v (-a) (-b) = offS u v a b := by
  unfold offS
  have e1 : v * -b - u * -a = -(v * b - u * a) := by rw [Int.mul_neg, Int.mul_neg]; omega
  have e2 : max (-a) (-(-a)) = max a (-a) := by omega
  rw [e1, e2]
  have e3 : (-a = 0) = (a = 0) := by apply propext; omega
  simp only [e3]
  congr 2
  generalize v * b - u * a = n
  omega
def turnR (rs : List (Int × Int)) (k : Nat) : List (Int × Int) := rs.set k ((rs.getD k default).2, (rs.getD k default).1)
theorem turn_at {k i : Nat} (hi : i < rs.length) : (turnR rs k).getD i default = if k = i then ((rs.getD k default).2, (rs.getD k default).1) else rs.getD i default := by
  unfold turnR
  rw [List.getD_eq_getElem?_getD, List.getElem?_set]
  split
  · rename_i h; subst h; simp [hi]
  · rw [List.getD_eq_getElem?_getD]
theorem same_turn {k : Nat} : SameR hs hs rs (turnR rs k) := by
  refine ⟨by simp [turnR], fun i hi cs => ?_⟩
  rw [turn_at hi]
  split
  · rename_i h; subst h
    have e : ∀ ys : List Int, riseS ys ((rs.getD k default).2, (rs.getD k default).1) = -(riseS ys (rs.getD k default)) := fun ys => by unfold riseS; simp only; omega
    refine ⟨fun u v => by rw [e, e, off_neg], ?_⟩
    unfold flatP
    rw [e, e, Bool.eq_iff_iff]
    simp only [Bool.and_eq_true, decide_eq_true_eq]
    omega
  · exact ⟨fun _ _ => rfl, rfl⟩
/-- All heights raised by the same number. -/
def upH (hs : List Int) (b : Int) : List Int := hs.map fun h => h + b
theorem up_cuts {b : Int} : ∀ u v, cuts kind (base + b) u v (upH hs b) = cuts kind base u v hs := fun u v => by
  unfold cuts upH ct
  rw [List.map_map]
  apply List.map_congr_left
  intro h _
  simp only [Function.comp]
  rw [show h + b - (base + b) = h - base by omega]
theorem same_up (g : Good kind base most hs rs) {b : Int} : SameR hs (upH hs b) rs rs := by
  refine ⟨rfl, fun i hi cs => ?_⟩
  have hr := g.road4 hi
  have e : riseS (upH hs b) (rs.getD i default) = riseS hs (rs.getD i default) := by
    unfold riseS upH
    rw [getD_map _ _ (by omega), getD_map _ _ (by omega)]; omega
  refine ⟨fun u v => by rw [e], ?_⟩
  unfold flatP
  rw [e]
theorem flat_cut {E : Type} {e : E → List Value} {size : Nat} {rest : List Value} (hl : ∀ x, (e x).length = size) : ∀ {xs : List E} {k : Nat}, k ≤ xs.length → (xs.flatMap e ++ rest).take (k * size) = (xs.take k).flatMap e ∧ (xs.flatMap e ++ rest).drop (k * size) = (xs.drop k).flatMap e ++ rest
  | [], 0, _ => by simp
  | [], k + 1, h => by simp at h
  | x :: xs, 0, _ => by simp
  | x :: xs, k + 1, h => by
    have ih := flat_cut (rest := rest) hl (xs := xs) (k := k) (by simpa using h)
    have e1 : (k + 1) * size = (e x).length + k * size := by rw [hl, Nat.add_mul]; omega
    rw [List.flatMap_cons, List.append_assoc, e1]
    refine ⟨?_, ?_⟩
    · rw [List.take_append, List.take_of_length_le (by omega), show (e x).length + k * size - (e x).length = k * size by omega, ih.1]; simp
    · rw [List.drop_append, List.drop_of_length_le (by omega), show (e x).length + k * size - (e x).length = k * size by omega, ih.2]; simp
theorem turn_cut {E : Type} {e : E → List Value} {xs : List E} {k : Nat} {x : E} {size : Nat} {rest : List Value} (hl : ∀ x, (e x).length = size) (hk : k < xs.length) : K.over (xs.flatMap e ++ rest) (0 + k * size) (e x) = (xs.set k x).flatMap e ++ rest := by
  have hlen : (xs.flatMap e).length = xs.length * size := K.flat_len hl xs
  have hfit : 0 + k * size + (e x).length ≤ (xs.flatMap e ++ rest).length := by
    rw [hl, List.length_append, hlen]
    have : (k + 1) * size ≤ xs.length * size := Nat.mul_le_mul_right _ hk
    rw [Nat.add_mul] at this; omega
  have h := List.toArray_inj (K.over_eq (e x) (xs.flatMap e ++ rest) (0 + k * size) hfit)
  rw [h, hl, Nat.zero_add, (flat_cut hl (by omega)).1, show k * size + size = (k + 1) * size by rw [Nat.add_mul]; omega, (flat_cut hl (by omega)).2, List.set_eq_take_append_cons_drop, if_pos hk, List.flatMap_append, List.flatMap_cons]
  simp
end
end Go.Proofs.Ytafkbioeoklldaa
