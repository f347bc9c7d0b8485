/-
  Plain lemmas and plain functions, several texts joined.
  Conditions stand in each theorem.
-/
import Derived.Test.YtoemnobfnnjopaaDoorSW
set_option linter.unusedSimpArgs false
set_option linter.unusedVariables false
/-
  The search for chains finds as few as there can be.
  No conditions but those in the theorems.
-/
namespace Go.Proofs.YtoemnobfnnjopaaDoor
open Go
/-- How many numbers the first k points have. -/
def nmF (l : List Int) : Nat → Int
  | 0 => 0
  | k + 1 => max (nmF l k) (l.getD k default + 1)
def nmV (l : List Int) : Int := nmF l l.length
/-- Numbers of chains of the first points. -/
structure Pl (r : List RvT) (l : List Int) : Prop where
  a : ∀ i, i < l.length → (l.getD i default = -1 ∧ outS r i = true) ∨ (0 ≤ l.getD i default ∧ outS r i = false)
  b : ∀ i, i < l.length → l.getD i default ≤ nmF l i
  c : ∀ i k, i < l.length → k < i → 0 ≤ l.getD i default → l.getD i default = l.getD k default → conS r i k = true
/-- The chains that they tell. -/
structure Cl (cs l : List Int) : Prop where
  n : (cs.length : Int) = nmV l
  m : ∀ j, j < cs.length → ∀ k, (cs.getD j default).toNat.testBit k = true ↔ k < l.length ∧ l.getD k default = (j : Int)
section
variable {r : List RvT} {cs l : List Int} {st : StP} {i j k n f : Nat} {y : Int}
theorem nm_snoc : ∀ {i}, i ≤ l.length → nmF (l ++ [y]) i = nmF l i
  | 0, _ => rfl
  | i + 1, h => by rw [nmF, nmF, nm_snoc (by omega), snoc_at (by omega)]
theorem nm_next : nmV (l ++ [y]) = max (nmV l) (y + 1) := by
  unfold nmV
  rw [List.length_append, List.length_singleton, nmF, nm_snoc (Nat.le_refl _), snoc_end]
theorem nm_ge0 : ∀ i, 0 ≤ nmF l i
  | 0 => Int.le_refl _
  | i + 1 => by have := nm_ge0 i; rw [nmF]; omega
theorem nm_mono : ∀ {i k}, i ≤ k → nmF l i ≤ nmF l k
  | i, 0, h => by rw [show i = 0 by omega]; exact Int.le_refl _
  | i, k + 1, h => by
    rcases Nat.lt_or_ge k i with h1 | h1
    · rw [show i = k + 1 by omega]; exact Int.le_refl _
    · have := nm_mono h1
      rw [nmF]; omega
theorem nm_lt (h : k < i) : l.getD k default + 1 ≤ nmF l i := by
  have := nm_mono (l := l) (show k + 1 ≤ i from h)
  rw [nmF] at this; omega
theorem nm_occ (P : Pl r l) : ∀ {i}, i ≤ l.length → ∀ j : Nat, (j : Int) < nmF l i → ∃ k, k < i ∧ l.getD k default = (j : Int)
  | 0, _, j, h => by rw [nmF] at h; omega
  | i + 1, hi, j, h => by
    have hb := P.b i (by omega)
    rw [nmF] at h
    rcases Int.lt_or_le (j : Int) (nmF l i) with h1 | h1
    · obtain ⟨k, h2, h3⟩ := nm_occ P (by omega) j h1
      exact ⟨k, by omega, h3⟩
    · exact ⟨i, by omega, by omega⟩
theorem pl_out (P : Pl r l) (C : Cl cs l) (ho : outS r l.length = true) : Pl r (l ++ [-1]) ∧ Cl cs (l ++ [-1]) := by
  have hl : (l ++ [(-1 : Int)]).length = l.length + 1 := by rw [List.length_append]; rfl
  have e := snoc_end (l := l) (y := (-1 : Int))
  have h0 := nm_ge0 (l := l) l.length
  refine ⟨⟨fun i hi => ?_, fun i hi => ?_, fun i k hi hk h1 h2 => ?_⟩, ⟨?_, fun j hj k => ?_⟩⟩
  · by_cases h1 : i < l.length
    · rw [snoc_at h1]; exact P.a i h1
    · rw [show i = l.length by omega, e]; exact .inl ⟨rfl, ho⟩
  · rw [nm_snoc (by omega)]
    by_cases h1 : i < l.length
    · rw [snoc_at h1]; exact P.b i h1
    · rw [show i = l.length by omega, e]; omega
  · by_cases h3 : i < l.length
    · rw [snoc_at h3] at h1 h2
      rw [snoc_at (by omega)] at h2
      exact P.c i k h3 hk h1 h2
    · rw [show i = l.length by omega, e] at h1; omega
  · rw [nm_next, C.n]
    unfold nmV; omega
  · rw [C.m j hj k, hl]
    constructor
    · rintro ⟨h1, h2⟩; exact ⟨by omega, by rw [snoc_at h1]; exact h2⟩
    · rintro ⟨h1, h2⟩
      by_cases h3 : k < l.length
      · rw [snoc_at h3] at h2; exact ⟨h3, h2⟩
      · rw [show k = l.length by omega, e] at h2; omega
theorem ok_con (g : Good r) (hl : l.length < r.length) (C : Cl cs l) (hj : j < cs.length) (h : okP r l.length ((chX cs j).getD j default) = true) (hk : k < l.length) (e : l.getD k default = (j : Int)) : conS r l.length k = true := by
  have hn := g.n.2
  rw [chX_at hj] at h
  have hb := (C.m j hj k).2 ⟨hk, e⟩
  unfold okP at h
  rw [Bool.not_eq_true'] at h
  have hm : (k : Int) ∈ bitsL (cs.getD j default) := by
    unfold bitsL
    exact mem_sel.2 ⟨k, by omega, hb, rfl⟩
  have := List.any_eq_false.1 h _ hm
  simpa using this
theorem ok_of (C : Cl cs l) (hj : j ≤ cs.length) (h : ∀ k, k < l.length → l.getD k default = (j : Int) → conS r l.length k = true) : okP r l.length ((chX cs j).getD j default) = true := by
  unfold okP
  rw [Bool.not_eq_true', List.any_eq_false]
  intro x hx
  unfold bitsL at hx
  obtain ⟨k, _, hb, rfl⟩ := mem_sel.1 hx
  rcases Nat.lt_or_ge j cs.length with h1 | h1
  · rw [chX_at h1] at hb
    obtain ⟨h2, h3⟩ := (C.m j h1 k).1 hb
    have := h k h2 h3
    simp [this]
  · rw [chX_new (by omega)] at hb
    simp at hb
theorem pl_in (g : Good r) (hl : l.length < r.length) (P : Pl r l) (C : Cl cs l) (ho : outS r l.length = false) (hj : j ≤ cs.length) (hok : okP r l.length ((chX cs j).getD j default) = true) : Pl r (l ++ [(j : Int)]) ∧ Cl (setX cs j l.length) (l ++ [(j : Int)]) := by
  have hln : (l ++ [(j : Int)]).length = l.length + 1 := by rw [List.length_append]; rfl
  have e := snoc_end (l := l) (y := (j : Int))
  have hn := C.n
  have hv : nmV l = nmF l l.length := rfl
  refine ⟨⟨fun i hi => ?_, fun i hi => ?_, fun i k hi hk h1 h2 => ?_⟩, ⟨?_, fun j' hj' k => ?_⟩⟩
  · by_cases h1 : i < l.length
    · rw [snoc_at h1]; exact P.a i h1
    · rw [show i = l.length by omega, e]; exact .inr ⟨by omega, ho⟩
  · rw [nm_snoc (by omega)]
    by_cases h1 : i < l.length
    · rw [snoc_at h1]; exact P.b i h1
    · rw [show i = l.length by omega, e]; omega
  · by_cases h3 : i < l.length
    · rw [snoc_at h3] at h1 h2
      rw [snoc_at (by omega)] at h2
      exact P.c i k h3 hk h1 h2
    · have hi2 : i = l.length := by omega
      subst hi2
      rw [e, snoc_at hk] at h2
      have := nm_lt (l := l) hk
      exact ok_con g hl C (by omega) hok hk h2.symm
  · rw [nm_next, setX_len, chX_len hj]
    split <;> omega
  · rw [hln]
    have hold : ∀ j', j' < cs.length → j' ≠ j → (setX cs j l.length).getD j' default = cs.getD j' default := fun j' h1 h2 => by
      rcases Nat.lt_or_ge j cs.length with h3 | h3
      · rw [setX_old h3, set_at h3, if_neg (Ne.symm h2)]
      · rw [setX_new (by omega), snoc_at h1]
    have hjl : j' < cs.length ∨ j' = j := by
      rw [setX_len, chX_len hj] at hj'
      split at hj' <;> omega
    by_cases h1 : j' = j
    · subst h1
      rw [setX_at hj, Int.toNat_natCast, Nat.testBit_or, Nat.testBit_two_pow, Bool.or_eq_true, decide_eq_true_iff]
      have hbit : ((chX cs j').getD j' default).toNat.testBit k = true ↔ k < l.length ∧ l.getD k default = (j' : Int) := by
        rcases Nat.lt_or_ge j' cs.length with h3 | h3
        · rw [chX_at h3]; exact C.m j' h3 k
        · rw [chX_new (by omega)]
          constructor
          · intro h; simp at h
          · rintro ⟨h4, h5⟩
            have := nm_lt (l := l) h4
            omega
      rw [hbit]
      constructor
      · rintro (⟨h4, h5⟩ | h4)
        · exact ⟨by omega, by rw [snoc_at h4]; exact h5⟩
        · subst h4; exact ⟨by omega, e⟩
      · rintro ⟨h4, h5⟩
        by_cases h6 : k < l.length
        · rw [snoc_at h6] at h5; exact .inl ⟨h6, h5⟩
        · exact .inr (by omega)
    · have h2 : j' < cs.length := by omega
      rw [hold j' h2 h1, C.m j' h2 k]
      constructor
      · rintro ⟨h4, h5⟩; exact ⟨by omega, by rw [snoc_at h4]; exact h5⟩
      · rintro ⟨h4, h5⟩
        by_cases h6 : k < l.length
        · rw [snoc_at h6] at h5; exact ⟨h6, h5⟩
        · rw [show k = l.length by omega, e] at h5; omega
/-- What is found. -/
def Fin (r : List RvT) (p : StP) : Prop := p.1.length = r.length ∧ Pl r p.1 ∧ p.2 = nmV p.1
theorem fill_sound (g : Good r) : ∀ f cs l st, l.length + f = r.length → Pl r l → Cl cs l → (fillP r f cs l st).2 ≤ st.2 ∧ (fillP r f cs l st = st ∨ Fin r (fillP r f cs l st))
  | 0, cs, l, st, hf, P, C => by
    by_cases hc : st.2 ≤ cs.length
    · rw [fillP_cut hc]; exact ⟨Int.le_refl _, .inl rfl⟩
    · rw [fillP_end hc]; exact ⟨by show (cs.length : Int) ≤ st.2; omega, .inr ⟨by show l.length = _; omega, P, C.n⟩⟩
  | f + 1, cs, l, st, hf, P, C => by
    by_cases hc : st.2 ≤ cs.length
    · rw [fillP_cut hc]; exact ⟨Int.le_refl _, .inl rfl⟩
    · cases ho : outS r l.length with
      | true =>
        rw [fillP_out hc ho]
        obtain ⟨P', C'⟩ := pl_out P C ho
        exact fill_sound g f _ _ _ (by rw [List.length_append, List.length_singleton]; omega) P' C'
      | false =>
        rw [fillP_loop hc ho]
        have key : ∀ m, m ≤ cs.length + 1 → (loopP (fillP r f) r cs l st m).2 ≤ st.2 ∧ (loopP (fillP r f) r cs l st m = st ∨ Fin r (loopP (fillP r f) r cs l st m)) := by
          intro m
          induction m with
          | zero => intro _; exact ⟨Int.le_refl _, .inl rfl⟩
          | succ m ih =>
            intro hm
            have ih := ih (by omega)
            rw [loopP]
            split
            · rename_i hok
              obtain ⟨P', C'⟩ := pl_in g (by omega) P C ho (by omega) hok
              have h := fill_sound g f (setX cs m l.length) (l ++ [(m : Int)]) (loopP (fillP r f) r cs l st m) (by rw [List.length_append, List.length_singleton]; omega) P' C'
              refine ⟨by omega, ?_⟩
              rcases h.2 with h2 | h2
              · rw [h2]; exact ih.2
              · exact .inr h2
            · exact ih
        exact key _ (Nat.le_refl _)
/-- Numbers that agree with chains. -/
def Agr (r : List RvT) (rt : Nat → Nat) (l : List Int) : Prop := ∀ i k, i < l.length → k < l.length → outS r i = false → outS r k = false → (l.getD i default = l.getD k default ↔ rt i = rt k)
theorem fill_best (g : Good r) {rt : Nat → Nat} {D : Int} (hcon : ∀ u w, u < r.length → w < r.length → outS r u = false → outS r w = false → rt u = rt w → u ≠ w → conS r u w = true)
    (hD : ∀ cs l, l.length ≤ r.length → Pl r l → Cl cs l → Agr r rt l → (cs.length : Int) ≤ D) : ∀ f cs l st, l.length + f = r.length → Pl r l → Cl cs l → Agr r rt l → (fillP r f cs l st).2 ≤ D
  | 0, cs, l, st, hf, P, C, G => by
    have hd := hD cs l (by omega) P C G
    by_cases hc : st.2 ≤ cs.length
    · rw [fillP_cut hc]; omega
    · rw [fillP_end hc]; exact hd
  | f + 1, cs, l, st, hf, P, C, G => by
    have hd := hD cs l (by omega) P C G
    by_cases hc : st.2 ≤ cs.length
    · rw [fillP_cut hc]; omega
    · cases ho : outS r l.length with
      | true =>
        rw [fillP_out hc ho]
        obtain ⟨P', C'⟩ := pl_out P C ho
        refine fill_best g hcon hD f _ _ _ (by rw [List.length_append, List.length_singleton]; omega) P' C' fun i k hi hk oi ok => ?_
        rw [List.length_append, List.length_singleton] at hi hk
        have h1 : i < l.length := by
          refine Classical.byContradiction fun h => ?_
          rw [show i = l.length by omega, ho] at oi; cases oi
        have h2 : k < l.length := by
          refine Classical.byContradiction fun h => ?_
          rw [show k = l.length by omega, ho] at ok; cases ok
        rw [snoc_at h1, snoc_at h2]
        exact G i k h1 h2 oi ok
      | false =>
        rw [fillP_loop hc ho]
        have hv : nmV l = nmF l l.length := rfl
        have hn := C.n
        have hex : ∃ j, j ≤ cs.length ∧ ∀ k, k < l.length → outS r k = false → (l.getD k default = (j : Int) ↔ rt k = rt l.length) := by
          by_cases h : ∃ k, k < l.length ∧ outS r k = false ∧ rt k = rt l.length
          · obtain ⟨k, h1, h2, h3⟩ := h
            have hk0 : 0 ≤ l.getD k default := by
              rcases P.a k h1 with h4 | h4
              · rw [h2] at h4; cases h4.2
              · exact h4.1
            have := nm_lt (l := l) h1
            refine ⟨(l.getD k default).toNat, by omega, fun k' h4 h5 => ?_⟩
            rw [Int.toNat_of_nonneg hk0, G k' k h4 h1 h5 h2, h3]
          · refine ⟨cs.length, Nat.le_refl _, fun k h1 h2 => ⟨fun h3 => ?_, fun h3 => absurd ⟨k, h1, h2, h3⟩ h⟩⟩
            have := nm_lt (l := l) h1
            omega
        obtain ⟨j, hj, hag⟩ := hex
        have hnout : ∀ k, k < l.length → l.getD k default = (j : Int) → outS r k = false := fun k h1 h2 => by
          rcases P.a k h1 with h4 | h4
          · omega
          · exact h4.2
        have hok : okP r l.length ((chX cs j).getD j default) = true := ok_of C hj fun k h1 h2 => by
          have h3 := hnout k h1 h2
          exact hcon _ _ (by omega) (by omega) ho h3 ((hag k h1 h3).1 h2).symm (by omega)
        obtain ⟨P', C'⟩ := pl_in g (by omega) P C ho hj hok
        have hstep : (loopP (fillP r f) r cs l st (j + 1)).2 ≤ D := by
          rw [loopP_yes hok]
          refine fill_best g hcon hD f _ _ _ (by rw [List.length_append, List.length_singleton]; omega) P' C' fun i k hi hk oi ok => ?_
          rw [List.length_append, List.length_singleton] at hi hk
          have e := snoc_end (l := l) (y := (j : Int))
          by_cases h1 : i < l.length
          · rw [snoc_at h1]
            by_cases h2 : k < l.length
            · rw [snoc_at h2]; exact G i k h1 h2 oi ok
            · have hk2 : k = l.length := by omega
              subst hk2
              rw [e]; exact hag i h1 oi
          · have hi2 : i = l.length := by omega
            subst hi2
            rw [e]
            by_cases h2 : k < l.length
            · rw [snoc_at h2]
              have := hag k h2 ok
              constructor
              · intro h; exact (this.1 h.symm).symm
              · intro h; exact (this.2 h.symm).symm
            · have hk2 : k = l.length := by omega
              subst hk2
              rw [e]; exact ⟨fun _ => rfl, fun _ => rfl⟩
        have hmore : ∀ m, j + 1 ≤ m → m ≤ cs.length + 1 → (loopP (fillP r f) r cs l st m).2 ≤ D := by
          intro m
          induction m with
          | zero => intro h; omega
          | succ m ih =>
            intro h1 h2
            by_cases hm : m = j
            · rw [hm]; exact hstep
            · have ih := ih (by omega) (by omega)
              rw [loopP]
              split
              · rename_i hok2
                obtain ⟨P2, C2⟩ := pl_in g (by omega) P C ho (by omega) hok2
                have := (fill_sound g f (setX cs m l.length) (l ++ [(m : Int)]) (loopP (fillP r f) r cs l st m) (by rw [List.length_append, List.length_singleton]; omega) P2 C2).1
                omega
              · exact ih
        exact hmore _ (by omega) (Nat.le_refl _)
/-- What Proof returns: as many numbers as points that are not in the list of Fewest. -/
theorem prf_is (hc : (chk r).2.2 = 0) : (prfL r).length = r.length ∧ Pl r (prfL r) ∧ nmV (prfL r) = (r.length : Int) - ((fewL r).length : Int) := by
  have g := chk_good hc
  obtain ⟨rt, h1, h2, h3⟩ := chains_few g
  have hfl := (few_L hc).2
  -- chains are at most as many as lowest points
  have hD : ∀ cs l, l.length ≤ r.length → Pl r l → Cl cs l → Agr r rt l → (cs.length : Int) ≤ ((selN (fun u => !outS r u && decide (rt u = u)) r.length).length : Int) := fun cs l hl P C G => by
    have hocc : ∀ j, j < cs.length → ∃ k, k < l.length ∧ l.getD k default = (j : Int) := fun j hj => nm_occ P (Nat.le_refl _) j (by have := C.n; unfold nmV at this; omega)
    obtain ⟨w, hw⟩ : ∃ w : Nat → Nat, ∀ j, j < cs.length → w j < l.length ∧ l.getD (w j) default = (j : Int) :=
      ⟨fun j => if h : j < cs.length then (hocc j h).choose else 0, fun j hj => by
        simp only [dif_pos hj]
        exact (hocc j hj).choose_spec⟩
    have hno : ∀ j, j < cs.length → outS r (w j) = false := fun j hj => by
      rcases P.a (w j) (hw j hj).1 with h | h
      · have := (hw j hj).2; omega
      · exact h.2
    have hnd : ((List.range cs.length).map fun j => ((rt (w j) : Nat) : Int)).Nodup := by
      unfold List.Nodup
      rw [List.pairwise_map]
      refine List.Pairwise.imp_of_mem (R := fun a b => a ≠ b) ?_ (List.nodup_range (n := cs.length))
      intro a b ha hb hab e
      have ha := List.mem_range.1 ha
      have hb := List.mem_range.1 hb
      have := (G (w a) (w b) (hw a ha).1 (hw b hb).1 (hno a ha) (hno b hb)).2 (by omega)
      rw [(hw a ha).2, (hw b hb).2] at this
      omega
    have hle := hnd.length_le_of_subset (l₂ := selN (fun u => !outS r u && decide (rt u = u)) r.length) (fun x hx => by
      obtain ⟨j, hj, rfl⟩ := List.mem_map.1 hx
      have hj := List.mem_range.1 hj
      obtain ⟨a, b, c⟩ := h1 (w j) (by have := (hw j hj).1; omega) (hno j hj)
      exact mem_sel.2 ⟨_, a, by rw [b, decide_eq_true c]; rfl, rfl⟩)
    rw [List.length_map, List.length_range] at hle
    omega
  have P0 : Pl r [] := ⟨fun i hi => absurd hi (Nat.not_lt_zero _), fun i hi => absurd hi (Nat.not_lt_zero _), fun i k hi => absurd hi (Nat.not_lt_zero _)⟩
  have C0 : Cl [] [] := ⟨rfl, fun j hj => absurd hj (Nat.not_lt_zero _)⟩
  have G0 : Agr r rt [] := fun i k hi => absurd hi (Nat.not_lt_zero _)
  have hb := fill_best g h2 hD r.length [] [] ([], (r.length : Int) + 1) (by simp) P0 C0 G0
  have hs := (fill_sound g r.length [] [] ([], (r.length : Int) + 1) (by simp) P0 C0).2
  have e : prfL r = (fillP r r.length [] [] ([], (r.length : Int) + 1)).1 := by unfold prfL prfS; rw [if_neg (by omega)]
  have hfin : Fin r (fillP r r.length [] [] ([], (r.length : Int) + 1)) := by
    rcases hs with h | h
    · rw [h] at hb
      simp only at hb
      omega
    · exact h
  obtain ⟨f1, f2, f3⟩ := hfin
  rw [← e] at f1 f2 f3
  refine ⟨f1, f2, ?_⟩
  rw [f3] at hb
  -- kept points have different numbers
  have hcor := (few_is g).2.1
  have hlt := (few_is g).1
  have hK := sel_not (p := fun i => (fewN r).testBit i) r.length
  have hpc : pcS (fewN r) = (selN (fun i => (fewN r).testBit i) r.length).length := by unfold pcS; rw [bits_n g.n.2 hlt]
  have hkeep : ∀ k, k < r.length → (fewN r).testBit k = false → 0 ≤ (prfL r).getD k default ∧ (prfL r).getD k default < nmV (prfL r) := fun k hk hbk => by
    have ho := (cor_parts hcor hk hbk).1
    have := nm_lt (l := prfL r) (show k < (prfL r).length by omega)
    rcases f2.a k (by omega) with h | h
    · rw [ho] at h; cases h.2
    · exact ⟨h.1, by unfold nmV; omega⟩
  have hinj : ∀ i k, i < r.length → k < i → (fewN r).testBit i = false → (fewN r).testBit k = false → (prfL r).getD i default ≠ (prfL r).getD k default := fun i k hi hk h4 h5 h6 => by
    have := f2.c i k (by omega) hk (hkeep i hi h4).1 h6
    rw [(cor_parts hcor hi h4).2 k hk h5] at this; cases this
  have hnd : ((selN (fun i => !(fewN r).testBit i) r.length).map fun x => (prfL r).getD x.toNat default).Nodup := by
    unfold List.Nodup
    rw [List.pairwise_map]
    have hp : (selN (fun i => !(fewN r).testBit i) r.length).Pairwise (fun a b => a ≠ b) := by
      unfold selN
      rw [List.pairwise_map]
      refine List.Pairwise.imp ?_ ((List.nodup_range (n := r.length)).sublist List.filter_sublist)
      intro a b h e; exact h (by omega)
    refine List.Pairwise.imp_of_mem ?_ hp
    intro a b ha hb' hab h6
    obtain ⟨i, hi, hbi, rfl⟩ := mem_sel.1 ha
    obtain ⟨k, hk, hbk, rfl⟩ := mem_sel.1 hb'
    rw [Bool.not_eq_true'] at hbi hbk
    rw [Int.toNat_natCast, Int.toNat_natCast] at h6
    rcases Nat.lt_trichotomy i k with h | h | h
    · exact hinj k i hk h hbk hbi h6.symm
    · exact hab (by rw [h])
    · exact hinj i k hi h hbi hbk h6
  have hle := hnd.length_le_of_subset (l₂ := (List.range (nmV (prfL r)).toNat).map fun j => ((j : Nat) : Int)) (fun x hx => by
    obtain ⟨y, hy, rfl⟩ := List.mem_map.1 hx
    obtain ⟨k, hk, hbk, rfl⟩ := mem_sel.1 hy
    rw [Bool.not_eq_true'] at hbk
    have := hkeep k hk hbk
    rw [Int.toNat_natCast]
    exact List.mem_map.2 ⟨((prfL r).getD k default).toNat, List.mem_range.2 (by omega), by omega⟩)
  rw [List.length_map, List.length_map, List.length_range] at hle
  have h0 := nm_ge0 (l := prfL r) (prfL r).length
  have hv : nmV (prfL r) = nmF (prfL r) (prfL r).length := rfl
  omega
end
end Go.Proofs.YtoemnobfnnjopaaDoor
