/-
  Plain lemmas and plain functions, several texts joined.
  Conditions stand in each theorem.
-/
import Derived.Test.YthkgnhcknkjgdaaDoorS8
set_option linter.unusedSimpArgs false
set_option linter.unusedVariables false
/-
  Lengths: which ones show a pin; the reference's rounds.
  No conditions but those in the theorems.
-/
namespace Go.Proofs.YthkgnhcknkjgdaaDoor
open Go
/-- Lengths that are the same on a model's pins. -/
def Agree (m : Mod) (l l' : List Int) : Prop := ∀ i, i < m.ps.length → l.getD i default = l'.getD i default
section
variable {m : Mod} {l l' : List Int}
theorem Agree.top (h : Agree m l l') {f : Int} : topS m l f = topS m l' f := by
  rw [topS_eq, topS_eq]
  cases e : pinAt m f with
  | none => rfl
  | some i => simp only [h i (pinAtK_some (k := m.ps.length) e).1]
theorem Agree.hide (h : Agree m l l') {eye : Int} {i : Nat} (hi : i < m.ps.length) (s : Int × Int × Int) : hideB m l eye i s = hideB m l' eye i s := by
  unfold hideB headS; rw [h.top, h i hi]
theorem Agree.hides (h : Agree m l l') {x y eye : Int} {i : Nat} (hi : i < m.ps.length) : hidesS m l x y eye i = hidesS m l' x y eye i := by
  unfold hidesS; rw [show hideB m l eye i = hideB m l' eye i from funext (h.hide hi)]
theorem Agree.sees (h : Agree m l l') {x y eye : Int} {i : Nat} (hi : i < m.ps.length) : seesB m l x y eye i = seesB m l' x y eye i := by
  unfold seesB; rw [h.hides hi]
theorem Agree.needE (h : Agree m l l') {lo : Int} {i : Nat} : Go.Proofs.YthkgnhcknkjgdaaDoor.needE m l lo i = Go.Proofs.YthkgnhcknkjgdaaDoor.needE m l' lo i := by
  funext s; unfold Go.Proofs.YthkgnhcknkjgdaaDoor.needE more2; rw [h.top]
theorem Agree.needK (h : Agree m l l') {i : Nat} : ∀ k, Go.Proofs.YthkgnhcknkjgdaaDoor.needK m l i k = Go.Proofs.YthkgnhcknkjgdaaDoor.needK m l' i k
  | 0 => rfl
  | k + 1 => by
    unfold Go.Proofs.YthkgnhcknkjgdaaDoor.needK
    rw [h.needK k]
    unfold needA
    rw [h.needE]
theorem Agree.need (h : Agree m l l') {i : Nat} : needS m l i = needS m l' i := h.needK _
theorem Agree.symm (h : Agree m l l') : Agree m l' l := fun i hi => (h i hi).symm
end
section
variable {m : Mod} {l : List Int} {x y lo : Int} {i k : Nat} {s : Int × Int × Int}
/-- A field between is not the pin's own. -/
theorem step_ne (h : Way m x y i) (hs : (stepsS m x y i)[k]? = some s) : s.1 ≠ fldS m i := by
  obtain ⟨j, h1, h2, rfl⟩ := steps_at hs
  intro e
  have h3 := fld_inj h.g.w h2 (h.g.p i h.i).1 e
  have gx := gS_x (m := m) (x := x) (y := y) (i := i)
  have gy := gS_y (m := m) (x := x) (y := y) (i := i)
  have hb := h.gb
  obtain ⟨e1, e2⟩ := h3
  unfold atX at e1
  unfold atY at e2
  generalize hg : gS m x y i = g at *
  obtain ⟨q, hq⟩ := gx
  obtain ⟨r, hr⟩ := gy
  rw [hq, Int.mul_ediv_cancel_left _ (by omega)] at e1
  rw [hr, Int.mul_ediv_cancel_left _ (by omega)] at e2
  have z : ∀ t d : Int, d = g * t → t * ((j : Int) + 1) = d → t = 0 := fun t d hd he => by
    have h4 : t * (g - ((j : Int) + 1)) = 0 := by rw [Int.mul_sub, he, hd, Int.mul_comm t g]; omega
    rcases Int.mul_eq_zero.1 h4 with h5 | h5
    · exact h5
    · omega
  have hq0 := z q _ hq (by omega)
  have hr0 := z r _ hr (by omega)
  subst hq0 hr0
  have : gS m x y i = 0 := by
    unfold gS gcdS
    rw [show (m.ps.getD i default).x - x = 0 by omega, show (m.ps.getD i default).y - y = 0 by omega]; rfl
  omega
theorem top_set {v : Int} (h : Way m x y i) (hs : (stepsS m x y i)[k]? = some s) : topS m (l.set i v) s.1 = topS m l s.1 := by
  rw [topS_eq, topS_eq]
  cases e : pinAt m s.1 with
  | none => rfl
  | some j =>
    have hj := pinAtK_some (k := m.ps.length) e
    have hne : i ≠ j := fun e2 => step_ne h hs (by rw [e2]; exact hj.2.symm)
    simp only [List.getD_eq_getElem?_getD, List.getElem?_set_ne hne]
theorem set_at {v : Int} (hi : i < l.length) : (l.set i v).getD i default = v := by
  rw [List.getD_eq_getElem?_getD, List.getElem?_set_self hi]; rfl
theorem set_self (hi : i < l.length) : l.set i (l.getD i default) = l := by
  rw [List.getD_eq_getElem?_getD, List.getElem?_eq_getElem hi]; simp
/-- A step hides just with a length below what it needs. -/
theorem need_step {v : Int} (h : Way m x y i) (hil : i < l.length) (hv : 0 ≤ v) (hs : (stepsS m x y i)[k]? = some s) : hideB m (l.set i v) lo i s = false ↔ needE m l lo i s ≤ v := by
  have h1 := h.step hs
  have hh : headS m (l.set i v) i = hgS m i + v := by rw [head_eq, set_at hil]
  unfold hideB
  rw [decide_eq_false_iff_not, top_set h hs, hh, Int.add_mul]
  have hmul : 0 ≤ v * s.2.1 := Int.mul_nonneg hv (by omega)
  unfold needE
  split
  · rename_i h2
    have h3 := Int.ediv_lt_iff_lt_mul (a := more2 m l lo i s) (b := v) (c := s.2.1) (by omega)
    unfold more2 at *
    omega
  · rename_i h2
    unfold more2 at h2
    omega
end
/-- The pin is surely seen from all stands. -/
def openB (m : Mod) (l : List Int) (i : Nat) : Bool := (List.range m.ss.length).all fun s => seesB m l (m.ss.getD s default).x (m.ss.getD s default).y (m.ss.getD s default).lo i
section
variable {m : Mod} {l : List Int} {i : Nat}
theorem needK_le {v : Int} (hv : 0 ≤ v) : ∀ k, needK m l i k ≤ v ↔ ∀ s, s < k → ∀ u ∈ stepsS m (m.ss.getD s default).x (m.ss.getD s default).y i, needE m l (m.ss.getD s default).lo i u ≤ v
  | 0 => ⟨fun _ s hs => absurd hs (Nat.not_lt_zero s), fun _ => hv⟩
  | k + 1 => by
    unfold needK needA
    rw [foldmax_le, needK_le hv k]
    constructor
    · rintro ⟨h1, h2⟩ s hs u hu
      rcases Nat.lt_or_ge s k with h3 | h3
      · exact h1 s h3 u hu
      · obtain rfl : s = k := by omega
        exact h2 _ (List.mem_map.2 ⟨u, hu, rfl⟩)
    · intro h
      refine ⟨fun s hs u hu => h s (by omega) u hu, fun z hz => ?_⟩
      obtain ⟨u, hu, rfl⟩ := List.mem_map.1 hz
      exact h k (by omega) u hu
theorem sees_need {v : Int} (g : Good m) (hi : i < m.ps.length) (hil : i < l.length) (hv : 0 ≤ v) {s : Nat} (hs : s < m.ss.length) : seesB m (l.set i v) (m.ss.getD s default).x (m.ss.getD s default).y (m.ss.getD s default).lo i = true ↔ ∀ u ∈ stepsS m (m.ss.getD s default).x (m.ss.getD s default).y i, needE m l (m.ss.getD s default).lo i u ≤ v := by
  have hst := g.st hs
  have hw : Way m (m.ss.getD s default).x (m.ss.getD s default).y i := ⟨g, hi, by omega, by omega⟩
  unfold seesB hidesS
  rw [List.isEmpty_iff, List.map_eq_nil_iff, List.filter_eq_nil_iff]
  constructor
  · intro h u hu
    obtain ⟨k, hk⟩ := List.getElem?_of_mem hu
    exact (need_step hw hil hv hk).1 (by simpa using h u hu)
  · intro h u hu
    obtain ⟨k, hk⟩ := List.getElem?_of_mem hu
    have := (need_step (lo := (m.ss.getD s default).lo) hw hil hv hk).2 (h u hu)
    simpa using this
/-- A pin is surely seen from all stands just from needS on. -/
theorem open_iff {v : Int} (g : Good m) (hi : i < m.ps.length) (hil : i < l.length) (hv : 0 ≤ v) : openB m (l.set i v) i = true ↔ needS m l i ≤ v := by
  unfold openB needS
  rw [needK_le hv, List.all_eq_true]
  constructor
  · intro h s hs; exact (sees_need g hi hil hv hs).1 (h s (List.mem_range.2 hs))
  · intro h s hs; exact (sees_need g hi hil hv (List.mem_range.1 hs)).2 (h s (List.mem_range.1 hs))
theorem open_own (g : Good m) (hi : i < m.ps.length) (hil : i < l.length) (hl : LB l) : openB m l i = true ↔ needS m l i ≤ l.getD i default := by
  rw [← open_iff g hi hil (hl i).1, set_self hil]
theorem needS_nn : 0 ≤ needS m l i := by
  unfold needS
  have : ∀ k, 0 ≤ needK m l i k := by
    intro k
    induction k with
    | zero => exact Int.le_refl _
    | succ k ih =>
      unfold needK needA
      exact Int.le_trans ih ((foldmax_le (A := _) _).1 (Int.le_refl _)).1
  exact this _
end
/-- The lengths after a round of the reference. -/
def roundR (m : Mod) (l : List Int) (k : Nat) : List Int := (List.range k).map fun i => min (max (l.getD i default) (needS m l i)) ((m.ps.getD i default).most + 1)
section
variable {m : Mod} {l l6 : List Int} {i k : Nat}
theorem roundR_len : (roundR m l k).length = k := by simp [roundR]
theorem roundR_succ : roundR m l (k + 1) = roundR m l k ++ [min (max (l.getD k default) (needS m l k)) ((m.ps.getD k default).most + 1)] := by
  unfold roundR; rw [List.range_succ, List.map_append]; rfl
theorem roundR_at (h : i < k) : (roundR m l k).getD i default = min (max (l.getD i default) (needS m l i)) ((m.ps.getD i default).most + 1) := by
  unfold roundR; rw [List.getD_eq_getElem?_getD, List.getElem?_map, List.getElem?_range h]; rfl
theorem next_at (h6 : m.ps.length ≤ 6) (h : i < m.ps.length) : (nextS m l6).getD i default = max (l6.getD i default) (needS m l6 i) := by
  unfold nextS; rw [nx_at (by omega), if_pos h]
/-- The first pin that is longer than it may be. -/
def tooR (m : Mod) (l : List Int) : Option Nat := (List.range l.length).find? fun i => decide (l.getD i default > (m.ps.getD i default).most)
theorem find_congr {p q : Nat → Bool} {n : Nat} (h : ∀ i, i < n → p i = q i) : (List.range n).find? p = (List.range n).find? q := by
  have : ∀ xs : List Nat, (∀ x ∈ xs, p x = q x) → xs.find? p = xs.find? q := by
    intro xs
    induction xs with
    | nil => intro _; rfl
    | cons x xs ih => intro hx; rw [List.find?_cons, List.find?_cons, hx x List.mem_cons_self, ih (fun z hz => hx z (List.mem_cons_of_mem _ hz))]
  exact this _ (fun x hx => h x (List.mem_range.1 hx))
theorem tooR_eq (h6 : m.ps.length ≤ 6) (ha : Agree m l l6) : tooR m (roundR m l m.ps.length) = tooF m (nextS m l6) := by
  unfold tooR tooF
  rw [roundR_len]
  refine find_congr fun i hi => decide_eq_decide.2 ?_
  rw [roundR_at hi, next_at h6 hi, ha i hi, ha.need]
  omega
theorem agree_round (h6 : m.ps.length ≤ 6) (ha : Agree m l l6) (ht : tooF m (nextS m l6) = none) : Agree m (roundR m l m.ps.length) (nextS m l6) := fun i hi => by
  have := too_none.1 ht i hi
  rw [roundR_at hi, next_at h6 hi, ha i hi, ha.need]
  rw [next_at h6 hi] at this
  omega
theorem agree_take {n : Nat} (h6 : l6.length = 6) (hn : n ≤ 6) : ∀ i, i < n → (l6.take n).getD i default = l6.getD i default := fun i hi => by
  rw [List.getD_eq_getElem?_getD, List.getD_eq_getElem?_getD, List.getElem?_take, if_pos hi]
theorem agree_eq {n : Nat} {a b : List Int} (ha : a.length = n) (hb : b.length = n) (h : ∀ i, i < n → a.getD i default = b.getD i default) : a = b := by
  apply List.ext_getElem (by omega)
  intro i h1 h2
  have := h i (by omega)
  rwa [List.getD_eq_getElem?_getD, List.getD_eq_getElem?_getD, List.getElem?_eq_getElem h1, List.getElem?_eq_getElem h2] at this
/-- The reference's list is the beginning of the six lengths. -/
theorem round_take (h6 : m.ps.length ≤ 6) (hl6 : l6.length = 6) (ht : tooF m (nextS m l6) = none) : roundR m (l6.take m.ps.length) m.ps.length = (nextS m l6).take m.ps.length := by
  have h7 : (nextS m l6).length = 6 := nx_len
  refine agree_eq (n := m.ps.length) roundR_len (by rw [List.length_take, h7]; omega) fun i hi => ?_
  rw [agree_take h7 h6 i hi]
  exact agree_round h6 (fun i hi => agree_take hl6 h6 i hi) ht i hi
/-- No length changes just if none of the six does. -/
theorem take_same (h6 : m.ps.length ≤ 6) (hl6 : l6.length = 6) : l6.take m.ps.length = (nextS m l6).take m.ps.length ↔ nextS m l6 = l6 := by
  have h7 : (nextS m l6).length = 6 := nx_len
  constructor
  · intro h
    refine ext6 h7 hl6 fun i hi => ?_
    rcases Nat.lt_or_ge i m.ps.length with h1 | h1
    · rw [← agree_take h7 h6 i h1, ← h, agree_take hl6 h6 i h1]
    · unfold nextS; rw [nx_at hi, if_neg (by omega)]
  · intro h; rw [h]
theorem own_take (h6 : m.ps.length ≤ 6) : (own6 m).take m.ps.length = ownS m := by
  refine agree_eq (n := m.ps.length) (by rw [List.length_take, own6_len]; omega) own_len fun i hi => ?_
  rw [agree_take own6_len h6 i hi, own6_at, if_pos (by omega)]
theorem lb_take {n : Nat} (h : LB l6) : LB (l6.take n) := fun i => by
  rw [List.getD_eq_getElem?_getD, List.getElem?_take]
  split
  · have := h i; rwa [List.getD_eq_getElem?_getD] at this
  · exact ⟨Int.le_refl _, by show (0 : Int) ≤ 300; decide⟩
theorem lb_set {v : Int} (h : LB l) (hv : 0 ≤ v ∧ v ≤ 300) : LB (l.set i v) := fun j => by
  rw [List.getD_eq_getElem?_getD, List.getElem?_set]
  split
  · split
    · exact hv
    · exact ⟨Int.le_refl _, by show (0 : Int) ≤ 300; decide⟩
  · have := h j; rwa [List.getD_eq_getElem?_getD] at this
end
end Go.Proofs.YthkgnhcknkjgdaaDoor

/-
  The rounds' results.
  No conditions but those in the theorems.
-/
namespace Go.Proofs.YthkgnhcknkjgdaaDoor
open Go
theorem hides_pos {m : Mod} {l : List Int} {x y eye : Int} {i : Nat} : decide (((hidesS m l x y eye i).length : Int) > 0) = !seesB m l x y eye i := by
  rw [← sees_len, ← decide_not]
  exact decide_eq_decide.2 (by omega)
theorem too_find {m : Mod} {l : List Int} {k : Nat} (hk : k < l.length) (hall : ∀ i, i < k → ¬ l.getD i default > (m.ps.getD i default).most) (h : l.getD k default > (m.ps.getD k default).most) : tooR m l = some k := by
  unfold tooR
  rw [List.find?_eq_some_iff_append]
  refine ⟨by simpa using h, List.range k, (List.range (l.length - k - 1)).map (fun j => k + 1 + j), ?_, fun a ha => by have := hall a (List.mem_range.1 ha); simpa using this⟩
  apply List.ext_getElem?
  intro j
  rcases Nat.lt_trichotomy j k with h1 | h1 | h1
  · rw [List.getElem?_append_left (by simpa using h1), List.getElem?_range (by omega), List.getElem?_range h1]
  · subst h1
    rw [List.getElem?_append_right (by simp), List.getElem?_range hk]; simp
  · rw [List.getElem?_append_right (by simp; omega)]
    have e : j - (List.range k).length = (j - k - 1) + 1 := by simp; omega
    rw [e, List.getElem?_cons_succ, List.getElem?_map]
    rcases Nat.lt_or_ge j l.length with h2 | h2
    · rw [List.getElem?_range h2, List.getElem?_range (by omega)]
      simp; omega
    · rw [List.getElem?_eq_none (by simpa using h2), List.getElem?_eq_none (by simp; omega)]; rfl
theorem too_no {m : Mod} {l : List Int} (h : ∀ i, i < l.length → ¬ l.getD i default > (m.ps.getD i default).most) : tooR m l = none := by
  unfold tooR
  rw [List.find?_eq_none]
  intro i hi
  have := h i (List.mem_range.1 hi)
  simpa using this
theorem rnd_sign {m : Mod} : ∀ (f : Nat) (l : List Int) (r : Int), 0 ≤ r → (((rndS m f l r).2.2 = -1 ∧ (rndS m f l r).2.1 = 0) ∨ ((rndS m f l r).2.2 ≠ -1 ∧ (rndS m f l r).2.1 > 0))
  | 0, l, r, _ => .inl ⟨rfl, rfl⟩
  | f + 1, l, r, hr => by
    cases ht : tooF m (nextS m l) with
    | some i => rw [rnd_some ht]; right; exact ⟨by simp only; omega, by simp only; omega⟩
    | none =>
      by_cases he : nextS m l = l
      · rw [rnd_end ht he]; exact .inl ⟨rfl, rfl⟩
      · rw [rnd_next ht he]; exact rnd_sign f _ _ (by omega)
theorem rounds_sign {m : Mod} : ((roundsS m).2.2 = -1 ∧ (roundsS m).2.1 = 0) ∨ ((roundsS m).2.2 ≠ -1 ∧ (roundsS m).2.1 > 0) := rnd_sign _ _ _ (Int.le_refl _)
/-- The pin that gets too long is that of the next round. -/
theorem rnd_too {m : Mod} : ∀ (f : Nat) (l : List Int) (r : Int), (rndS m f l r).2.2 ≠ -1 → ∃ i : Nat, tooF m (nextS m (rndS m f l r).1) = some i ∧ (rndS m f l r).2.2 = (i : Int)
  | 0, l, r, h => absurd rfl h
  | f + 1, l, r, h => by
    cases ht : tooF m (nextS m l) with
    | some i => rw [rnd_some ht]; exact ⟨i, ht, rfl⟩
    | none =>
      by_cases he : nextS m l = l
      · rw [rnd_end ht he] at h; exact absurd rfl h
      · rw [rnd_next ht he] at h ⊢; exact rnd_too f _ _ h
theorem rounds_too {m : Mod} (h : (roundsS m).2.2 ≠ -1) : ∃ i : Nat, tooF m (nextS m (roundsS m).1) = some i ∧ (roundsS m).2.2 = (i : Int) := rnd_too _ _ _ h
/-- No length is above its pin's most before a round. -/
def LM (m : Mod) (l : List Int) : Prop := ∀ i, i < m.ps.length → l.getD i default ≤ (m.ps.getD i default).most
theorem lm_next {m : Mod} {l : List Int} (h : tooF m (nextS m l) = none) : LM m (nextS m l) := fun i hi => by
  have := too_none.1 h i hi; omega
theorem lm_own {m : Mod} (g : Good m) : LM m (own6 m) := fun i hi => by
  have h6 := g.n
  have h1 := g.p i hi
  rw [own6_at, if_pos (by omega), own_at hi]; omega
theorem rnd_lm {m : Mod} : ∀ (f : Nat) (l : List Int) (r : Int), LM m l → LM m (rndS m f l r).1
  | 0, l, r, h => h
  | f + 1, l, r, h => by
    cases ht : tooF m (nextS m l) with
    | some i => rw [rnd_some ht]; exact h
    | none =>
      by_cases he : nextS m l = l
      · rw [rnd_end ht he]; exact h
      · rw [rnd_next ht he]; exact rnd_lm f _ _ (lm_next ht)
theorem rounds_lm {m : Mod} (g : Good m) : LM m (roundsS m).1 := rnd_lm _ _ _ (lm_own g)
theorem lm_take {m : Mod} {l : List Int} (h6 : m.ps.length ≤ 6) (hl : l.length = 6) (h : LM m l) : LM m (l.take m.ps.length) := fun i hi => by
  rw [agree_take hl h6 i hi]; exact h i hi
theorem tk_len {m : Mod} {l : List Int} (h6 : m.ps.length ≤ 6) (hl : l.length = 6) : (l.take m.ps.length).length = m.ps.length := by rw [List.length_take]; omega
/-- A list of a model's lengths, with another one for one of them. -/
theorem agree_set {m : Mod} {l l' : List Int} {p : Nat} {v : Int} (h : Agree m l l') (hp : p < m.ps.length) (hl : l.length = m.ps.length) (hl' : m.ps.length ≤ l'.length) : Agree m (l.set p v) (l'.set p v) := fun i hi => by
  rcases Decidable.em (i = p) with rfl | hne
  · rw [set_at (by omega), set_at (by omega)]
  · rw [List.getD_eq_getElem?_getD, List.getElem?_set_ne (fun e => hne e.symm), List.getD_eq_getElem?_getD, List.getElem?_set_ne (fun e => hne e.symm), ← List.getD_eq_getElem?_getD, ← List.getD_eq_getElem?_getD]
    exact h i hi
theorem stk_take {m : Mod} (g : Good m) {p : Nat} (hp : p < m.ps.length) : Agree m (((roundsS m).1.take m.ps.length).set p (m.ps.getD p default).most) (stkL m p) := by
  have h6 := g.n
  have hl := @rounds_len m
  exact agree_set (fun i hi => agree_take hl h6 i hi) hp (tk_len h6 hl) (by omega)
theorem sum_lt {l : List Int} {r : Nat} (hb : LB l) (h6 : l.length = 6) (h : (r : Int) ≤ l.sum) : r ≤ 1800 := by
  have := (lb_sum hb h6).2; omega
end Go.Proofs.YthkgnhcknkjgdaaDoor
