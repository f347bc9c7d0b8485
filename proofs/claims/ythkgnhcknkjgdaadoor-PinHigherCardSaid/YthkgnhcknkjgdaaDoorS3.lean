/-
  Plain lemmas and plain functions, several texts joined.
  Conditions stand in each theorem.
-/
import Derived.Test.YthkgnhcknkjgdaaDoorS1
set_option linter.unusedSimpArgs false
set_option linter.unusedVariables false
/-
  What functions of pin return: seen pins, heights of eyes, lengths.
  No conditions but those in the theorems.
-/
namespace Go.Proofs.YthkgnhcknkjgdaaDoor
open Go
theorem sees_len {m : Mod} {l : List Int} {x y eye : Int} {i : Nat} : decide (((hidesS m l x y eye i).length : Int) = 0) = seesB m l x y eye i := by
  unfold seesB
  cases hidesS m l x y eye i with
  | nil => rfl
  | cons a as => simp only [List.length_cons, List.isEmpty_cons, decide_eq_false_iff_not]; omega
theorem selN_yes {p : Nat → Bool} {n : Nat} (h : p n = true) : selN p (n + 1) = selN p n ++ [(n : Int)] := by rw [selN_succ, if_pos h]
theorem selN_no {p : Nat → Bool} {n : Nat} (h : p n = false) : selN p (n + 1) = selN p n := by rw [selN_succ, if_neg (by simp [h]), List.append_nil]
theorem seen_0 {m : Mod} {s : Nat} (hc : (chk m).2.2 = 0) (hs : s < m.ss.length) : seenE m s = 0 := by unfold seenE; rw [if_neg (by omega), if_neg (by omega)]
theorem seen_4 {m : Mod} {s : Int} (hc : (chk m).2.2 = 0) (hs : ¬ (0 ≤ s ∧ s ≤ (m.ss.length : Int) - 1)) : seenE m s = 4 := by unfold seenE; rw [if_neg (by omega), if_pos hs]
theorem seen_c {m : Mod} {s : Int} (hc : (chk m).2.2 ≠ 0) : seenE m s = (chk m).2.2 := by unfold seenE; rw [if_pos hc]
/-- What Seen returns: surely, perhaps. -/
def sureL (m : Mod) (s : Int) : List Int := if seenE m s = 0 then seenL m (ownS m) s.toNat (m.ss.getD s.toNat default).lo else []
def mayL (m : Mod) (s : Int) : List Int := if seenE m s = 0 then seenL m (ownS m) s.toNat (m.ss.getD s.toNat default).hi else []
theorem sure_e {m : Mod} {s : Int} (h : seenE m s ≠ 0) : sureL m s = [] := by unfold sureL; rw [if_neg h]
theorem may_e {m : Mod} {s : Int} (h : seenE m s ≠ 0) : mayL m s = [] := by unfold mayL; rw [if_neg h]
theorem sure_0 {m : Mod} {s : Nat} (h : seenE m s = 0) : sureL m s = seenL m (ownS m) s (m.ss.getD s default).lo := by unfold sureL; rw [if_pos h]; rfl
theorem may_0 {m : Mod} {s : Nat} (h : seenE m s = 0) : mayL m s = seenL m (ownS m) s (m.ss.getD s default).hi := by unfold mayL; rw [if_pos h]; rfl
theorem seenL_len {m : Mod} {l : List Int} {s : Nat} {eye : Int} : (seenL m l s eye).length ≤ m.ps.length := selN_len
/-! Eyes -/
def moreE (m : Mod) (l : List Int) (i : Nat) (s : Int × Int × Int) : Int := topS m l s.1 * s.2.2 - headS m l i * s.2.1
def eyeE (m : Mod) (l : List Int) (i : Nat) (s : Int × Int × Int) : Int := if moreE m l i s ≥ 0 then moreE m l i s / (s.2.2 - s.2.1) + 1 else 0
def eyeK (m : Mod) (l : List Int) (x y : Int) (i k : Nat) : Int := (((stepsS m x y i).take k).map (eyeE m l i)).foldl max 0
def eyeS (m : Mod) (l : List Int) (x y : Int) (i : Nat) : Int := ((stepsS m x y i).map (eyeE m l i)).foldl max 0
theorem eye_all {m : Mod} {l : List Int} {x y : Int} {i : Nat} : eyeK m l x y i (stepsS m x y i).length = eyeS m l x y i := by unfold eyeK eyeS; rw [List.take_length]
theorem eye_next {m : Mod} {l : List Int} {x y : Int} {i k : Nat} {s : Int × Int × Int} (h : (stepsS m x y i)[k]? = some s) : eyeK m l x y i (k + 1) = max (eyeK m l x y i k) (eyeE m l i s) := by
  unfold eyeK
  rw [List.take_add_one, h, List.map_append, List.foldl_append]; rfl
theorem div_bd {a b A : Int} (ha : 0 ≤ a ∧ a ≤ A) (hb : 1 ≤ b) : 0 ≤ a / b ∧ a / b ≤ A := ⟨Int.ediv_nonneg ha.1 (by omega), Int.le_trans (Int.ediv_le_self b ha.1) ha.2⟩
theorem eyeE_bd {m : Mod} {l : List Int} {x y : Int} {i k : Nat} {s : Int × Int × Int} (h : Way m x y i) (hl : LB l) (hs : (stepsS m x y i)[k]? = some s) : -21600 ≤ moreE m l i s ∧ moreE m l i s ≤ 21600 ∧ 0 ≤ eyeE m l i s ∧ eyeE m l i s ≤ 21601 := by
  have h1 := hide_bd (eye := 0) h hl (by omega) hs
  have h2 := h.step hs
  unfold eyeE
  have h3 : -21600 ≤ moreE m l i s ∧ moreE m l i s ≤ 21600 := by unfold moreE; omega
  refine ⟨h3.1, h3.2, ?_⟩
  split
  · have := div_bd (a := moreE m l i s) (A := 21600) (b := s.2.2 - s.2.1) (by omega) (by omega)
    omega
  · omega
theorem foldmax_bd {xs : List Int} {A : Int} (hA : 0 ≤ A) (h : ∀ x ∈ xs, x ≤ A) : ∀ a, 0 ≤ a → a ≤ A → 0 ≤ xs.foldl max a ∧ xs.foldl max a ≤ A := by
  induction xs with
  | nil => intro a h0 h1; exact ⟨h0, h1⟩
  | cons x xs ih =>
    intro a h0 h1
    have hx := h x (by simp)
    exact ih (fun y hy => h y (by simp [hy])) (max a x) (by omega) (by omega)
theorem eyeK_bd {m : Mod} {l : List Int} {x y : Int} {i k : Nat} (h : Way m x y i) (hl : LB l) : 0 ≤ eyeK m l x y i k ∧ eyeK m l x y i k ≤ 21601 := by
  unfold eyeK
  refine foldmax_bd (by decide) (fun z hz => ?_) 0 (by decide) (by decide)
  obtain ⟨s, hs, rfl⟩ := List.mem_map.1 hz
  obtain ⟨j, hj⟩ := List.getElem?_of_mem (List.mem_of_mem_take hs)
  exact (eyeE_bd h hl hj).2.2.2
/-- What Eye returns. -/
def eyeR (m : Mod) (s p : Int) : Int × Int :=
  if askE m s p ≠ 0 then (0, askE m s p) else if eyeS m (ownS m) (m.ss.getD s.toNat default).x (m.ss.getD s.toNat default).y p.toNat > 2000 then (0, 9) else (eyeS m (ownS m) (m.ss.getD s.toNat default).x (m.ss.getD s.toNat default).y p.toNat, 0)
/-! Eyes of which height see: from eyeS on. -/
theorem hide_iff {m : Mod} {l : List Int} {x y eye : Int} {i k : Nat} {s : Int × Int × Int} (h : Way m x y i) (he : 0 ≤ eye) (hs : (stepsS m x y i)[k]? = some s) : hideB m l eye i s = false ↔ eyeE m l i s ≤ eye := by
  have h2 := h.step hs
  unfold hideB eyeE
  rw [decide_eq_false_iff_not]
  have hd : 0 < s.2.2 - s.2.1 := by omega
  have e : topS m l s.1 * s.2.2 ≥ eye * (s.2.2 - s.2.1) + headS m l i * s.2.1 ↔ eye * (s.2.2 - s.2.1) ≤ moreE m l i s := by unfold moreE; omega
  rw [e]
  constructor
  · intro h1
    split
    · have : moreE m l i s / (s.2.2 - s.2.1) < eye := Int.ediv_lt_of_lt_mul hd (by omega)
      omega
    · exact he
  · intro h1 h3
    have h0 : 0 ≤ eye * (s.2.2 - s.2.1) := Int.mul_nonneg he (by omega)
    rw [if_pos (by omega)] at h1
    have := Int.le_ediv_of_mul_le hd h3
    omega
theorem foldmax_le {xs : List Int} {A : Int} : ∀ a, (xs.foldl max a ≤ A ↔ a ≤ A ∧ ∀ x ∈ xs, x ≤ A) := by
  induction xs with
  | nil => intro a; simp
  | cons x xs ih =>
    intro a
    rw [List.foldl_cons, ih]
    simp only [List.mem_cons, forall_eq_or_imp]
    constructor
    · rintro ⟨h1, h2⟩; exact ⟨by omega, by omega, h2⟩
    · rintro ⟨h1, h2, h3⟩; exact ⟨by omega, h3⟩
theorem hides_iff {m : Mod} {l : List Int} {x y eye : Int} {i : Nat} (h : Way m x y i) (he : 0 ≤ eye) : hidesS m l x y eye i = [] ↔ eyeS m l x y i ≤ eye := by
  unfold hidesS eyeS
  rw [List.map_eq_nil_iff, List.filter_eq_nil_iff, foldmax_le]
  constructor
  · intro h1
    refine ⟨he, fun z hz => ?_⟩
    obtain ⟨s, hs, rfl⟩ := List.mem_map.1 hz
    obtain ⟨j, hj⟩ := List.getElem?_of_mem hs
    exact (hide_iff h he hj).1 (by simpa using h1 s hs)
  · rintro ⟨_, h1⟩ s hs
    obtain ⟨j, hj⟩ := List.getElem?_of_mem hs
    have := (hide_iff (l := l) h he hj).2 (h1 _ (List.mem_map_of_mem hs))
    simp [this]
theorem sees_iff {m : Mod} {l : List Int} {x y eye : Int} {i : Nat} (h : Way m x y i) (he : 0 ≤ eye) : seesB m l x y eye i = true ↔ eyeS m l x y i ≤ eye := by
  unfold seesB; rw [List.isEmpty_iff, hides_iff h he]
end Go.Proofs.YthkgnhcknkjgdaaDoor

/-
  What functions of pin return: how long pins have to be.
  No conditions but those in the theorems.
-/
namespace Go.Proofs.YthkgnhcknkjgdaaDoor
open Go
/-- The height of a pin's field. -/
def hgS (m : Mod) (i : Nat) : Int := m.hs.getD ((m.ps.getD i default).y * m.W + (m.ps.getD i default).x).toNat default
theorem head_eq {m : Mod} {l : List Int} {i : Nat} : headS m l i = hgS m i + l.getD i default := rfl
def more2 (m : Mod) (l : List Int) (lo : Int) (i : Nat) (s : Int × Int × Int) : Int := topS m l s.1 * s.2.2 - lo * (s.2.2 - s.2.1) - hgS m i * s.2.1
def needE (m : Mod) (l : List Int) (lo : Int) (i : Nat) (s : Int × Int × Int) : Int := if more2 m l lo i s ≥ 0 then more2 m l lo i s / s.2.1 + 1 else 0
/-- From one stand. -/
def needA (m : Mod) (l : List Int) (i s : Nat) (a : Int) : Int := ((stepsS m (m.ss.getD s default).x (m.ss.getD s default).y i).map (needE m l (m.ss.getD s default).lo i)).foldl max a
def needAK (m : Mod) (l : List Int) (i s : Nat) (a : Int) (k : Nat) : Int := (((stepsS m (m.ss.getD s default).x (m.ss.getD s default).y i).take k).map (needE m l (m.ss.getD s default).lo i)).foldl max a
/-- From the first k stands. -/
def needK (m : Mod) (l : List Int) (i : Nat) : Nat → Int
  | 0 => 0
  | k + 1 => needA m l i k (needK m l i k)
def needS (m : Mod) (l : List Int) (i : Nat) : Int := needK m l i m.ss.length
section
variable {m : Mod} {l : List Int} {i s k : Nat} {a : Int}
theorem need_all : needAK m l i s a (stepsS m (m.ss.getD s default).x (m.ss.getD s default).y i).length = needA m l i s a := by unfold needAK needA; rw [List.take_length]
theorem need_0 : needAK m l i s a 0 = a := by unfold needAK; rfl
theorem need_next {u : Int × Int × Int} (h : (stepsS m (m.ss.getD s default).x (m.ss.getD s default).y i)[k]? = some u) : needAK m l i s a (k + 1) = max (needAK m l i s a k) (needE m l (m.ss.getD s default).lo i u) := by
  unfold needAK
  rw [List.take_add_one, h, List.map_append, List.foldl_append]; rfl
theorem hgS_bd (g : Good m) : 0 ≤ hgS m i ∧ hgS m i ≤ 500 := g.hb _
theorem need_bd1 {x y lo : Int} {u : Int × Int × Int} (h : Way m x y i) (hl : LB l) (he : 0 ≤ lo ∧ lo ≤ 2000) (hs : (stepsS m x y i)[k]? = some u) :
    (0 ≤ topS m l u.1 * u.2.2 ∧ topS m l u.1 * u.2.2 ≤ 21600) ∧ (0 ≤ lo * (u.2.2 - u.2.1) ∧ lo * (u.2.2 - u.2.1) ≤ 54000) ∧ (0 ≤ hgS m i * u.2.1 ∧ hgS m i * u.2.1 ≤ 13500) ∧ (0 ≤ needE m l lo i u ∧ needE m l lo i u ≤ 21601) := by
  have h1 := h.step hs
  have h2 := mul_bd (C := 27) (top_bd h.g hl u.1) (b := u.2.2) (by omega)
  have h3 := mul_bd (C := 27) he (b := u.2.2 - u.2.1) (by omega)
  have h4 := mul_bd (C := 27) (hgS_bd (i := i) h.g) (b := u.2.1) (by omega)
  refine ⟨by omega, by omega, by omega, ?_⟩
  unfold needE
  split
  · rename_i h5
    have h6 : more2 m l lo i u ≤ 21600 := by unfold more2; omega
    have := div_bd (a := more2 m l lo i u) (A := 21600) (b := u.2.1) (by omega) (by omega)
    omega
  · omega
theorem needA_bd (g : Good m) (hl : LB l) (hi : i < m.ps.length) (hs : s < m.ss.length) (ha : 0 ≤ a ∧ a ≤ 21601) : 0 ≤ needAK m l i s a k ∧ needAK m l i s a k ≤ 21601 := by
  have hst := g.st hs
  unfold needAK
  refine foldmax_bd (by decide) (fun z hz => ?_) a ha.1 ha.2
  obtain ⟨u, hu, rfl⟩ := List.mem_map.1 hz
  obtain ⟨j, hj⟩ := List.getElem?_of_mem (List.mem_of_mem_take hu)
  exact (need_bd1 ⟨g, hi, by omega, by omega⟩ hl (by omega) hj).2.2.2.2
theorem needK_bd (g : Good m) (hl : LB l) (hi : i < m.ps.length) : ∀ {k : Nat}, k ≤ m.ss.length → 0 ≤ needK m l i k ∧ needK m l i k ≤ 21601
  | 0, _ => ⟨Int.le_refl _, by show (0 : Int) ≤ _; decide⟩
  | k + 1, h => by
    have h1 := needK_bd g hl hi (k := k) (by omega)
    have h2 := needA_bd (k := (stepsS m (m.ss.getD k default).x (m.ss.getD k default).y i).length) g hl hi (s := k) (by omega) h1
    rw [need_all] at h2
    exact h2
end
end Go.Proofs.YthkgnhcknkjgdaaDoor

/-
  The rounds in which pins grow.
  No conditions but those in the theorems.
-/
namespace Go.Proofs.YthkgnhcknkjgdaaDoor
open Go
/-- The lengths after a round, for the first k pins. -/
def nxK (m : Mod) (l : List Int) (k : Nat) : List Int := (List.range 6).map fun i => if i < k then max (l.getD i default) (needS m l i) else l.getD i default
def nextS (m : Mod) (l : List Int) : List Int := nxK m l m.ps.length
def tooF (m : Mod) (x : List Int) : Option Nat := (List.range m.ps.length).find? fun i => decide (x.getD i default > (m.ps.getD i default).most)
/-- The rounds: the lengths, which round, which pin. -/
def rndS (m : Mod) : Nat → List Int → Int → List Int × Int × Int
  | 0, l, _ => (l, 0, -1)
  | f + 1, l, r => match tooF m (nextS m l) with
    | some i => (l, r + 1, (i : Int))
    | none => if nextS m l = l then (l, 0, -1) else rndS m f (nextS m l) (r + 1)
def own6 (m : Mod) : List Int := owK m m.ps.length
def roundsS (m : Mod) : List Int × Int × Int := rndS m 1801 (own6 m) 0
section
variable {m : Mod} {l : List Int} {i k : Nat}
theorem nx_len : (nxK m l k).length = 6 := by simp [nxK]
theorem nx_at (h : i < 6) : (nxK m l k).getD i default = if i < k then max (l.getD i default) (needS m l i) else l.getD i default := by
  simp [nxK, List.getD_eq_getElem?_getD, h]
theorem nx_out (h : ¬ i < 6) : (nxK m l k).getD i default = 0 := by
  rw [List.getD_eq_getElem?_getD, List.getElem?_eq_none (by rw [nx_len]; omega)]; rfl
theorem ln_ext {a b : List Int} (h : ∀ i, i < 6 → a.getD i default = b.getD i default) : ln a = ln b := by
  unfold ln
  rw [h 0 (by omega), h 1 (by omega), h 2 (by omega), h 3 (by omega), h 4 (by omega), h 5 (by omega)]
theorem nx_0 : ln (nxK m l 0) = ln l := ln_ext (fun i hi => by rw [nx_at hi, if_neg (by omega)])
theorem nx_set (h : k < 6) : (nxK m l k).set k (max ((nxK m l k).getD k default) (needS m l k)) = nxK m l (k + 1) := by
  apply List.ext_getElem?
  intro j
  rcases Nat.lt_or_ge j 6 with hj | hj
  · have e : ∀ xs : List Int, xs.length = 6 → xs[j]? = some (xs.getD j default) := fun xs hx => by
      rw [List.getD_eq_getElem?_getD, List.getElem?_eq_getElem (by omega)]; rfl
    rw [e _ (by rw [List.length_set, nx_len]), e _ nx_len, nx_at hj]
    congr 1
    rw [List.getD_eq_getElem?_getD, List.getElem?_set]
    split
    · rename_i h2; subst h2
      rw [if_pos (by rw [nx_len]; exact hj), if_pos (by omega), nx_at hj, if_neg (by omega)]; rfl
    · rename_i h2
      rw [← List.getD_eq_getElem?_getD, nx_at hj]
      by_cases h3 : j < k
      · rw [if_pos h3, if_pos (by omega)]
      · rw [if_neg h3, if_neg (by omega)]
  · rw [List.getElem?_eq_none (by rw [List.length_set, nx_len]; exact hj), List.getElem?_eq_none (by rw [nx_len]; exact hj)]
theorem ext6 {a b : List Int} (ha : a.length = 6) (hb : b.length = 6) (h : ∀ i, i < 6 → a.getD i default = b.getD i default) : a = b := by
  apply List.ext_getElem?
  intro j
  rcases Nat.lt_or_ge j 6 with hj | hj
  · have e : ∀ xs : List Int, xs.length = 6 → xs[j]? = some (xs.getD j default) := fun xs hx => by
      rw [List.getD_eq_getElem?_getD, List.getElem?_eq_getElem (by omega)]; rfl
    rw [e _ ha, e _ hb, h j hj]
  · rw [List.getElem?_eq_none (by omega), List.getElem?_eq_none (by omega)]
theorem too_some {x : List Int} (hk : k < m.ps.length) (hall : ∀ i, i < k → ¬ x.getD i default > (m.ps.getD i default).most) (h : x.getD k default > (m.ps.getD k default).most) : tooF m x = some k := by
  unfold tooF
  rw [List.find?_eq_some_iff_append]
  refine ⟨decide_eq_true h, List.range k, (List.range (m.ps.length - k - 1)).map (fun j => k + 1 + j), ?_, fun a ha => by simpa using hall a (List.mem_range.1 ha)⟩
  apply List.ext_getElem?
  intro j
  rcases Nat.lt_trichotomy j k with h1 | h1 | h1
  · rw [List.getElem?_append_left (by simpa using h1), List.getElem?_range (by omega), List.getElem?_range h1]
  · subst h1
    rw [List.getElem?_append_right (by simp), List.getElem?_range hk]; simp
  · rw [List.getElem?_append_right (by simp; omega)]
    have e : j - (List.range k).length = (j - k - 1) + 1 := by simp; omega
    rw [e, List.getElem?_cons_succ, List.getElem?_map]
    rcases Nat.lt_or_ge j m.ps.length with h2 | h2
    · rw [List.getElem?_range h2, List.getElem?_range (by omega)]
      simp; omega
    · rw [List.getElem?_eq_none (by simpa using h2), List.getElem?_eq_none (by simp; omega)]; rfl
theorem too_none {x : List Int} : tooF m x = none ↔ ∀ i, i < m.ps.length → ¬ x.getD i default > (m.ps.getD i default).most := by
  unfold tooF
  rw [List.find?_eq_none]
  constructor
  · intro h i hi; have := h i (List.mem_range.2 hi); simpa using this
  · intro h i hi; have := h i (List.mem_range.1 hi); simpa using this
theorem sum_le {a b : List Int} (hl : a.length = b.length) (h : ∀ i, a.getD i default ≤ b.getD i default) : a.sum ≤ b.sum ∧ (a ≠ b → a.sum + 1 ≤ b.sum) := by
  induction a generalizing b with
  | nil =>
    cases b with
    | nil => exact ⟨Int.le_refl _, fun h => absurd rfl h⟩
    | cons x xs => simp at hl
  | cons x xs ih =>
    cases b with
    | nil => simp at hl
    | cons y ys =>
      have h0 := h 0
      simp only [List.getD_cons_zero] at h0
      have h1 := ih (b := ys) (by simpa using hl) (fun i => by have := h (i + 1); simpa using this)
      simp only [List.sum_cons]
      refine ⟨by omega, fun hne => ?_⟩
      by_cases hxy : x = y
      · subst hxy
        have := h1.2 (fun e => hne (by rw [e]))
        omega
      · have := h1.1; omega
theorem sum_bd {a : List Int} {A : Int} (h : ∀ i, a.getD i default ≤ A) : a.sum ≤ a.length * A := by
  induction a with
  | nil => simp
  | cons x xs ih =>
    have h0 := h 0
    have h1 := ih (fun i => by have := h (i + 1); simpa using this)
    simp only [List.getD_cons_zero] at h0
    simp only [List.sum_cons, List.length_cons]
    rw [Int.natCast_add, Int.add_mul]
    omega
theorem next_lb (g : Good m) (hl : LB l) (ht : tooF m (nextS m l) = none) : LB (nextS m l) := fun i => by
  rcases Nat.lt_or_ge i 6 with hi | hi
  · have h1 := hl i
    rcases Nat.lt_or_ge i m.ps.length with h2 | h2
    · have h3 := too_none.1 ht i h2
      have h4 := g.p i h2
      have h5 : (nextS m l).getD i default = max (l.getD i default) (needS m l i) := by unfold nextS; rw [nx_at hi, if_pos h2]
      omega
    · have h5 : (nextS m l).getD i default = l.getD i default := by unfold nextS; rw [nx_at hi, if_neg (by omega)]
      omega
  · have h5 : (nextS m l).getD i default = 0 := by unfold nextS; rw [nx_out (by omega)]
    omega
theorem next_ge (h6 : l.length = 6) (i : Nat) : l.getD i default ≤ (nextS m l).getD i default := by
  unfold nextS
  rcases Nat.lt_or_ge i 6 with hi | hi
  · rw [nx_at hi]; split <;> omega
  · rw [nx_out (by omega), List.getD_eq_getElem?_getD, List.getElem?_eq_none (by omega)]; decide
theorem next_sum (h6 : l.length = 6) (hne : nextS m l ≠ l) : l.sum + 1 ≤ (nextS m l).sum := (sum_le (by unfold nextS; rw [nx_len, h6]) (next_ge h6)).2 (fun e => hne e.symm)
theorem rnd_some {f : Nat} {r : Int} {i : Nat} (h : tooF m (nextS m l) = some i) : rndS m (f + 1) l r = (l, r + 1, (i : Int)) := by rw [rndS, h]
theorem rnd_end {f : Nat} {r : Int} (h : tooF m (nextS m l) = none) (he : nextS m l = l) : rndS m (f + 1) l r = (l, 0, -1) := by rw [rndS, h]; simp only; rw [if_pos he]
theorem rnd_next {f : Nat} {r : Int} (h : tooF m (nextS m l) = none) (he : ¬ nextS m l = l) : rndS m (f + 1) l r = rndS m f (nextS m l) (r + 1) := by rw [rndS, h]; simp only; rw [if_neg he]
theorem own6_at : (own6 m).getD i default = if i < 6 then (ownS m).getD i default else 0 := by
  unfold own6 owK
  rcases Nat.lt_or_ge i 6 with h | h
  · rw [if_pos h]
    simp only [List.getD_eq_getElem?_getD, List.getElem?_map, List.getElem?_range h, Option.map_some, Option.getD_some]
    rw [← List.getD_eq_getElem?_getD, ← List.getD_eq_getElem?_getD]
    split
    · rename_i h1; rw [own_at h1]
    · rename_i h1; rw [own_out h1]
  · rw [if_neg (by omega), List.getD_eq_getElem?_getD, List.getElem?_eq_none (by simp; omega)]; rfl
theorem own6_ln : ln (own6 m) = ln (ownS m) := ln_ext (fun i hi => by rw [own6_at, if_pos hi])
theorem own6_lb (g : Good m) : LB (own6 m) := fun i => by rw [own6_at]; split; exact g.lb i; omega
theorem own6_len : (own6 m).length = 6 := by simp [own6, owK]
theorem lb_sum (hl : LB l) (h6 : l.length = 6) : 0 ≤ l.sum ∧ l.sum ≤ 1800 := by
  have h1 := sum_bd (A := 300) (fun i => (hl i).2)
  have h2 : ∀ (a : List Int), (∀ i, 0 ≤ a.getD i default) → 0 ≤ a.sum := by
    intro a
    induction a with
    | nil => intro _; simp
    | cons x xs ih =>
      intro h
      have h0 := h 0
      have h1 := ih (fun i => by have := h (i + 1); simpa using this)
      simp only [List.getD_cons_zero] at h0
      simp only [List.sum_cons]; omega
  rw [h6] at h1
  exact ⟨h2 l (fun i => (hl i).1), by omega⟩
end
theorem rnd_len {m : Mod} : ∀ (f : Nat) (l : List Int) (r : Int), l.length = 6 → (rndS m f l r).1.length = 6
  | 0, l, r, h => h
  | f + 1, l, r, h => by
    cases ht : tooF m (nextS m l) with
    | some i => rw [rnd_some ht]; exact h
    | none =>
      by_cases he : nextS m l = l
      · rw [rnd_end ht he]; exact h
      · rw [rnd_next ht he]; exact rnd_len f _ _ nx_len
theorem rounds_len {m : Mod} : (roundsS m).1.length = 6 := rnd_len 1801 _ _ own6_len
theorem rnd_lb {m : Mod} (g : Good m) : ∀ (f : Nat) (l : List Int) (r : Int), LB l → LB (rndS m f l r).1
  | 0, l, r, h => h
  | f + 1, l, r, h => by
    cases ht : tooF m (nextS m l) with
    | some i => rw [rnd_some ht]; exact h
    | none =>
      by_cases he : nextS m l = l
      · rw [rnd_end ht he]; exact h
      · rw [rnd_next ht he]; exact rnd_lb g f _ _ (next_lb g h ht)
theorem rounds_lb {m : Mod} (g : Good m) : LB (roundsS m).1 := rnd_lb g 1801 _ _ (own6_lb g)
theorem rnd_pin {m : Mod} : ∀ (f : Nat) (l : List Int) (r : Int), (rndS m f l r).2.2 = -1 ∨ ∃ i : Nat, i < m.ps.length ∧ (rndS m f l r).2.2 = (i : Int)
  | 0, l, r => .inl rfl
  | f + 1, l, r => by
    cases ht : tooF m (nextS m l) with
    | some i =>
      rw [rnd_some ht]
      refine .inr ⟨i, ?_, rfl⟩
      unfold tooF at ht
      exact List.mem_range.1 (List.mem_of_find?_eq_some ht)
    | none =>
      by_cases he : nextS m l = l
      · rw [rnd_end ht he]; exact .inl rfl
      · rw [rnd_next ht he]; exact rnd_pin f _ _
theorem rounds_pin {m : Mod} : (roundsS m).2.2 = -1 ∨ ∃ i : Nat, i < m.ps.length ∧ (roundsS m).2.2 = (i : Int) := rnd_pin 1801 _ _
theorem ln_take {l : List Int} {n : Nat} (h : l.length = 6) (hn : n ≤ 6) : ln l = (l.take n).flatMap K.eI ++ (ln l).drop n := by
  have e : ∀ xs : List Int, xs.flatMap K.eI = xs.map iI := fun xs => by
    induction xs with
    | nil => rfl
    | cons x xs ih => rw [List.flatMap_cons, ih]; rfl
  have e2 : ln l = l.map iI := by
    match l, h with
    | [a, b, c, d, e, f], _ => rfl
  rw [e, List.map_take, e2, List.take_append_drop]
/-- What Lengths returns. -/
def lngE (m : Mod) : Int := if (chk m).2.2 ≠ 0 then (chk m).2.2 else if (roundsS m).2.2 ≠ -1 then 9 else 0
def lngL (m : Mod) : List Int := if lngE m = 0 then (roundsS m).1.take m.ps.length else []
/-- The stand and the field of Stuck. -/
def stkL (m : Mod) (p : Nat) : List Int := (roundsS m).1.set p (m.ps.getD p default).most
def stkB (m : Mod) (p s : Nat) : Bool := seesB m (stkL m p) (m.ss.getD s default).x (m.ss.getD s default).y (m.ss.getD s default).lo p
def stkS (m : Mod) (p : Nat) : Option Nat := (List.range m.ss.length).find? fun s => !stkB m p s
/-- What Stuck returns. -/
def stuckS (m : Mod) : Int × Int × Int × Int × Int :=
  if (chk m).2.2 ≠ 0 then (0, 0, 0, 0, (chk m).2.2)
  else if (roundsS m).2.2 = -1 then (0, 0, 0, 0, 4)
  else match stkS m (roundsS m).2.2.toNat with
    | some s => ((roundsS m).2.1, (roundsS m).2.2, (s : Int), (hidesS m (stkL m (roundsS m).2.2.toNat) (m.ss.getD s default).x (m.ss.getD s default).y (m.ss.getD s default).lo (roundsS m).2.2.toNat).headD 0, 0)
    | none => (0, 0, 0, 0, 4)
theorem stk_some {m : Mod} {p k : Nat} (hk : k < m.ss.length) (hall : ∀ i, i < k → stkB m p i = true) (h : stkB m p k = false) : stkS m p = some k := by
  unfold stkS
  rw [List.find?_eq_some_iff_append]
  refine ⟨by simp [h], List.range k, (List.range (m.ss.length - k - 1)).map (fun j => k + 1 + j), ?_, fun a ha => by simpa using hall a (List.mem_range.1 ha)⟩
  apply List.ext_getElem?
  intro j
  rcases Nat.lt_trichotomy j k with h1 | h1 | h1
  · rw [List.getElem?_append_left (by simpa using h1), List.getElem?_range (by omega), List.getElem?_range h1]
  · subst h1
    rw [List.getElem?_append_right (by simp), List.getElem?_range hk]; simp
  · rw [List.getElem?_append_right (by simp; omega)]
    have e : j - (List.range k).length = (j - k - 1) + 1 := by simp; omega
    rw [e, List.getElem?_cons_succ, List.getElem?_map]
    rcases Nat.lt_or_ge j m.ss.length with h2 | h2
    · rw [List.getElem?_range h2, List.getElem?_range (by omega)]
      simp; omega
    · rw [List.getElem?_eq_none (by simpa using h2), List.getElem?_eq_none (by simp; omega)]; rfl
theorem stk_none {m : Mod} {p : Nat} (h : ∀ i, i < m.ss.length → stkB m p i = true) : stkS m p = none := by
  unfold stkS
  rw [List.find?_eq_none]
  intro i hi
  simp [h i (List.mem_range.1 hi)]
theorem stkL_lb {m : Mod} (g : Good m) {p : Nat} (hp : p < m.ps.length) : LB (stkL m p) := fun i => by
  unfold stkL
  have h1 := rounds_lb g i
  have h2 := g.p p hp
  rw [List.getD_eq_getElem?_getD, List.getElem?_set]
  split
  · rename_i h3; subst h3
    split
    · simp only [Option.getD_some]; omega
    · exact ⟨by decide, by decide⟩
  · rw [← List.getD_eq_getElem?_getD]; exact h1
end Go.Proofs.YthkgnhcknkjgdaaDoor

/-
  The smallest sets that do: the program's way and the reference's.
  No conditions but those in the theorems.
-/
namespace Go.Proofs.YthkgnhcknkjgdaaDoor
open Go
/-- The numbers of a set. -/
def ptsS (n s : Nat) : List Int := selN (fun i => s.testBit i) n
theorem pts_len {n s : Nat} : (ptsS n s).length ≤ n := selN_len
def popN (s : Nat) : Nat := ((List.range 8).filter fun i => s.testBit i).length
/-- The order of lists. -/
def cmpL : List Int → List Int → Int
  | [], [] => 0
  | [], _ :: _ => -1
  | _ :: _, [] => 1
  | a :: x, b :: y => if a < b then -1 else if a > b then 1 else cmpL x y
def cmpS (a b : Int) : Int := if a < b then -1 else if a > b then 1 else 0
theorem cmp0 {a b : Int} (h : cmpS a b = 0) : a = b := by unfold cmpS at h; split at h <;> (try split at h) <;> omega
theorem cmpL_cons {a b : Int} {x y : List Int} : cmpL (a :: x) (b :: y) = if cmpS a b ≠ 0 then cmpS a b else cmpL x y := by
  unfold cmpS; rw [cmpL]
  split
  · simp
  · split <;> simp
theorem cmpL_drop : ∀ {k : Nat} {xs ys : List Int}, (∀ j, j < k → xs.getD j default = ys.getD j default) → k ≤ xs.length → k ≤ ys.length → cmpL xs ys = cmpL (xs.drop k) (ys.drop k)
  | 0, _, _, _, _, _ => rfl
  | k + 1, [], _, _, h, _ => by simp at h
  | k + 1, _ :: _, [], _, _, h => by simp at h
  | k + 1, x :: xs, y :: ys, hall, h1, h2 => by
    have h0 := hall 0 (by omega)
    simp at h0
    rw [cmpL_cons, if_neg (by subst h0; simp [cmpS]), List.drop_succ_cons, List.drop_succ_cons]
    exact cmpL_drop (fun j hj => by have := hall (j + 1) (by omega); simpa using this) (by simpa using h1) (by simpa using h2)
section
variable {k : Nat} {xs ys : List Int}
theorem cmpL_long (hall : ∀ j, j < k → xs.getD j default = ys.getD j default) (h1 : k < xs.length) (h2 : k = ys.length) : cmpL xs ys = 1 := by
  rw [cmpL_drop hall (by omega) (by omega), show ys.drop k = [] from List.drop_of_length_le (by omega), List.drop_eq_getElem_cons h1]; rfl
theorem cmpL_diff (hall : ∀ j, j < k → xs.getD j default = ys.getD j default) (h1 : k < xs.length) (h2 : k < ys.length) (hne : cmpS (xs.getD k default) (ys.getD k default) ≠ 0) : cmpL xs ys = cmpS (xs.getD k default) (ys.getD k default) := by
  rw [cmpL_drop hall (by omega) (by omega), List.drop_eq_getElem_cons h1, List.drop_eq_getElem_cons h2, cmpL_cons]
  simp only [List.getD_eq_getElem?_getD, List.getElem?_eq_getElem h1, List.getElem?_eq_getElem h2, Option.getD_some] at hne ⊢
  rw [if_pos hne]
theorem cmpL_short (hall : ∀ j, j < k → xs.getD j default = ys.getD j default) (h1 : k = xs.length) (h2 : k < ys.length) : cmpL xs ys = -1 := by
  rw [cmpL_drop hall (by omega) (by omega), show xs.drop k = [] from List.drop_of_length_le (by omega), List.drop_eq_getElem_cons h2]; rfl
theorem cmpL_same (hall : ∀ j, j < k → xs.getD j default = ys.getD j default) (h1 : k = xs.length) (h2 : k = ys.length) : cmpL xs ys = 0 := by
  rw [cmpL_drop hall (by omega) (by omega), show xs.drop k = [] from List.drop_of_length_le (by omega), show ys.drop k = [] from List.drop_of_length_le (by omega)]; rfl
end
/-- Where the next number of an ascending list may begin. -/
def fromS (b : List Int) : Int := if b.length = 0 then 0 else b.getD (b.length - 1) default + 1
/-- All ascending lists of so many further numbers below n, in order. -/
def listsS : Nat → List Int → Int → List (List Int)
  | 0, b, _ => [b]
  | m + 1, b, n => (List.range (n - fromS b).toNat).flatMap fun (j : Nat) => listsS m (b ++ [fromS b + (j : Int)]) n
/-- All lists of points, the shorter ones first. -/
def lstA (n k : Nat) : List (List Int) := (List.range k).flatMap fun m => listsS m [] n
def ltL (a b : List Int) : Prop := a.length < b.length ∨ a.length = b.length ∧ cmpL a b < 0
instance (a b : List Int) : Decidable (ltL a b) := inferInstanceAs (Decidable (_ ∨ _))
theorem cmpL_anti : ∀ a b : List Int, cmpL b a = - cmpL a b
  | [], [] => rfl
  | [], _ :: _ => rfl
  | _ :: _, [] => rfl
  | a :: x, b :: y => by
    have ih := cmpL_anti x y
    rw [cmpL, cmpL]
    split <;> split <;> (try split) <;> omega
theorem cmpL_zero : ∀ {a b : List Int}, cmpL a b = 0 → a = b
  | [], [], _ => rfl
  | [], _ :: _, h => by simp [cmpL] at h
  | _ :: _, [], h => by simp [cmpL] at h
  | a :: x, b :: y, h => by
    rw [cmpL] at h
    split at h
    · omega
    · split at h
      · omega
      · rw [cmpL_zero h, show a = b by omega]
theorem cmpL_tr : ∀ {a b c : List Int}, cmpL a b < 0 → cmpL b c < 0 → cmpL a c < 0
  | [], [], _, h, _ => by simp [cmpL] at h
  | [], _ :: _, [], _, h => by simp [cmpL] at h
  | [], _ :: _, _ :: _, _, _ => by simp [cmpL]
  | _ :: _, [], _, h, _ => by simp [cmpL] at h
  | _ :: _, _ :: _, [], _, h => by simp [cmpL] at h
  | a :: x, b :: y, c :: z, h1, h2 => by
    rw [cmpL] at h1 h2 ⊢
    by_cases hac : a < c
    · rw [if_pos hac]; omega
    · by_cases hab : a < b
      · rw [if_pos hab] at h1
        rw [if_neg (by omega)] at h2
        rw [if_pos (by omega)] at h2
        omega
      · rw [if_neg hab] at h1
        by_cases hba : a > b
        · rw [if_pos hba] at h1; omega
        · rw [if_neg hba] at h1
          rw [if_neg (by omega)] at h2
          by_cases hbc : b > c
          · rw [if_pos hbc] at h2; omega
          · rw [if_neg hbc] at h2
            rw [if_neg hac, if_neg (by omega)]
            exact cmpL_tr h1 h2
theorem ltL_tr {a b c : List Int} (h1 : ltL a b) (h2 : ltL b c) : ltL a c := by
  unfold ltL at *
  rcases h1 with h1 | ⟨h1, h3⟩ <;> rcases h2 with h2 | ⟨h2, h4⟩
  · left; omega
  · left; omega
  · left; omega
  · right; exact ⟨by omega, cmpL_tr h3 h4⟩
theorem ltL_irr {a : List Int} : ¬ ltL a a := fun h => by
  have := cmpL_anti a a
  unfold ltL at h
  omega
def chainL : List (List Int) → Bool
  | [] => true
  | a :: l => (match l with | [] => true | b :: _ => decide (ltL a b)) && chainL l
theorem chainL_pw : ∀ {l : List (List Int)}, chainL l = true → l.Pairwise ltL
  | [], _ => .nil
  | [a], _ => by simp
  | a :: b :: l, h => by
    simp only [chainL, Bool.and_eq_true, decide_eq_true_eq] at h
    have ih := chainL_pw (l := b :: l) (by simp only [chainL, Bool.and_eq_true]; exact h.2)
    refine .cons (fun x hx => ?_) ih
    rcases List.mem_cons.1 hx with rfl | hx
    · exact h.1
    · exact ltL_tr h.1 (List.rel_of_pairwise_cons ih hx)
def maskS (z : List Int) : Nat := z.foldl (fun s i => s + 2 ^ i.toNat) 0
theorem lst_all : (List.range 7).all (fun n => chainL (lstA n (n + 1)) && (List.range (2 ^ n)).all (fun s => decide (ptsS n s ∈ lstA n (n + 1)) && decide ((ptsS n s).length = popN s) && decide (bitsL ((s : Nat) : Int) = ptsS n s)) && (lstA n (n + 1)).all (fun z => decide (maskS z < 2 ^ n) && decide (ptsS n (maskS z) = z))) = true := by decide +kernel
section
variable {n : Nat}
theorem lst_spec (hn : n ≤ 6) : (lstA n (n + 1)).Pairwise ltL ∧ (∀ s, s < 2 ^ n → ptsS n s ∈ lstA n (n + 1) ∧ (ptsS n s).length = popN s ∧ bitsL (s : Int) = ptsS n s) ∧ ∀ z ∈ lstA n (n + 1), ∃ s, s < 2 ^ n ∧ ptsS n s = z := by
  have h := List.all_eq_true.1 lst_all n (List.mem_range.2 (by omega))
  simp only [Bool.and_eq_true] at h
  refine ⟨chainL_pw h.1.1, fun s hs => ?_, fun z hz => ?_⟩
  · have := List.all_eq_true.1 h.1.2 s (List.mem_range.2 hs)
    simp only [Bool.and_eq_true, decide_eq_true_eq] at this
    exact ⟨this.1.1, this.1.2, this.2⟩
  · have := List.all_eq_true.1 h.2 z hz
    simp only [Bool.and_eq_true, decide_eq_true_eq] at this
    exact ⟨_, this.1, this.2⟩
/-- The first of the smallest sets so far. -/
def fewF (p : Nat → Bool) (n : Nat) : Nat → Option (List Int)
  | 0 => none
  | s + 1 => match fewF p n s with
    | none => if p s then some (ptsS n s) else none
    | some l => if (ptsS n s).length > l.length ∨ ((ptsS n s).length = l.length ∧ cmpL (ptsS n s) l > 0) then some l else if p s then some (ptsS n s) else some l
def fewS (p : Nat → Bool) (n : Nat) : Option (List Int) := fewF p n (2 ^ n)
variable {p : Nat → Bool} {T : List Int → Bool}
theorem few_inv (hn : n ≤ 6) (hT : ∀ s, s < 2 ^ n → p s = T (ptsS n s)) : ∀ s, s ≤ 2 ^ n →
    ((∀ t, t < s → T (ptsS n t) = false) ∧ fewF p n s = none) ∨
    ∃ t, t < s ∧ T (ptsS n t) = true ∧ fewF p n s = some (ptsS n t) ∧ ∀ t', t' < s → T (ptsS n t') = true → ¬ ltL (ptsS n t') (ptsS n t)
  | 0, _ => .inl ⟨fun t ht => absurd ht (Nat.not_lt_zero t), rfl⟩
  | s + 1, hs' => by
    have ih := few_inv hn hT s (by omega)
    have ha := hT s (by omega)
    rcases ih with ⟨h1, h2⟩ | ⟨t, ht, hTt, h2, h3⟩
    · rw [fewF, h2]
      cases hTs : T (ptsS n s) with
      | false =>
        refine .inl ⟨fun t ht => ?_, by simp only; rw [if_neg (by rw [ha, hTs]; decide)]⟩
        rcases Nat.lt_or_ge t s with h4 | h4
        · exact h1 t h4
        · have : t = s := by omega
          subst this; exact hTs
      | true =>
        refine .inr ⟨s, by omega, hTs, by simp only; rw [if_pos (by rw [ha, hTs])], fun t' ht' hT' => ?_⟩
        rcases Nat.lt_or_ge t' s with h4 | h4
        · rw [h1 t' h4] at hT'; cases hT'
        · have : t' = s := by omega
          subst this; exact ltL_irr
    · rw [fewF, h2]
      have hsame : (T (ptsS n s) = true → ¬ ltL (ptsS n s) (ptsS n t)) → ∀ t', t' < s + 1 → T (ptsS n t') = true → ¬ ltL (ptsS n t') (ptsS n t) := fun hh t' ht' hT' => by
        rcases Nat.lt_or_ge t' s with h4 | h4
        · exact h3 t' h4 hT'
        · have : t' = s := by omega
          subst this; exact hh hT'
      by_cases hb : (ptsS n s).length > (ptsS n t).length ∨ ((ptsS n s).length = (ptsS n t).length ∧ cmpL (ptsS n s) (ptsS n t) > 0)
      · exact .inr ⟨t, by omega, hTt, by simp only; rw [if_pos hb], hsame (fun _ h => by unfold ltL at h; omega)⟩
      · cases hTs : T (ptsS n s) with
        | false => exact .inr ⟨t, by omega, hTt, by simp only; rw [if_neg hb, if_neg (by rw [ha, hTs]; decide)], hsame (fun h => by rw [hTs] at h; cases h)⟩
        | true =>
          by_cases he : ptsS n s = ptsS n t
          · exact .inr ⟨t, by omega, hTt, by simp only; rw [if_neg hb, if_pos (by rw [ha, hTs]), he], hsame (fun _ => by rw [he]; exact ltL_irr)⟩
          · have hlt : ltL (ptsS n s) (ptsS n t) := by
              have hz : cmpL (ptsS n s) (ptsS n t) ≠ 0 := fun h => he (cmpL_zero h)
              unfold ltL; omega
            refine .inr ⟨s, by omega, hTs, by simp only; rw [if_neg hb, if_pos (by rw [ha, hTs])], fun t' ht' hT' => ?_⟩
            rcases Nat.lt_or_ge t' s with h4 | h4
            · exact fun h => h3 t' h4 hT' (ltL_tr h hlt)
            · have : t' = s := by omega
              subst this; exact ltL_irr
/-- The program's set is the first one that does. -/
theorem few_find (hn : n ≤ 6) (hT : ∀ s, s < 2 ^ n → p s = T (ptsS n s)) : (lstA n (n + 1)).find? T = fewS p n := by
  obtain ⟨hpw, hin, hout⟩ := lst_spec hn
  unfold fewS
  rcases few_inv hn hT (2 ^ n) (Nat.le_refl _) with ⟨h1, h2⟩ | ⟨t, ht, hTt, h2, h3⟩
  · rw [h2, List.find?_eq_none]
    intro z hz
    obtain ⟨s, hs, rfl⟩ := hout z hz
    rw [h1 s hs]; decide
  · rw [h2]
    cases hfd : (lstA n (n + 1)).find? T with
    | none =>
      have := List.find?_eq_none.1 hfd _ (hin t ht).1
      rw [hTt] at this; exact absurd rfl this
    | some z =>
      obtain ⟨hz, as', bs', hab, hno⟩ := List.find?_eq_some_iff_append.1 hfd
      have hzm : z ∈ lstA n (n + 1) := by rw [hab]; simp
      obtain ⟨s', hs2, rfl⟩ := hout z hzm
      have hm := (hin t ht).1
      rw [hab] at hm hpw
      rcases List.mem_append.1 hm with h4 | h4
      · have := hno _ h4
        rw [hTt] at this; cases this
      · rcases List.mem_cons.1 h4 with h5 | h5
        · simp only [h5]
        · exfalso
          have := List.rel_of_pairwise_cons (List.pairwise_append.1 hpw).2.1 h5
          exact h3 s' hs2 hz this
end
section
theorem tell_at {n m i : Nat} {T : List Int → Bool} (hm : m ≤ n) (h1 : ∀ z ∈ lstA n m, T z = false) (hi : i < (listsS m [] n).length) (h2 : ∀ j, j < i → T ((listsS m [] n).getD j default) = false) (h3 : T ((listsS m [] n).getD i default) = true) :
    (lstA n (n + 1)).find? T = some ((listsS m [] n).getD i default) := by
  have e0 : lstA n (n + 1) = lstA n m ++ ((List.range' m (n + 1 - m)).flatMap fun m => listsS m [] n) := by
    unfold lstA
    rw [← List.flatMap_append]
    congr 1
    have : n + 1 = m + (n + 1 - m) := by omega
    rw [List.range_eq_range', List.range_eq_range', this, ← List.range'_append_1]
    simp
  have e1 : List.range' m (n + 1 - m) = m :: List.range' (m + 1) (n - m) := by
    have : n + 1 - m = (n - m) + 1 := by omega
    rw [this, List.range'_succ]
  rw [e0, e1, List.flatMap_cons, List.find?_append]
  have h4 : (lstA n m).find? T = none := List.find?_eq_none.2 (fun z hz => by rw [h1 z hz]; decide)
  rw [h4, Option.none_or, List.find?_append]
  have h5 : (listsS m [] n).find? T = some ((listsS m [] n).getD i default) := by
    rw [List.find?_eq_some_iff_getElem]
    have e : (listsS m [] n).getD i default = (listsS m [] n)[i] := by rw [List.getD_eq_getElem?_getD, List.getElem?_eq_getElem hi]; rfl
    refine ⟨h3, i, hi, e.symm, fun j hj => ?_⟩
    have := h2 j hj
    rw [List.getD_eq_getElem?_getD, List.getElem?_eq_getElem (by omega)] at this
    simpa using this
  rw [h5]; rfl
theorem no_at {T : List Int → Bool} {zs : List (List Int)} (h : ∀ j, j < zs.length → T (zs.getD j default) = false) : ∀ z ∈ zs, T z = false := fun z hz => by
  obtain ⟨j, hj, rfl⟩ := List.getElem_of_mem hz
  have := h j hj
  rwa [List.getD_eq_getElem?_getD, List.getElem?_eq_getElem hj] at this
theorem lists_ln : ∀ {m : Nat} {b : List Int} {n : Int} {z : List Int}, z ∈ listsS m b n → z.length = b.length + m
  | 0, b, n, z, h => by simp [listsS] at h; rw [h]; rfl
  | m + 1, b, n, z, h => by
    rw [listsS] at h
    obtain ⟨j, _, h2⟩ := List.mem_flatMap.1 h
    rw [lists_ln h2]; simp; omega
theorem lists_in {m : Nat} {n : Int} {z : List Int} (h : z ∈ listsS m [] n) (hm : m ≤ 1000) : z.length ≤ 1000 := by rw [lists_ln h]; simpa using hm
theorem lstA_succ {n m : Nat} : lstA n (m + 1) = lstA n m ++ listsS m [] n := by
  unfold lstA; rw [List.range_succ, List.flatMap_append]; simp
end
section
/-- The lists so far. -/
def partS (m : Nat) (b : List Int) (n : Int) (k : Nat) : List (List Int) := (List.range k).flatMap fun (j : Nat) => listsS m (b ++ [fromS b + (j : Int)]) n
variable {m k : Nat} {b : List Int} {n : Int}
theorem partS_succ : partS m b n (k + 1) = partS m b n k ++ listsS m (b ++ [fromS b + (k : Int)]) n := by
  unfold partS; rw [List.range_succ, List.flatMap_append]; simp
theorem partS_all : partS m b n (n - fromS b).toNat = listsS (m + 1) b n := rfl
theorem fromS_snoc {i : Int} : fromS (b ++ [i]) = i + 1 := by
  unfold fromS
  rw [if_neg (by simp)]
  simp [List.getD_eq_getElem?_getD]
theorem lists_len : ∀ {m : Nat} {b : List Int}, n ≤ 8 → 0 ≤ fromS b → (listsS m b n).length ≤ 8 ^ m
  | 0, _, _, _ => by simp [listsS]
  | m + 1, b, hn, hf => by
    have key : ∀ k, k ≤ 8 → (partS m b n k).length ≤ k * 8 ^ m := fun k => by
      induction k with
      | zero => intro _; simp [partS]
      | succ k ih =>
        intro hk
        rw [partS_succ, List.length_append, Nat.add_mul]
        have := ih (by omega)
        have := lists_len (m := m) (b := b ++ [fromS b + (k : Int)]) hn (by rw [fromS_snoc]; omega)
        omega
    rw [← partS_all]
    have h1 : (n - fromS b).toNat ≤ 8 := by omega
    have h2 := key _ h1
    have h3 : (n - fromS b).toNat * 8 ^ m ≤ 8 * 8 ^ m := Nat.mul_le_mul_right _ h1
    rw [Nat.pow_succ]; omega
theorem part_len (hn : n ≤ 8) (hf : 0 ≤ fromS b) (hm : m ≤ 8) (hk : k ≤ 8) : (partS m b n k).length ≤ 134217728 := by
  have key : ∀ k, (partS m b n k).length ≤ k * 8 ^ m := fun k => by
    induction k with
    | zero => simp [partS]
    | succ k ih =>
      rw [partS_succ, List.length_append, Nat.add_mul]
      have := lists_len (m := m) (b := b ++ [fromS b + (k : Int)]) hn (by rw [fromS_snoc]; omega)
      omega
  have h1 := key k
  have h2 : 8 ^ m ≤ 8 ^ 8 := Nat.pow_le_pow_right (by omega) hm
  have h3 : k * 8 ^ m ≤ 8 * 8 ^ 8 := Nat.mul_le_mul hk h2
  omega
theorem lists_len8 (hn : n ≤ 8) (hf : 0 ≤ fromS b) (hm : m ≤ 8) : (listsS m b n).length ≤ 16777216 := by
  have h1 := lists_len (m := m) hn hf
  have h2 : 8 ^ m ≤ 8 ^ 8 := Nat.pow_le_pow_right (by omega) hm
  omega
end
/-! Ones -/
theorem shl_val {n : Nat} (hn : n ≤ 6) : IntKind.i64.wrap (1 * 2 ^ min (Int.toNat (n : Int)) IntKind.i64.bits) = ((2 ^ n : Nat) : Int) := by
  have : n = 0 ∨ n = 1 ∨ n = 2 ∨ n = 3 ∨ n = 4 ∨ n = 5 ∨ n = 6 := by omega
  rcases this with h | h | h | h | h | h | h <;> subst h <;> decide
theorem pow_bd {n : Nat} (hn : n ≤ 6) : 2 ^ n ≤ 64 := by
  have : n = 0 ∨ n = 1 ∨ n = 2 ∨ n = 3 ∨ n = 4 ∨ n = 5 ∨ n = 6 := by omega
  rcases this with h | h | h | h | h | h | h <;> subst h <;> decide
end Go.Proofs.YthkgnhcknkjgdaaDoor

/-
  Stands that cover, pins that are taken off, the best place.
  No conditions but those in the theorems.
-/
namespace Go.Proofs.YthkgnhcknkjgdaaDoor
open Go
def orI (a b : Int) : Int := IntKind.i64.wrap (BitVec.ofInt IntKind.i64.bits a ||| BitVec.ofInt IntKind.i64.bits b).toNat
theorem or_all : (List.range 64).all (fun a => (List.range 64).all fun b => decide (orI ((a : Nat) : Int) ((b : Nat) : Int) = setN (fun i => a.testBit i || b.testBit i) 6)) = true := by decide +kernel
theorem setN_bit {p : Nat → Bool} {n i : Nat} (hn : n ≤ 6) (hi : i < 6) : (setN p n).toNat.testBit i = (p i && decide (i < n)) := by
  have h := bits_set (p := p) hn
  have h1 : ((i : Int) ∈ bitsL (setN p n)) ↔ (i : Int) ∈ selN p n := by rw [h]
  unfold bitsL at h1
  rw [mem_sel, mem_sel] at h1
  rw [Bool.eq_iff_iff]
  simp only [Bool.and_eq_true, decide_eq_true_eq]
  constructor
  · intro h2
    obtain ⟨j, h3, h4, h5⟩ := h1.1 ⟨i, hi, h2, rfl⟩
    have : i = j := by omega
    subst this; exact ⟨h4, h3⟩
  · rintro ⟨h2, h3⟩
    obtain ⟨j, h3, h4, h5⟩ := h1.2 ⟨i, h3, h2, rfl⟩
    have : i = j := by omega
    subst this; exact h4
theorem or_set {p q : Nat → Bool} {n : Nat} (hn : n ≤ 6) : orI (setN p n) (setN q n) = setN (fun i => p i || q i) n := by
  have hp := setN_63 (p := p) hn
  have hq := setN_63 (p := q) hn
  have h := List.all_eq_true.1 (List.all_eq_true.1 or_all (setN p n).toNat (List.mem_range.2 (by omega))) (setN q n).toNat (List.mem_range.2 (by omega))
  have h := of_decide_eq_true h
  rw [Int.toNat_of_nonneg hp.1, Int.toNat_of_nonneg hq.1] at h
  rw [h, ← setN_cut (p := fun i => p i || q i) hn]
  refine setN_congr (fun i hi => ?_)
  rw [setN_bit hn hi, setN_bit hn hi]
  cases p i <;> cases q i <;> simp
theorem full_set {n : Nat} (hn : n ≤ 6) : ((2 ^ n : Nat) : Int) - 1 = setN (fun _ => true) n := by
  have : n = 0 ∨ n = 1 ∨ n = 2 ∨ n = 3 ∨ n = 4 ∨ n = 5 ∨ n = 6 := by omega
  rcases this with h | h | h | h | h | h | h <;> subst h <;> decide
theorem set_full {p : Nat → Bool} {n : Nat} (hn : n ≤ 6) : decide (setN p n = ((2 ^ n : Nat) : Int) - 1) = (List.range n).all p := by
  rw [full_set hn, Bool.eq_iff_iff, decide_eq_true_iff, List.all_eq_true]
  constructor
  · intro h i hi
    have hi' := List.mem_range.1 hi
    have h1 := setN_bit (p := p) hn (i := i) (by omega)
    rw [h, setN_bit hn (by omega), decide_eq_true hi'] at h1
    simpa using h1.symm
  · intro h
    exact setN_congr (fun i hi => h i (List.mem_range.2 hi))
theorem setN_none {n : Nat} : setN (fun _ => false) n = 0 := by
  induction n with
  | zero => rfl
  | succ n ih => rw [setN_no rfl, ih]
/-- Is the pin surely seen from the stand? -/
def sureB (m : Mod) (s i : Nat) : Bool := seesB m (ownS m) (m.ss.getD s default).x (m.ss.getD s default).y (m.ss.getD s default).lo i
/-- The sets of the stands, as numbers. -/
def sureZ (m : Mod) (k : Nat) : List Int := (List.range k).map fun s => setN (sureB m s) m.ps.length
def covB (m : Mod) (pts : List Int) : Bool := (List.range m.ps.length).all fun i => pts.any fun s => sureB m s.toNat i
theorem sureZ_succ {m : Mod} {k : Nat} : sureZ m (k + 1) = sureZ m k ++ [setN (sureB m k) m.ps.length] := by unfold sureZ; rw [List.range_succ, List.map_append]; rfl
theorem sureZ_len {m : Mod} {k : Nat} : (sureZ m k).length = k := by simp [sureZ]
theorem sureZ_at {m : Mod} {k s : Nat} (h : s < k) : (sureZ m k).getD s default = setN (sureB m s) m.ps.length := by
  simp [sureZ, List.getD_eq_getElem?_getD, h]
/-- What Fewest returns. -/
def fewM (m : Mod) : Option (List Int) := fewS (fun s => covB m (ptsS m.ss.length s)) m.ss.length
def fewE (m : Mod) : Int := if (chk m).2.2 ≠ 0 then (chk m).2.2 else if (fewM m).isSome = false then 9 else 0
def fewL (m : Mod) : List Int := if (chk m).2.2 ≠ 0 then [] else (fewM m).getD []
/-! Fewer pins. -/
def pinOK (W D : Int) (p : PinT) : Prop := nameB p.nm = true ∧ onF W D p.x p.y ∧ lenE p = 0
def apart (a b : PinT) : Prop := nmEq a.nm b.nm = false ∧ ¬ (a.x = b.x ∧ a.y = b.y)
theorem any_take_f {E : Type} [Inhabited E] {xs : List E} {q : E → Bool} {i : Nat} (hi : i ≤ xs.length) : (xs.take i).any q = false ↔ ∀ j, j < i → q (xs.getD j default) = false := ⟨fun h j hj => any_false_at h hj hi, anyT_f hi⟩
theorem pins_ok {W D : Int} {ps : List PinT} : (∀ i, i < ps.length → pinE W D ps i = 0) ↔ (∀ p ∈ ps, pinOK W D p) ∧ ps.Pairwise apart := by
  have key : ∀ i, i < ps.length → (pinE W D ps i = 0 ↔ pinOK W D (ps.getD i default) ∧ ∀ j, j < i → apart (ps.getD j default) (ps.getD i default)) := fun i hi => by
    unfold pinE pinOK apart
    cases h1 : nameB (ps.getD i default).nm with
    | false => simp
    | true =>
      simp only [Bool.true_eq_false, if_false, true_and]
      cases h2 : (ps.take i).any fun q => nmEq q.nm (ps.getD i default).nm with
      | true =>
        simp only [if_true]
        constructor
        · intro h; cases h
        · rintro ⟨_, h⟩
          rw [any_take_f (by omega) |>.2 (fun j hj => (h j hj).1)] at h2; cases h2
      | false =>
        have h2' := (any_take_f (by omega)).1 h2
        simp only [Bool.false_eq_true, if_false]
        by_cases h3 : onF W D (ps.getD i default).x (ps.getD i default).y
        · rw [if_neg (fun h => h h3)]
          cases h4 : (ps.take i).any (atP (ps.getD i default).x (ps.getD i default).y) with
          | true =>
            simp only [if_true]
            constructor
            · intro h; cases h
            · rintro ⟨_, h⟩
              rw [any_take_f (by omega) |>.2 (fun j hj => by unfold atP; exact decide_eq_false (h j hj).2)] at h4; cases h4
          | false =>
            have h4' := (any_take_f (by omega)).1 h4
            simp only [Bool.false_eq_true, if_false]
            constructor
            · intro h
              exact ⟨⟨h3, h⟩, fun j hj => ⟨h2' j hj, by have := h4' j hj; unfold atP at this; simpa using this⟩⟩
            · rintro ⟨⟨_, h⟩, _⟩; exact h
        · rw [if_pos h3]
          constructor
          · intro h; cases h
          · rintro ⟨⟨h, _⟩, _⟩; exact absurd h h3
  constructor
  · intro h
    refine ⟨fun p hp => ?_, ?_⟩
    · obtain ⟨i, hi, rfl⟩ := List.getElem_of_mem hp
      have h1 := ((key i hi).1 (h i hi)).1
      rwa [List.getD_eq_getElem?_getD, List.getElem?_eq_getElem hi] at h1
    · rw [List.pairwise_iff_getElem]
      intro i j hi hj hij
      have h1 := ((key j hj).1 (h j hj)).2 i hij
      rwa [List.getD_eq_getElem?_getD, List.getElem?_eq_getElem hi, List.getD_eq_getElem?_getD, List.getElem?_eq_getElem hj] at h1
  · rintro ⟨h1, h2⟩ i hi
    refine (key i hi).2 ⟨h1 _ (K.gt_mem hi), fun j hj => ?_⟩
    have h3 := List.pairwise_iff_getElem.1 h2 j i (by omega) hi hj
    rwa [List.getD_eq_getElem?_getD, List.getElem?_eq_getElem (show j < ps.length by omega), List.getD_eq_getElem?_getD, List.getElem?_eq_getElem hi]
/-- Another list of pins, in its order. -/
theorem chk_less {m : Mod} {ps : List PinT} (h : (chk m).2.2 = 0) (hs : List.Sublist ps m.ps) : (chk { m with ps := ps }).2.2 = 0 := by
  obtain ⟨h1, h2, h3, h4, h5, h6, h7⟩ := chk_part.1 h
  refine chk_part.2 ⟨h1, h2, h3, by have := hs.length_le; simp only; omega, ?_, h6, h7⟩
  have h8 : ∀ i, i < m.ps.length → pinE m.W m.D m.ps i = 0 := fun i hi => fst_zero.1 h5 i (List.mem_range.2 hi)
  obtain ⟨h9, h10⟩ := pins_ok.1 h8
  exact fst_ps (pins_ok.2 ⟨fun p hp => h9 p (hs.subset hp), h10.sublist hs⟩)
/-- The pins whose numbers are not in the set, of the first k. -/
def lessP (m : Mod) (s k : Nat) : List PinT := ((List.range k).filter fun i => !s.testBit i).map fun i => m.ps.getD i default
theorem less_yes {m : Mod} {s k : Nat} (h : s.testBit k = false) : lessP m s (k + 1) = lessP m s k ++ [m.ps.getD k default] := by
  unfold lessP; rw [List.range_succ, List.filter_append, List.map_append]; simp [h]
theorem less_no {m : Mod} {s k : Nat} (h : s.testBit k = true) : lessP m s (k + 1) = lessP m s k := by
  unfold lessP; rw [List.range_succ, List.filter_append, List.map_append]; simp [h]
theorem less_len {m : Mod} {s k : Nat} : (lessP m s k).length ≤ k := by
  unfold lessP; rw [List.length_map]; exact Nat.le_trans (List.length_filter_le _ _) (by simp)
theorem less_sub {m : Mod} {s : Nat} : List.Sublist (lessP m s m.ps.length) m.ps := by
  have e : (List.range m.ps.length).map (fun i => m.ps.getD i default) = m.ps := by
    apply List.ext_getElem?
    intro i
    rw [List.getElem?_map]
    rcases Nat.lt_or_ge i m.ps.length with h | h
    · rw [List.getElem?_range h]; simp [List.getD_eq_getElem?_getD, h]
    · rw [List.getElem?_eq_none (by simpa using h), List.getElem?_eq_none h]; rfl
  have h : List.Sublist (lessP m s m.ps.length) ((List.range m.ps.length).map fun i => m.ps.getD i default) := by
    unfold lessP; exact List.Sublist.map _ (List.filter_sublist)
  rwa [e] at h
def lessM (m : Mod) (s : Nat) : Mod := { m with ps := lessP m s m.ps.length }
def allB (m : Mod) : Bool := (List.range m.ss.length).all fun s => (List.range m.ps.length).all (sureB m s)
/-- What Off returns. -/
def offM (m : Mod) : Option (List Int) := fewS (fun s => allB (lessM m s)) m.ps.length
def offL (m : Mod) : List Int := if (chk m).2.2 ≠ 0 then [] else (offM m).getD []
theorem bit_all : (List.range 64).all (fun s => (List.range 6).all fun i => decide (IntKind.i64.wrap (BitVec.ofInt IntKind.i64.bits (((s : Nat) : Int).fdiv (2 ^ min (Int.toNat ((i : Nat) : Int)) IntKind.i64.bits)) &&& BitVec.ofInt IntKind.i64.bits 1).toNat = if s.testBit i then 1 else 0)) = true := by decide +kernel
theorem bit_val {s i : Nat} (hs : s < 64) (hi : i < 6) : IntKind.i64.wrap (BitVec.ofInt IntKind.i64.bits (((s : Nat) : Int).fdiv (2 ^ min (Int.toNat ((i : Nat) : Int)) IntKind.i64.bits)) &&& BitVec.ofInt IntKind.i64.bits 1).toNat = if s.testBit i then 1 else 0 := by
  have h := List.all_eq_true.1 (List.all_eq_true.1 bit_all s (List.mem_range.2 hs)) i (List.mem_range.2 hi)
  simpa using h
end Go.Proofs.YthkgnhcknkjgdaaDoor

/-
  The best place beside a model.
  No conditions but those in the theorems.
-/
namespace Go.Proofs.YthkgnhcknkjgdaaDoor
open Go
abbrev Acc := Int × Int × List Int × Int
def fromL (m : Mod) (x y eye : Int) : List Int := selN (seesB m (ownS m) x y eye) m.ps.length
def bstep (m : Mod) (eye x y : Int) (c : Acc) : Acc := if onF m.W m.D x y then c else if ((fromL m x y eye).length : Int) > c.2.2.2 then (x, y, fromL m x y eye, ((fromL m x y eye).length : Int)) else c
def inK (m : Mod) (eye : Int) (b : Nat) (c : Acc) : Nat → Acc
  | 0 => c
  | a + 1 => bstep m eye ((a : Int) - 1) ((b : Int) - 1) (inK m eye b c a)
def outK (m : Mod) (eye : Int) : Nat → Acc
  | 0 => (0, 0, [], -1)
  | b + 1 => inK m eye b (outK m eye b) (m.W + 2).toNat
def bestA (m : Mod) (eye : Int) : Acc := outK m eye (m.D + 2).toNat
def bestE (m : Mod) (eye : Int) : Int := if (chk m).2.2 ≠ 0 then (chk m).2.2 else if ¬ (0 ≤ eye ∧ eye ≤ 2000) then 7 else 0
def bestR (m : Mod) (eye : Int) : Int × Int × List Int := if bestE m eye = 0 then ((bestA m eye).1, (bestA m eye).2.1, (bestA m eye).2.2.1) else (0, 0, [])
section
variable {m : Mod} {eye x y : Int} {c : Acc}
theorem bstep_on (h : onF m.W m.D x y) : bstep m eye x y c = c := by unfold bstep; rw [if_pos h]
theorem bstep_gt (h : ¬ onF m.W m.D x y) (h2 : ((fromL m x y eye).length : Int) > c.2.2.2) : bstep m eye x y c = (x, y, fromL m x y eye, ((fromL m x y eye).length : Int)) := by unfold bstep; rw [if_neg h, if_pos h2]
theorem bstep_le (h : ¬ onF m.W m.D x y) (h2 : ¬ ((fromL m x y eye).length : Int) > c.2.2.2) : bstep m eye x y c = c := by unfold bstep; rw [if_neg h, if_neg h2]
/-- What is kept of it. -/
def AccOK (m : Mod) (c : Acc) : Prop := c.2.2.1.length ≤ m.ps.length ∧ (-1 ≤ c.2.2.2 ∧ c.2.2.2 ≤ m.ps.length)
theorem bstep_ok (h : AccOK m c) : AccOK m (bstep m eye x y c) := by
  unfold bstep
  split
  · exact h
  · split
    · have : (fromL m x y eye).length ≤ m.ps.length := selN_len
      exact ⟨this, by simp only; omega⟩
    · exact h
theorem inK_ok {b : Nat} (h : AccOK m c) : ∀ a, AccOK m (inK m eye b c a)
  | 0 => h
  | a + 1 => bstep_ok (inK_ok h a)
theorem outK_ok : ∀ b, AccOK m (outK m eye b)
  | 0 => ⟨Nat.zero_le _, by simp only [outK]; omega⟩
  | b + 1 => inK_ok (outK_ok b) _
end
end Go.Proofs.YthkgnhcknkjgdaaDoor

/-
  The models of the examples.
  No conditions: no program is in sight.
-/
namespace Go.Proofs.YthkgnhcknkjgdaaDoor
open Go
def oakS : ByteArray := ⟨#[111, 97, 107]⟩
def elmS : ByteArray := ⟨#[101, 108, 109]⟩
def ashS : ByteArray := ⟨#[97, 115, 104]⟩
def modS (most : Int) : Mod := ⟨4, 2, [0, 10, 0, 20, 0, 0, 0, 0], [⟨oakS, 0, 0, 30, 60⟩, ⟨elmS, 2, 0, 26, 100⟩, ⟨ashS, 3, 0, 5, most⟩], [⟨-2, 0, 30, 100⟩]⟩
def mod1 (most : Int) : Mod := { modS most with ps := (modS most).ps.take 1 }
theorem ex_chk : (chk (modS 40)).2.2 = 0 := by decide +kernel
theorem ex_chk11 : (chk (modS 11)).2.2 = 0 := by decide +kernel
theorem ex_chk1 : (chk (mod1 40)).2.2 = 0 := by decide +kernel
theorem ex_hid : hidL (modS 40) 0 30 2 = [0, 2] ∧ hidE (modS 40) 0 30 2 = 0 := by decide +kernel
theorem ex_hid1 : hidL (modS 40) 0 30 1 = [0] ∧ hidE (modS 40) 0 30 1 = 0 := by decide +kernel
theorem ex_hid2 : hidL (modS 40) 0 100 1 = [] ∧ hidE (modS 40) 0 100 1 = 0 := by decide +kernel
theorem ex_seen : sureL (modS 40) 0 = [0] ∧ mayL (modS 40) 0 = [0, 1, 2] ∧ seenE (modS 40) 0 = 0 := by decide +kernel
theorem ex_eye : eyeR (modS 40) 0 1 = (35, 0) ∧ eyeR (modS 40) 0 0 = (0, 0) ∧ eyeR (modS 40) 0 2 = (34, 0) := by decide +kernel
theorem ex_lng : lngL (modS 40) = [30, 31, 12] ∧ lngE (modS 40) = 0 ∧ lngE (modS 11) = 9 := by decide +kernel
theorem ex_stuck : stuckS (modS 40) = (0, 0, 0, 0, 4) ∧ stuckS (modS 11) = (2, 2, 0, 2, 0) := by decide +kernel
theorem ex_best : bestR (modS 40) 30 = (-1, -1, [0, 1, 2]) ∧ bestE (modS 40) 30 = 0 := by decide +kernel
theorem ex_off : offL (modS 40) = [0, 1] := by decide +kernel
theorem ex_few : fewE (modS 40) = 9 ∧ fewL (mod1 40) = [0] ∧ fewE (mod1 40) = 0 := by decide +kernel
end Go.Proofs.YthkgnhcknkjgdaaDoor
