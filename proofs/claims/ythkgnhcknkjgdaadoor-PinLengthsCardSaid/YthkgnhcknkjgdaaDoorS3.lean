/-
  Plain lemmas and plain functions, several texts joined.
  Conditions stand in each theorem.
-/
import Derived.Test.YthkgnhcknkjgdaaDoorS2
set_option linter.unusedSimpArgs false
set_option linter.unusedVariables false
/-
  What functions of pin return: seen pins, heights of eyes, lengths.
  No conditions but those in the theorems.
-/
namespace Go.Proofs.YthkgnhcknkjgdaaDoor
open Go
theorem sees_len {m : Mod} {l : List Int} {x y eye : Int} {i : Nat} : decide (((hidesS m l x y eye i).length : Int) = 0) = seesB m l x y eye i := by
  unfold seesB
  cases hidesS m l x y eye i with
  | nil => rfl
  | cons a as => simp only [List.length_cons, List.isEmpty_cons, decide_eq_false_iff_not]; omega
theorem selN_yes {p : Nat → Bool} {n : Nat} (h : p n = true) : selN p (n + 1) = selN p n ++ [(n : Int)] := by rw [selN_succ, if_pos h]
theorem selN_no {p : Nat → Bool} {n : Nat} (h : p n = false) : selN p (n + 1) = selN p n := by rw [selN_succ, if_neg (by simp [h]), List.append_nil]
theorem seen_0 {m : Mod} {s : Nat} (hc : (chk m).2.2 = 0) (hs : s < m.ss.length) : seenE m s = 0 := by unfold seenE; rw [if_neg (by omega), if_neg (by omega)]
theorem seen_4 {m : Mod} {s : Int} (hc : (chk m).2.2 = 0) (hs : ¬ (0 ≤ s ∧ s ≤ (m.ss.length : Int) - 1)) : seenE m s = 4 := by unfold seenE; rw [if_neg (by omega), if_pos hs]
theorem seen_c {m : Mod} {s : Int} (hc : (chk m).2.2 ≠ 0) : seenE m s = (chk m).2.2 := by unfold seenE; rw [if_pos hc]
/-- What Seen returns: surely, perhaps. -/
def sureL (m : Mod) (s : Int) : List Int := if seenE m s = 0 then seenL m (ownS m) s.toNat (m.ss.getD s.toNat default).lo else []
def mayL (m : Mod) (s : Int) : List Int := if seenE m s = 0 then seenL m (ownS m) s.toNat (m.ss.getD s.toNat default).hi else []
theorem sure_e {m : Mod} {s : Int} (h : seenE m s ≠ 0) : sureL m s = [] := by unfold sureL; rw [if_neg h]
theorem may_e {m : Mod} {s : Int} (h : seenE m s ≠ 0) : mayL m s = [] := by unfold mayL; rw [if_neg h]
theorem sure_0 {m : Mod} {s : Nat} (h : seenE m s = 0) : sureL m s = seenL m (ownS m) s (m.ss.getD s default).lo := by unfold sureL; rw [if_pos h]; rfl
theorem may_0 {m : Mod} {s : Nat} (h : seenE m s = 0) : mayL m s = seenL m (ownS m) s (m.ss.getD s default).hi := by unfold mayL; rw [if_pos h]; rfl
theorem seenL_len {m : Mod} {l : List Int} {s : Nat} {eye : Int} : (seenL m l s eye).length ≤ m.ps.length := selN_len
/-! Eyes -/
def moreE (m : Mod) (l : List Int) (i : Nat) (s : Int × Int × Int) : Int := topS m l s.1 * s.2.2 - headS m l i * s.2.1
def eyeE (m : Mod) (l : List Int) (i : Nat) (s : Int × Int × Int) : Int := if moreE m l i s ≥ 0 then moreE m l i s / (s.2.2 - s.2.1) + 1 else 0
def eyeK (m : Mod) (l : List Int) (x y : Int) (i k : Nat) : Int := (((stepsS m x y i).take k).map (eyeE m l i)).foldl max 0
def eyeS (m : Mod) (l : List Int) (x y : Int) (i : Nat) : Int := ((stepsS m x y i).map (eyeE m l i)).foldl max 0
theorem eye_all {m : Mod} {l : List Int} {x y : Int} {i : Nat} : eyeK m l x y i (stepsS m x y i).length = eyeS m l x y i := by unfold eyeK eyeS; rw [List.take_length]
theorem eye_next {m : Mod} {l : List Int} {x y : Int} {i k : Nat} {s : Int × Int × Int} (h : (stepsS m x y i)[k]? = some s) : eyeK m l x y i (k + 1) = max (eyeK m l x y i k) (eyeE m l i s) := by
  unfold eyeK
  rw [List.take_add_one, h, List.map_append, List.foldl_append]; rfl
theorem div_bd {a b A : Int} (ha : 0 ≤ a ∧ a ≤ A) (hb : 1 ≤ b) : 0 ≤ a / b ∧ a / b ≤ A := ⟨Int.ediv_nonneg ha.1 (by omega), Int.le_trans (Int.ediv_le_self b ha.1) ha.2⟩
theorem eyeE_bd {m : Mod} {l : List Int} {x y : Int} {i k : Nat} {s : Int × Int × Int} (h : Way m x y i) (hl : LB l) (hs : (stepsS m x y i)[k]? = some s) : -21600 ≤ moreE m l i s ∧ moreE m l i s ≤ 21600 ∧ 0 ≤ eyeE m l i s ∧ eyeE m l i s ≤ 21601 := by
  have h1 := hide_bd (eye := 0) h hl (by omega) hs
  have h2 := h.step hs
  unfold eyeE
  have h3 : -21600 ≤ moreE m l i s ∧ moreE m l i s ≤ 21600 := by unfold moreE; omega
  refine ⟨h3.1, h3.2, ?_⟩
  split
  · have := div_bd (a := moreE m l i s) (A := 21600) (b := s.2.2 - s.2.1) (by omega) (by omega)
    omega
  · omega
theorem foldmax_bd {xs : List Int} {A : Int} (hA : 0 ≤ A) (h : ∀ x ∈ xs, x ≤ A) : ∀ a, 0 ≤ a → a ≤ A → 0 ≤ xs.foldl max a ∧ xs.foldl max a ≤ A := by
  induction xs with
  | nil => intro a h0 h1; exact ⟨h0, h1⟩
  | cons x xs ih =>
    intro a h0 h1
    have hx := h x (by simp)
    exact ih (fun y hy => h y (by simp [hy])) (max a x) (by omega) (by omega)
theorem eyeK_bd {m : Mod} {l : List Int} {x y : Int} {i k : Nat} (h : Way m x y i) (hl : LB l) : 0 ≤ eyeK m l x y i k ∧ eyeK m l x y i k ≤ 21601 := by
  unfold eyeK
  refine foldmax_bd (by decide) (fun z hz => ?_) 0 (by decide) (by decide)
  obtain ⟨s, hs, rfl⟩ := List.mem_map.1 hz
  obtain ⟨j, hj⟩ := List.getElem?_of_mem (List.mem_of_mem_take hs)
  exact (eyeE_bd h hl hj).2.2.2
/-- What Eye returns. -/
def eyeR (m : Mod) (s p : Int) : Int × Int :=
  if askE m s p ≠ 0 then (0, askE m s p) else if eyeS m (ownS m) (m.ss.getD s.toNat default).x (m.ss.getD s.toNat default).y p.toNat > 2000 then (0, 9) else (eyeS m (ownS m) (m.ss.getD s.toNat default).x (m.ss.getD s.toNat default).y p.toNat, 0)
/-! Eyes of which height see: from eyeS on. -/
theorem hide_iff {m : Mod} {l : List Int} {x y eye : Int} {i k : Nat} {s : Int × Int × Int} (h : Way m x y i) (he : 0 ≤ eye) (hs : (stepsS m x y i)[k]? = some s) : hideB m l eye i s = false ↔ eyeE m l i s ≤ eye := by
  have h2 := h.step hs
  unfold hideB eyeE
  rw [decide_eq_false_iff_not]
  have hd : 0 < s.2.2 - s.2.1 := by omega
  have e : topS m l s.1 * s.2.2 ≥ eye * (s.2.2 - s.2.1) + headS m l i * s.2.1 ↔ eye * (s.2.2 - s.2.1) ≤ moreE m l i s := by unfold moreE; omega
  rw [e]
  constructor
  · intro h1
    split
    · have : moreE m l i s / (s.2.2 - s.2.1) < eye := Int.ediv_lt_of_lt_mul hd (by omega)
      omega
    · exact he
  · intro h1 h3
    have h0 : 0 ≤ eye * (s.2.2 - s.2.1) := Int.mul_nonneg he (by omega)
    rw [if_pos (by omega)] at h1
    have := Int.le_ediv_of_mul_le hd h3
    omega
theorem foldmax_le {xs : List Int} {A : Int} : ∀ a, (xs.foldl max a ≤ A ↔ a ≤ A ∧ ∀ x ∈ xs, x ≤ A) := by
  induction xs with
  | nil => intro a; simp
  | cons x xs ih =>
    intro a
    rw [List.foldl_cons, ih]
    simp only [List.mem_cons, forall_eq_or_imp]
    constructor
    · rintro ⟨h1, h2⟩; exact ⟨by omega, by omega, h2⟩
    · rintro ⟨h1, h2, h3⟩; exact ⟨by omega, h3⟩
theorem hides_iff {m : Mod} {l : List Int} {x y eye : Int} {i : Nat} (h : Way m x y i) (he : 0 ≤ eye) : hidesS m l x y eye i = [] ↔ eyeS m l x y i ≤ eye := by
  unfold hidesS eyeS
  rw [List.map_eq_nil_iff, List.filter_eq_nil_iff, foldmax_le]
  constructor
  · intro h1
    refine ⟨he, fun z hz => ?_⟩
    obtain ⟨s, hs, rfl⟩ := List.mem_map.1 hz
    obtain ⟨j, hj⟩ := List.getElem?_of_mem hs
    exact (hide_iff h he hj).1 (by simpa using h1 s hs)
  · rintro ⟨_, h1⟩ s hs
    obtain ⟨j, hj⟩ := List.getElem?_of_mem hs
    have := (hide_iff (l := l) h he hj).2 (h1 _ (List.mem_map_of_mem hs))
    simp [this]
theorem sees_iff {m : Mod} {l : List Int} {x y eye : Int} {i : Nat} (h : Way m x y i) (he : 0 ≤ eye) : seesB m l x y eye i = true ↔ eyeS m l x y i ≤ eye := by
  unfold seesB; rw [List.isEmpty_iff, hides_iff h he]
end Go.Proofs.YthkgnhcknkjgdaaDoor

/-
  What functions of pin return: how long pins have to be.
  No conditions but those in the theorems.
-/
namespace Go.Proofs.YthkgnhcknkjgdaaDoor
open Go
/-- The height of a pin's field. -/
def hgS (m : Mod) (i : Nat) : Int := m.hs.getD ((m.ps.getD i default).y * m.W + (m.ps.getD i default).x).toNat default
theorem head_eq {m : Mod} {l : List Int} {i : Nat} : headS m l i = hgS m i + l.getD i default := rfl
def more2 (m : Mod) (l : List Int) (lo : Int) (i : Nat) (s : Int × Int × Int) : Int := topS m l s.1 * s.2.2 - lo * (s.2.2 - s.2.1) - hgS m i * s.2.1
def needE (m : Mod) (l : List Int) (lo : Int) (i : Nat) (s : Int × Int × Int) : Int := if more2 m l lo i s ≥ 0 then more2 m l lo i s / s.2.1 + 1 else 0
/-- From one stand. -/
def needA (m : Mod) (l : List Int) (i s : Nat) (a : Int) : Int := ((stepsS m (m.ss.getD s default).x (m.ss.getD s default).y i).map (needE m l (m.ss.getD s default).lo i)).foldl max a
def needAK (m : Mod) (l : List Int) (i s : Nat) (a : Int) (k : Nat) : Int := (((stepsS m (m.ss.getD s default).x (m.ss.getD s default).y i).take k).map (needE m l (m.ss.getD s default).lo i)).foldl max a
/-- From the first k stands. -/
def needK (m : Mod) (l : List Int) (i : Nat) : Nat → Int
  | 0 => 0
  | k + 1 => needA m l i k (needK m l i k)
def needS (m : Mod) (l : List Int) (i : Nat) : Int := needK m l i m.ss.length
section
variable {m : Mod} {l : List Int} {i s k : Nat} {a : Int}
theorem need_all : needAK m l i s a (stepsS m (m.ss.getD s default).x (m.ss.getD s default).y i).length = needA m l i s a := by unfold needAK needA; rw [List.take_length]
theorem need_0 : needAK m l i s a 0 = a := by unfold needAK; rfl
theorem need_next {u : Int × Int × Int} (h : (stepsS m (m.ss.getD s default).x (m.ss.getD s default).y i)[k]? = some u) : needAK m l i s a (k + 1) = max (needAK m l i s a k) (needE m l (m.ss.getD s default).lo i u) := by
  unfold needAK
  rw [List.take_add_one, h, List.map_append, List.foldl_append]; rfl
theorem hgS_bd (g : Good m) : 0 ≤ hgS m i ∧ hgS m i ≤ 500 := g.hb _
theorem need_bd1 {x y lo : Int} {u : Int × Int × Int} (h : Way m x y i) (hl : LB l) (he : 0 ≤ lo ∧ lo ≤ 2000) (hs : (stepsS m x y i)[k]? = some u) :
    (0 ≤ topS m l u.1 * u.2.2 ∧ topS m l u.1 * u.2.2 ≤ 21600) ∧ (0 ≤ lo * (u.2.2 - u.2.1) ∧ lo * (u.2.2 - u.2.1) ≤ 54000) ∧ (0 ≤ hgS m i * u.2.1 ∧ hgS m i * u.2.1 ≤ 13500) ∧ (0 ≤ needE m l lo i u ∧ needE m l lo i u ≤ 21601) := by
  have h1 := h.step hs
  have h2 := mul_bd (C := 27) (top_bd h.g hl u.1) (b := u.2.2) (by omega)
  have h3 := mul_bd (C := 27) he (b := u.2.2 - u.2.1) (by omega)
  have h4 := mul_bd (C := 27) (hgS_bd (i := i) h.g) (b := u.2.1) (by omega)
  refine ⟨by omega, by omega, by omega, ?_⟩
  unfold needE
  split
  · rename_i h5
    have h6 : more2 m l lo i u ≤ 21600 := by unfold more2; omega
    have := div_bd (a := more2 m l lo i u) (A := 21600) (b := u.2.1) (by omega) (by omega)
    omega
  · omega
theorem needA_bd (g : Good m) (hl : LB l) (hi : i < m.ps.length) (hs : s < m.ss.length) (ha : 0 ≤ a ∧ a ≤ 21601) : 0 ≤ needAK m l i s a k ∧ needAK m l i s a k ≤ 21601 := by
  have hst := g.st hs
  unfold needAK
  refine foldmax_bd (by decide) (fun z hz => ?_) a ha.1 ha.2
  obtain ⟨u, hu, rfl⟩ := List.mem_map.1 hz
  obtain ⟨j, hj⟩ := List.getElem?_of_mem (List.mem_of_mem_take hu)
  exact (need_bd1 ⟨g, hi, by omega, by omega⟩ hl (by omega) hj).2.2.2.2
theorem needK_bd (g : Good m) (hl : LB l) (hi : i < m.ps.length) : ∀ {k : Nat}, k ≤ m.ss.length → 0 ≤ needK m l i k ∧ needK m l i k ≤ 21601
  | 0, _ => ⟨Int.le_refl _, by show (0 : Int) ≤ _; decide⟩
  | k + 1, h => by
    have h1 := needK_bd g hl hi (k := k) (by omega)
    have h2 := needA_bd (k := (stepsS m (m.ss.getD k default).x (m.ss.getD k default).y i).length) g hl hi (s := k) (by omega) h1
    rw [need_all] at h2
    exact h2
end
end Go.Proofs.YthkgnhcknkjgdaaDoor

/-
  The rounds in which pins grow.
  No conditions but those in the theorems.
-/
namespace Go.Proofs.YthkgnhcknkjgdaaDoor
open Go
/-- The lengths after a round, for the first k pins. -/
def nxK (m : Mod) (l : List Int) (k : Nat) : List Int := (List.range 6).map fun i => if i < k then max (l.getD i default) (needS m l i) else l.getD i default
def nextS (m : Mod) (l : List Int) : List Int := nxK m l m.ps.length
def tooF (m : Mod) (x : List Int) : Option Nat := (List.range m.ps.length).find? fun i => decide (x.getD i default > (m.ps.getD i default).most)
/-- The rounds: the lengths, which round, which pin. -/
def rndS (m : Mod) : Nat → List Int → Int → List Int × Int × Int
  | 0, l, _ => (l, 0, -1)
  | f + 1, l, r => match tooF m (nextS m l) with
    | some i => (l, r + 1, (i : Int))
    | none => if nextS m l = l then (l, 0, -1) else rndS m f (nextS m l) (r + 1)
def own6 (m : Mod) : List Int := owK m m.ps.length
def roundsS (m : Mod) : List Int × Int × Int := rndS m 1801 (own6 m) 0
section
variable {m : Mod} {l : List Int} {i k : Nat}
theorem nx_len : (nxK m l k).length = 6 := by simp [nxK]
theorem nx_at (h : i < 6) : (nxK m l k).getD i default = if i < k then max (l.getD i default) (needS m l i) else l.getD i default := by
  simp [nxK, List.getD_eq_getElem?_getD, h]
theorem nx_out (h : ¬ i < 6) : (nxK m l k).getD i default = 0 := by
  rw [List.getD_eq_getElem?_getD, List.getElem?_eq_none (by rw [nx_len]; omega)]; rfl
theorem ln_ext {a b : List Int} (h : ∀ i, i < 6 → a.getD i default = b.getD i default) : ln a = ln b := by
  unfold ln
  rw [h 0 (by omega), h 1 (by omega), h 2 (by omega), h 3 (by omega), h 4 (by omega), h 5 (by omega)]
theorem nx_0 : ln (nxK m l 0) = ln l := ln_ext (fun i hi => by rw [nx_at hi, if_neg (by omega)])
theorem nx_set (h : k < 6) : (nxK m l k).set k (max ((nxK m l k).getD k default) (needS m l k)) = nxK m l (k + 1) := by
  apply List.ext_getElem?
  intro j
  rcases Nat.lt_or_ge j 6 with hj | hj
  · have e : ∀ xs : List Int, xs.length = 6 → xs[j]? = some (xs.getD j default) := fun xs hx => by
      rw [List.getD_eq_getElem?_getD, List.getElem?_eq_getElem (by omega)]; rfl
    rw [e _ (by rw [List.length_set, nx_len]), e _ nx_len, nx_at hj]
    congr 1
    rw [List.getD_eq_getElem?_getD, List.getElem?_set]
    split
    · rename_i h2; subst h2
      rw [if_pos (by rw [nx_len]; exact hj), if_pos (by omega), nx_at hj, if_neg (by omega)]; rfl
    · rename_i h2
      rw [← List.getD_eq_getElem?_getD, nx_at hj]
      by_cases h3 : j < k
      · rw [if_pos h3, if_pos (by omega)]
      · rw [if_neg h3, if_neg (by omega)]
  · rw [List.getElem?_eq_none (by rw [List.length_set, nx_len]; exact hj), List.getElem?_eq_none (by rw [nx_len]; exact hj)]
theorem ext6 {a b : List Int} (ha : a.length = 6) (hb : b.length = 6) (h : ∀ i, i < 6 → a.getD i default = b.getD i default) : a = b := by
  apply List.ext_getElem?
  intro j
  rcases Nat.lt_or_ge j 6 with hj | hj
  · have e : ∀ xs : List Int, xs.length = 6 → xs[j]? = some (xs.getD j default) := fun xs hx => by
      rw [List.getD_eq_getElem?_getD, List.getElem?_eq_getElem (by omega)]; rfl
    rw [e _ ha, e _ hb, h j hj]
  · rw [List.getElem?_eq_none (by omega), List.getElem?_eq_none (by omega)]
theorem too_some {x : List Int} (hk : k < m.ps.length) (hall : ∀ i, i < k → ¬ x.getD i default > (m.ps.getD i default).most) (h : x.getD k default > (m.ps.getD k default).most) : tooF m x = some k := by
  unfold tooF
  rw [List.find?_eq_some_iff_append]
  refine ⟨decide_eq_true h, List.range k, (List.range (m.ps.length - k - 1)).map (fun j => k + 1 + j), ?_, fun a ha => by simpa using hall a (List.mem_range.1 ha)⟩
  apply List.ext_getElem?
  intro j
  rcases Nat.lt_trichotomy j k with h1 | h1 | h1
  · rw [List.getElem?_append_left (by simpa using h1), List.getElem?_range (by omega), List.getElem?_range h1]
  · subst h1
    rw [List.getElem?_append_right (by simp), List.getElem?_range hk]; simp
  · rw [List.getElem?_append_right (by simp; omega)]
    have e : j - (List.range k).length = (j - k - 1) + 1 := by simp; omega
    rw [e, List.getElem?_cons_succ, List.getElem?_map]
    rcases Nat.lt_or_ge j m.ps.length with h2 | h2
    · rw [List.getElem?_range h2, List.getElem?_range (by omega)]
      simp; omega
    · rw [List.getElem?_eq_none (by simpa using h2), List.getElem?_eq_none (by simp; omega)]; rfl
theorem too_none {x : List Int} : tooF m x = none ↔ ∀ i, i < m.ps.length → ¬ x.getD i default > (m.ps.getD i default).most := by
  unfold tooF
  rw [List.find?_eq_none]
  constructor
  · intro h i hi; have := h i (List.mem_range.2 hi); simpa using this
  · intro h i hi; have := h i (List.mem_range.1 hi); simpa using this
theorem sum_le {a b : List Int} (hl : a.length = b.length) (h : ∀ i, a.getD i default ≤ b.getD i default) : a.sum ≤ b.sum ∧ (a ≠ b → a.sum + 1 ≤ b.sum) := by
  induction a generalizing b with
  | nil =>
    cases b with
    | nil => exact ⟨Int.le_refl _, fun h => absurd rfl h⟩
    | cons x xs => simp at hl
  | cons x xs ih =>
    cases b with
    | nil => simp at hl
    | cons y ys =>
      have h0 := h 0
      simp only [List.getD_cons_zero] at h0
      have h1 := ih (b := ys) (by simpa using hl) (fun i => by have := h (i + 1); simpa using this)
      simp only [List.sum_cons]
      refine ⟨by omega, fun hne => ?_⟩
      by_cases hxy : x = y
      · subst hxy
        have := h1.2 (fun e => hne (by rw [e]))
        omega
      · have := h1.1; omega
theorem sum_bd {a : List Int} {A : Int} (h : ∀ i, a.getD i default ≤ A) : a.sum ≤ a.length * A := by
  induction a with
  | nil => simp
  | cons x xs ih =>
    have h0 := h 0
    have h1 := ih (fun i => by have := h (i + 1); simpa using this)
    simp only [List.getD_cons_zero] at h0
    simp only [List.sum_cons, List.length_cons]
    rw [Int.natCast_add, Int.add_mul]
    omega
theorem next_lb (g : Good m) (hl : LB l) (ht : tooF m (nextS m l) = none) : LB (nextS m l) := fun i => by
  rcases Nat.lt_or_ge i 6 with hi | hi
  · have h1 := hl i
    rcases Nat.lt_or_ge i m.ps.length with h2 | h2
    · have h3 := too_none.1 ht i h2
      have h4 := g.p i h2
      have h5 : (nextS m l).getD i default = max (l.getD i default) (needS m l i) := by unfold nextS; rw [nx_at hi, if_pos h2]
      omega
    · have h5 : (nextS m l).getD i default = l.getD i default := by unfold nextS; rw [nx_at hi, if_neg (by omega)]
      omega
  · have h5 : (nextS m l).getD i default = 0 := by unfold nextS; rw [nx_out (by omega)]
    omega
theorem next_ge (h6 : l.length = 6) (i : Nat) : l.getD i default ≤ (nextS m l).getD i default := by
  unfold nextS
  rcases Nat.lt_or_ge i 6 with hi | hi
  · rw [nx_at hi]; split <;> omega
  · rw [nx_out (by omega), List.getD_eq_getElem?_getD, List.getElem?_eq_none (by omega)]; decide
theorem next_sum (h6 : l.length = 6) (hne : nextS m l ≠ l) : l.sum + 1 ≤ (nextS m l).sum := (sum_le (by unfold nextS; rw [nx_len, h6]) (next_ge h6)).2 (fun e => hne e.symm)
theorem rnd_some {f : Nat} {r : Int} {i : Nat} (h : tooF m (nextS m l) = some i) : rndS m (f + 1) l r = (l, r + 1, (i : Int)) := by rw [rndS, h]
theorem rnd_end {f : Nat} {r : Int} (h : tooF m (nextS m l) = none) (he : nextS m l = l) : rndS m (f + 1) l r = (l, 0, -1) := by rw [rndS, h]; simp only; rw [if_pos he]
theorem rnd_next {f : Nat} {r : Int} (h : tooF m (nextS m l) = none) (he : ¬ nextS m l = l) : rndS m (f + 1) l r = rndS m f (nextS m l) (r + 1) := by rw [rndS, h]; simp only; rw [if_neg he]
theorem own6_at : (own6 m).getD i default = if i < 6 then (ownS m).getD i default else 0 := by
  unfold own6 owK
  rcases Nat.lt_or_ge i 6 with h | h
  · rw [if_pos h]
    simp only [List.getD_eq_getElem?_getD, List.getElem?_map, List.getElem?_range h, Option.map_some, Option.getD_some]
    rw [← List.getD_eq_getElem?_getD, ← List.getD_eq_getElem?_getD]
    split
    · rename_i h1; rw [own_at h1]
    · rename_i h1; rw [own_out h1]
  · rw [if_neg (by omega), List.getD_eq_getElem?_getD, List.getElem?_eq_none (by simp; omega)]; rfl
theorem own6_ln : ln (own6 m) = ln (ownS m) := ln_ext (fun i hi => by rw [own6_at, if_pos hi])
theorem own6_lb (g : Good m) : LB (own6 m) := fun i => by rw [own6_at]; split; exact g.lb i; omega
theorem own6_len : (own6 m).length = 6 := by simp [own6, owK]
theorem lb_sum (hl : LB l) (h6 : l.length = 6) : 0 ≤ l.sum ∧ l.sum ≤ 1800 := by
  have h1 := sum_bd (A := 300) (fun i => (hl i).2)
  have h2 : ∀ (a : List Int), (∀ i, 0 ≤ a.getD i default) → 0 ≤ a.sum := by
    intro a
    induction a with
    | nil => intro _; simp
    | cons x xs ih =>
      intro h
      have h0 := h 0
      have h1 := ih (fun i => by have := h (i + 1); simpa using this)
      simp only [List.getD_cons_zero] at h0
      simp only [List.sum_cons]; omega
  rw [h6] at h1
  exact ⟨h2 l (fun i => (hl i).1), by omega⟩
end
theorem rnd_len {m : Mod} : ∀ (f : Nat) (l : List Int) (r : Int), l.length = 6 → (rndS m f l r).1.length = 6
  | 0, l, r, h => h
  | f + 1, l, r, h => by
    cases ht : tooF m (nextS m l) with
    | some i => rw [rnd_some ht]; exact h
    | none =>
      by_cases he : nextS m l = l
      · rw [rnd_end ht he]; exact h
      · rw [rnd_next ht he]; exact rnd_len f _ _ nx_len
theorem rounds_len {m : Mod} : (roundsS m).1.length = 6 := rnd_len 1801 _ _ own6_len
theorem rnd_lb {m : Mod} (g : Good m) : ∀ (f : Nat) (l : List Int) (r : Int), LB l → LB (rndS m f l r).1
  | 0, l, r, h => h
  | f + 1, l, r, h => by
    cases ht : tooF m (nextS m l) with
    | some i => rw [rnd_some ht]; exact h
    | none =>
      by_cases he : nextS m l = l
      · rw [rnd_end ht he]; exact h
      · rw [rnd_next ht he]; exact rnd_lb g f _ _ (next_lb g h ht)
theorem rounds_lb {m : Mod} (g : Good m) : LB (roundsS m).1 := rnd_lb g 1801 _ _ (own6_lb g)
theorem rnd_pin {m : Mod} : ∀ (f : Nat) (l : List Int) (r : Int), (rndS m f l r).2.2 = -1 ∨ ∃ i : Nat, i < m.ps.length ∧ (rndS m f l r).2.2 = (i : Int)
  | 0, l, r => .inl rfl
  | f + 1, l, r => by
    cases ht : tooF m (nextS m l) with
    | some i =>
      rw [rnd_some ht]
      refine .inr ⟨i, ?_, rfl⟩
      unfold tooF at ht
      exact List.mem_range.1 (List.mem_of_find?_eq_some ht)
    | none =>
      by_cases he : nextS m l = l
      · rw [rnd_end ht he]; exact .inl rfl
      · rw [rnd_next ht he]; exact rnd_pin f _ _
theorem rounds_pin {m : Mod} : (roundsS m).2.2 = -1 ∨ ∃ i : Nat, i < m.ps.length ∧ (roundsS m).2.2 = (i : Int) := rnd_pin 1801 _ _
theorem ln_take {l : List Int} {n : Nat} (h : l.length = 6) (hn : n ≤ 6) : ln l = (l.take n).flatMap K.eI ++ (ln l).drop n := by
  have e : ∀ xs : List Int, xs.flatMap K.eI = xs.map iI := fun xs => by
    induction xs with
    | nil => rfl
    | cons x xs ih => rw [List.flatMap_cons, ih]; rfl
  have e2 : ln l = l.map iI := by
    match l, h with
    | [a, b, c, d, e, f], _ => rfl
  rw [e, List.map_take, e2, List.take_append_drop]
/-- What Lengths returns. -/
def lngE (m : Mod) : Int := if (chk m).2.2 ≠ 0 then (chk m).2.2 else if (roundsS m).2.2 ≠ -1 then 9 else 0
def lngL (m : Mod) : List Int := if lngE m = 0 then (roundsS m).1.take m.ps.length else []
/-- The stand and the field of Stuck. -/
def stkL (m : Mod) (p : Nat) : List Int := (roundsS m).1.set p (m.ps.getD p default).most
def stkB (m : Mod) (p s : Nat) : Bool := seesB m (stkL m p) (m.ss.getD s default).x (m.ss.getD s default).y (m.ss.getD s default).lo p
def stkS (m : Mod) (p : Nat) : Option Nat := (List.range m.ss.length).find? fun s => !stkB m p s
/-- What Stuck returns. -/
def stuckS (m : Mod) : Int × Int × Int × Int × Int :=
  if (chk m).2.2 ≠ 0 then (0, 0, 0, 0, (chk m).2.2)
  else if (roundsS m).2.2 = -1 then (0, 0, 0, 0, 4)
  else match stkS m (roundsS m).2.2.toNat with
    | some s => ((roundsS m).2.1, (roundsS m).2.2, (s : Int), (hidesS m (stkL m (roundsS m).2.2.toNat) (m.ss.getD s default).x (m.ss.getD s default).y (m.ss.getD s default).lo (roundsS m).2.2.toNat).headD 0, 0)
    | none => (0, 0, 0, 0, 4)
theorem stk_some {m : Mod} {p k : Nat} (hk : k < m.ss.length) (hall : ∀ i, i < k → stkB m p i = true) (h : stkB m p k = false) : stkS m p = some k := by
  unfold stkS
  rw [List.find?_eq_some_iff_append]
  refine ⟨by simp [h], List.range k, (List.range (m.ss.length - k - 1)).map (fun j => k + 1 + j), ?_, fun a ha => by simpa using hall a (List.mem_range.1 ha)⟩
  apply List.ext_getElem?
  intro j
  rcases Nat.lt_trichotomy j k with h1 | h1 | h1
  · rw [List.getElem?_append_left (by simpa using h1), List.getElem?_range (by omega), List.getElem?_range h1]
  · subst h1
    rw [List.getElem?_append_right (by simp), List.getElem?_range hk]; simp
  · rw [List.getElem?_append_right (by simp; omega)]
    have e : j - (List.range k).length = (j - k - 1) + 1 := by simp; omega
    rw [e, List.getElem?_cons_succ, List.getElem?_map]
    rcases Nat.lt_or_ge j m.ss.length with h2 | h2
    · rw [List.getElem?_range h2, List.getElem?_range (by omega)]
      simp; omega
    · rw [List.getElem?_eq_none (by simpa using h2), List.getElem?_eq_none (by simp; omega)]; rfl
theorem stk_none {m : Mod} {p : Nat} (h : ∀ i, i < m.ss.length → stkB m p i = true) : stkS m p = none := by
  unfold stkS
  rw [List.find?_eq_none]
  intro i hi
  simp [h i (List.mem_range.1 hi)]
theorem stkL_lb {m : Mod} (g : Good m) {p : Nat} (hp : p < m.ps.length) : LB (stkL m p) := fun i => by
  unfold stkL
  have h1 := rounds_lb g i
  have h2 := g.p p hp
  rw [List.getD_eq_getElem?_getD, List.getElem?_set]
  split
  · rename_i h3; subst h3
    split
    · simp only [Option.getD_some]; omega
    · exact ⟨by decide, by decide⟩
  · rw [← List.getD_eq_getElem?_getD]; exact h1
end Go.Proofs.YthkgnhcknkjgdaaDoor
