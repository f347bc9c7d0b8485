/-
  Plain lemmas and plain functions, several texts joined.
  Conditions stand in each theorem.
-/
import Derived.Test.YtafkbioeoklldaaK2
set_option linter.unusedSimpArgs false
set_option linter.unusedVariables false
/-
  What the functions of scale and of its reference compute, as plain functions.
  No conditions: no program is in sight.
-/
namespace Go.Proofs.Ytafkbioeoklldaa
open Go
def outB (lo hi : Int) (xs : List Int) : Bool := xs.any fun n => decide (n < lo) || decide (n > hi)
/-- Both numbers have a common divisor above 1. -/
def cm (a b : Int) : Bool := (List.range 29).any fun i => decide (a % ((i : Int) + 2) = 0) && decide (b % ((i : Int) + 2) = 0)
/-- The error of a scale. -/
def scE (u d : Int) : Int := if 1 ≤ u ∧ u ≤ 30 ∧ 1 ≤ d ∧ d ≤ 30 then (if cm u d then 6 else 0) else 7
theorem cm_true {a b n : Int} (h2 : 2 ≤ n) (h30 : n ≤ 30) (ha : a % n = 0) (hb : b % n = 0) : cm a b = true := by
  refine List.any_eq_true.2 ⟨(n - 2).toNat, List.mem_range.2 (by omega), ?_⟩
  have e : (((n - 2).toNat : Nat) : Int) + 2 = n := by omega
  simp only [e, ha, hb, decide_true, Bool.and_self]
theorem cm_false {a b : Int} (h : ∀ n : Int, 2 ≤ n → n ≤ 30 → ¬ (a % n = 0 ∧ b % n = 0)) : cm a b = false := by
  unfold cm
  rw [List.any_eq_false]
  intro i hi
  have := h ((i : Int) + 2) (by omega) (by have := List.mem_range.1 hi; omega)
  simpa using this
/-- The cut of a height above the base. -/
def cutS (kind h a b : Int) : Int := h * a / b + (if kind = 3 ∧ 0 < h * a % b ∨ kind = 2 ∧ b ≤ 2 * (h * a % b) then 1 else 0)
/-- What each kind's rounding makes of a number. -/
def rndS (kind n b : Int) : Int := if kind = 1 then n / b else if kind = 2 then (2 * n + b) / (2 * b) else (n + b - 1) / b
theorem ediv_of {n d q r : Int} (hd : 0 < d) (h : n = d * q + r) (h0 : 0 ≤ r) (h1 : r < d) : n / d = q := by
  rw [h, Int.mul_comm, Int.add_comm, Int.add_mul_ediv_right _ _ (by omega), Int.ediv_eq_zero_of_lt h0 h1]; omega
theorem rnd_cut {kind h a b : Int} (hk : 1 ≤ kind ∧ kind ≤ 3) (hb : 1 ≤ b) : rndS kind (h * a) b = cutS kind h a b := by
  unfold rndS cutS
  generalize h * a = n
  have hd := Int.mul_ediv_add_emod n b
  have h0 := Int.emod_nonneg n (show b ≠ 0 by omega)
  have h1 := Int.emod_lt_of_pos n (show 0 < b by omega)
  generalize n / b = q at *
  generalize n % b = r at *
  have hn : n = b * q + r := hd.symm
  have e1 : 2 * b * q = 2 * (b * q) := by rw [Int.mul_assoc]
  have e2 : 2 * b * (q + 1) = 2 * (b * q) + 2 * b := by rw [Int.mul_add, Int.mul_one, e1]
  have e3 : b * (q + 1) = b * q + b := by rw [Int.mul_add, Int.mul_one]
  rcases (show kind = 1 ∨ kind = 2 ∨ kind = 3 by omega) with hk1 | hk1 | hk1
  · rw [if_pos hk1, if_neg (by omega), Int.add_zero]
  · rw [if_neg (by omega), if_pos hk1]
    by_cases hc : b ≤ 2 * r
    · rw [if_pos (by omega)]; exact ediv_of (r := 2 * r - b) (by omega) (by omega) (by omega) (by omega)
    · rw [if_neg (by omega), Int.add_zero]; exact ediv_of (r := 2 * r + b) (by omega) (by omega) (by omega) (by omega)
  · rw [if_neg (by omega), if_neg (by omega)]
    by_cases hc : 0 < r
    · rw [if_pos (by omega)]; exact ediv_of (r := r - 1) (by omega) (by omega) (by omega) (by omega)
    · rw [if_neg (by omega), Int.add_zero]; exact ediv_of (r := b - 1) (by omega) (by omega) (by omega) (by omega)
def hE (base h : Int) : Int := if base ≤ h ∧ h ≤ 9000 then 0 else 7
def roadE (n : Int) (r : Int × Int) : Int := if (0 ≤ r.1 ∧ r.1 ≤ n - 1) ∧ (0 ≤ r.2 ∧ r.2 ≤ n - 1) then (if r.1 = r.2 then 2 else 0) else 4
/-- The part, index and error of a case. -/
def chk (kind base most : Int) (hs : List Int) (rs : List (Int × Int)) : Int × Int × Int :=
  if ¬ (1 ≤ kind ∧ kind ≤ 3) then (1, 0, 2)
  else if ¬ ((0 ≤ base ∧ base ≤ 9000) ∧ (0 ≤ most ∧ most ≤ 100000)) then (1, 0, 7)
  else if ¬ (1 ≤ hs.length ∧ hs.length ≤ 8) ∨ rs.length > 8 then (1, 0, 3)
  else if (K.fst (hE base) hs).2 ≠ 0 then (2, K.fst (hE base) hs)
  else if (K.fst (roadE hs.length) rs).2 ≠ 0 then (3, K.fst (roadE hs.length) rs)
  else (0, 0, 0)
section
variable {kind base most : Int} {hs : List Int} {rs : List (Int × Int)}
theorem chk_1 (h : ¬ (1 ≤ kind ∧ kind ≤ 3)) : chk kind base most hs rs = (1, 0, 2) := by unfold chk; rw [if_pos h]
theorem chk_2 (h1 : 1 ≤ kind ∧ kind ≤ 3) (h : ¬ ((0 ≤ base ∧ base ≤ 9000) ∧ (0 ≤ most ∧ most ≤ 100000))) : chk kind base most hs rs = (1, 0, 7) := by unfold chk; rw [if_neg (by omega), if_pos h]
theorem chk_3 (h1 : 1 ≤ kind ∧ kind ≤ 3) (h2 : (0 ≤ base ∧ base ≤ 9000) ∧ (0 ≤ most ∧ most ≤ 100000)) (h : ¬ (1 ≤ hs.length ∧ hs.length ≤ 8) ∨ rs.length > 8) : chk kind base most hs rs = (1, 0, 3) := by
  unfold chk; rw [if_neg (by omega), if_neg (by omega), if_pos h]
theorem chk_4 (h1 : 1 ≤ kind ∧ kind ≤ 3) (h2 : (0 ≤ base ∧ base ≤ 9000) ∧ (0 ≤ most ∧ most ≤ 100000)) (h3 : (1 ≤ hs.length ∧ hs.length ≤ 8) ∧ rs.length ≤ 8) (h : (K.fst (hE base) hs).2 ≠ 0) : chk kind base most hs rs = (2, K.fst (hE base) hs) := by
  unfold chk; rw [if_neg (by omega), if_neg (by omega), if_neg (by omega), if_pos h]
theorem chk_5 (h1 : 1 ≤ kind ∧ kind ≤ 3) (h2 : (0 ≤ base ∧ base ≤ 9000) ∧ (0 ≤ most ∧ most ≤ 100000)) (h3 : (1 ≤ hs.length ∧ hs.length ≤ 8) ∧ rs.length ≤ 8) (h4 : (K.fst (hE base) hs).2 = 0) (h : (K.fst (roadE hs.length) rs).2 ≠ 0) : chk kind base most hs rs = (3, K.fst (roadE hs.length) rs) := by
  unfold chk; rw [if_neg (by omega), if_neg (by omega), if_neg (by omega), if_neg (by omega), if_pos h]
theorem chk_0 (h1 : 1 ≤ kind ∧ kind ≤ 3) (h2 : (0 ≤ base ∧ base ≤ 9000) ∧ (0 ≤ most ∧ most ≤ 100000)) (h3 : (1 ≤ hs.length ∧ hs.length ≤ 8) ∧ rs.length ≤ 8) (h4 : (K.fst (hE base) hs).2 = 0) (h : (K.fst (roadE hs.length) rs).2 = 0) : chk kind base most hs rs = (0, 0, 0) := by
  unfold chk; rw [if_neg (by omega), if_neg (by omega), if_neg (by omega), if_neg (by omega), if_neg (by omega)]
end
theorem emod_big {a n : Int} (h1 : 1 ≤ a) (h : a < n) : a % n ≠ 0 := by rw [Int.emod_eq_of_lt (by omega) h]; omega
theorem dvs_found {a b : Int} {k : Nat} (h1 : 1 ≤ a) (h2 : a ≤ 30) (hk : (k : Int) < a) (hall : ∀ j : Nat, j < k → ¬ (a % (a - j) = 0 ∧ b % (a - j) = 0)) (ha : a % (a - k) = 0) (hb : b % (a - k) = 0) : decide (a - (k : Int) > 1) = cm a b := by
  by_cases hd : a - (k : Int) > 1
  · rw [cm_true (by omega) (by omega) ha hb]; simpa using hd
  · rw [cm_false]
    · simpa using hd
    · intro n hn _ ⟨h3, h4⟩
      rcases Int.lt_or_le a n with h5 | h5
      · exact emod_big h1 h5 h3
      · have e : n = a - (((a - n).toNat : Nat) : Int) := by omega
        rw [e] at h3 h4
        exact hall (a - n).toNat (by omega) ⟨h3, h4⟩
theorem dvs_none {a b : Int} (h1 : 1 ≤ a) (_h2 : a ≤ 30) (hall : ∀ j : Nat, (j : Int) < a → ¬ (a % (a - j) = 0 ∧ b % (a - j) = 0)) : decide ((1 : Int) > 1) = cm a b := by
  exfalso
  refine hall (a - 1).toNat (by omega) ?_
  have e : a - (((a - 1).toNat : Nat) : Int) = 1 := by omega
  rw [e]; omega
theorem cm_none {a b : Int} {k : Nat} (hall : ∀ j : Nat, j < k → 2 ≤ j → ¬ (a % (j : Int) = 0 ∧ b % (j : Int) = 0)) (hk : ¬ ((k : Int) ≤ a ∧ (k : Int) ≤ b)) (h1 : 1 ≤ a) (h3 : 1 ≤ b) : cm a b = false := by
  refine cm_false fun n hn _ ⟨h4, h5⟩ => ?_
  rcases Int.lt_or_le n k with h6 | h6
  · have e : n = ((n.toNat : Nat) : Int) := by omega
    rw [e] at h4 h5
    exact hall n.toNat (by omega) (by omega) ⟨h4, h5⟩
  · rcases (show a < n ∨ b < n by omega) with h7 | h7
    · exact emod_big h1 h7 h4
    · exact emod_big h3 h7 h5
end Go.Proofs.Ytafkbioeoklldaa

/-
  Cuts, roads and lists of a case, as plain functions, with their bounds.
  No conditions: no program is in sight.
-/
namespace Go.Proofs.Ytafkbioeoklldaa
open Go
/-- The case has no error. -/
structure Good (kind base most : Int) (hs : List Int) (rs : List (Int × Int)) : Prop where
  k : 1 ≤ kind ∧ kind ≤ 3
  b : 0 ≤ base ∧ base ≤ 9000
  m : 0 ≤ most ∧ most ≤ 100000
  n : 1 ≤ hs.length ∧ hs.length ≤ 8
  r : rs.length ≤ 8
  h : ∀ h ∈ hs, base ≤ h ∧ h ≤ 9000
  rd : ∀ r ∈ rs, 0 ≤ r.1 ∧ r.1 < hs.length ∧ 0 ≤ r.2 ∧ r.2 < hs.length ∧ r.1 ≠ r.2
theorem fst_zero {E : Type} {q : E → Int} {xs : List E} : (K.fst q xs).2 = 0 ↔ ∀ x ∈ xs, q x = 0 := by
  unfold K.fst
  cases h : xs.findIdx? (fun x => q x != 0) with
  | none =>
    have h' := List.findIdx?_eq_none_iff.1 h
    simp only [true_iff]
    intro x hx; simpa using h' x hx
  | some i =>
    obtain ⟨hi, hp, _⟩ := List.findIdx?_eq_some_iff_getElem.1 h
    have hp' : q xs[i] ≠ 0 := by simpa using hp
    simp only [List.getElem?_eq_getElem hi]
    exact ⟨fun h0 => absurd h0 hp', fun ha => absurd (ha _ (List.getElem_mem hi)) hp'⟩
theorem fst_eq0 {E : Type} {q : E → Int} {xs : List E} (h : ∀ x ∈ xs, q x = 0) : K.fst q xs = (0, 0) := by
  unfold K.fst
  have : xs.findIdx? (fun x => q x != 0) = none := List.findIdx?_eq_none_iff.2 (fun x hx => by simp [h x hx])
  rw [this]
section
variable {kind base most : Int} {hs : List Int} {rs : List (Int × Int)}
theorem hE_eq {h : Int} : hE base h = 0 ↔ base ≤ h ∧ h ≤ 9000 := by unfold hE; split <;> simp_all
theorem roadE_eq {n : Int} {r : Int × Int} : roadE n r = 0 ↔ 0 ≤ r.1 ∧ r.1 < n ∧ 0 ≤ r.2 ∧ r.2 < n ∧ r.1 ≠ r.2 := by
  unfold roadE
  split
  · split
    · constructor
      · intro h; omega
      · intro h; omega
    · constructor
      · intro _; omega
      · intro _; rfl
  · constructor
    · intro h; omega
    · intro h; omega
theorem chk_good (h : (chk kind base most hs rs).2.2 = 0) : Good kind base most hs rs := by
  unfold chk at h
  split at h
  · exact absurd h (by decide)
  split at h
  · exact absurd h (by decide)
  split at h
  · exact absurd h (by decide)
  split at h
  · rename_i h4; exact absurd h h4
  split at h
  · rename_i h5; exact absurd h h5
  rename_i h1 h2 h3 h4 h5
  have h4' := fst_zero.1 (Decidable.not_not.1 h4)
  have h5' := fst_zero.1 (Decidable.not_not.1 h5)
  exact ⟨by omega, by omega, by omega, by omega, by omega, fun x hx => hE_eq.1 (h4' x hx), fun x hx => roadE_eq.1 (h5' x hx)⟩
theorem Good.chk (g : Good kind base most hs rs) : chk kind base most hs rs = (0, 0, 0) := by
  have h1 := g.k; have h2 := g.b; have h3 := g.m; have h4 := g.n; have h5 := g.r
  refine chk_0 h1 ⟨h2, h3⟩ ⟨h4, h5⟩ (fst_zero.2 fun x hx => hE_eq.2 (g.h x hx)) (fst_zero.2 fun x hx => roadE_eq.2 (g.rd x hx))
theorem good_iff : (chk kind base most hs rs).2.2 = 0 ↔ Good kind base most hs rs := ⟨chk_good, fun g => by rw [g.chk]⟩
theorem Good.at (g : Good kind base most hs rs) {i : Nat} (h : i < hs.length) : base ≤ hs.getD i default ∧ hs.getD i default ≤ 9000 := g.h _ (K.gt_mem h)
theorem Good.road (g : Good kind base most hs rs) {i : Nat} (h : i < rs.length) : 0 ≤ (rs.getD i default).1 ∧ (rs.getD i default).1 < hs.length ∧ 0 ≤ (rs.getD i default).2 ∧ (rs.getD i default).2 < hs.length ∧ (rs.getD i default).1 ≠ (rs.getD i default).2 := g.rd _ (K.gt_mem h)
end
theorem scE_ok {u d : Int} (h : scE u d = 0) : 1 ≤ u ∧ u ≤ 30 ∧ 1 ≤ d ∧ d ≤ 30 ∧ cm u d = false := by
  unfold scE at h
  split at h
  · split at h
    · omega
    · rename_i h1 h2; exact ⟨h1.1, h1.2.1, h1.2.2.1, h1.2.2.2, by simpa using h2⟩
  · omega
/-- A scale's parts are within limits. -/
@[reducible] def Parts (u d : Int) : Prop := 1 ≤ u ∧ u ≤ 30 ∧ 1 ≤ d ∧ d ≤ 30
theorem scE_parts {u d : Int} (h : scE u d = 0) : Parts u d := by have := scE_ok h; exact ⟨this.1, this.2.1, this.2.2.1, this.2.2.2.1⟩
theorem mul_bd {a b A B : Int} (h0 : 0 ≤ a) (h1 : a ≤ A) (h2 : 0 ≤ b) (h3 : b ≤ B) : 0 ≤ a * b ∧ a * b ≤ A * B := ⟨Int.mul_nonneg h0 h2, Int.mul_le_mul h1 h3 h2 (by omega)⟩
theorem cutS_bd {kind h u d : Int} (h0 : 0 ≤ h) (h1 : h ≤ 9000) (hp : Parts u d) : 0 ≤ cutS kind h u d ∧ cutS kind h u d ≤ 270001 := by
  have hm := mul_bd h0 h1 (show 0 ≤ u by omega) (show u ≤ 30 by omega)
  unfold cutS
  generalize h * u = n at *
  have h2 : 0 ≤ n / d := Int.ediv_nonneg (by omega) (by omega)
  have h3 : n / d ≤ n := Int.ediv_le_self _ (by omega)
  split <;> omega
/-- The cut of a point's height. -/
@[reducible] def ct (kind base u d h : Int) : Int := cutS kind (h - base) u d
/-- All cuts. -/
def cuts (kind base u d : Int) (hs : List Int) : List Int := hs.map (ct kind base u d)
theorem cuts_len {kind base u d : Int} {hs : List Int} : (cuts kind base u d hs).length = hs.length := by simp [cuts]
theorem getD_map {α β : Type} [Inhabited α] [Inhabited β] (f : α → β) (xs : List α) {i : Nat} (h : i < xs.length) : (xs.map f).getD i default = f (xs.getD i default) := by
  simp [List.getD_eq_getElem?_getD, h]
theorem cuts_at {kind base u d : Int} {hs : List Int} {i : Nat} (h : i < hs.length) : (cuts kind base u d hs).getD i default = ct kind base u d (hs.getD i default) := getD_map _ _ h
/-- An array of eight numbers that begins so. -/
def a8 (xs : List Int) : List Value := (List.range 8).map fun i => .int .i64 (xs.getD i default)
theorem a8_len {xs : List Int} : (a8 xs).length = 8 := by simp [a8]
theorem a8_nil : a8 [] = [.int .i64 0, .int .i64 0, .int .i64 0, .int .i64 0, .int .i64 0, .int .i64 0, .int .i64 0, .int .i64 0] := rfl
theorem nth_a8 {xs : List Int} {i : Nat} (h : i < 8) : K.nth (a8 xs) i = .int .i64 (xs.getD i default) := by
  rw [K.nth_eq]
  simp [a8, List.getElem?_map, List.getElem?_range h]
theorem a8_flat {xs : List Int} (h : xs.length ≤ 8) : a8 xs = xs.flatMap K.eI ++ List.replicate (8 - xs.length) (.int .i64 0) := by
  have e1 : xs.flatMap K.eI = xs.map (Value.int .i64) := by
    induction xs with
    | nil => rfl
    | cons x xs ih => simp [List.flatMap_cons, ih (by simp at h; omega)]
  rw [e1]
  apply List.ext_getElem?
  intro i
  rw [List.getElem?_append]
  simp only [List.length_map, a8, List.getElem?_map, List.getElem?_replicate]
  rcases Nat.lt_or_ge i 8 with h8 | h8
  · rw [List.getElem?_range h8]
    rcases Nat.lt_or_ge i xs.length with h1 | h1
    · simp [h1, List.getD_eq_getElem?_getD]
    · have h2 : i - xs.length < 8 - xs.length := by omega
      simp [List.getD_eq_getElem?_getD, h2, Nat.not_lt.2 h1]
  · have h1 : ¬ i < xs.length := by omega
    have h2 : ¬ i - xs.length < 8 - xs.length := by omega
    rw [List.getElem?_eq_none (by simpa using h8)]
    simp [h1, h2]
theorem a8_set {xs : List Int} {v : Int} (h : xs.length < 8) : K.setn (a8 xs) xs.length (.int .i64 v) = a8 (xs ++ [v]) := by
  rw [K.setn_eq]
  apply List.ext_getElem?
  intro i
  rw [List.getElem?_set]
  simp only [a8, List.length_map, List.length_range, List.getElem?_map]
  rcases Nat.lt_or_ge i 8 with h8 | h8
  · rw [List.getElem?_range h8]
    split
    · rename_i h1; subst h1
      simp [h, List.getD_eq_getElem?_getD]
    · rename_i h1
      simp only [List.getD_eq_getElem?_getD, List.getElem?_append, Option.map_some]
      rcases Nat.lt_or_ge i xs.length with h2 | h2
      · simp [h2]
      · have h3 : ¬ i < xs.length := by omega
        have h4 : i - xs.length ≠ 0 := by omega
        simp [h3]
        rw [List.getElem?_eq_none (by simp; omega)]
        rfl
  · rw [List.getElem?_eq_none (by simpa using h8)]
    have h1 : ¬ xs.length = i := by omega
    simp [h1]
/-- Lists that grow by one. -/
theorem take_succ_map {E F : Type} [Inhabited E] (f : E → F) {xs : List E} {k : Nat} (h : k < xs.length) : (xs.take (k + 1)).map f = (xs.take k).map f ++ [f (xs.getD k default)] := by
  rw [List.take_add_one, List.getElem?_eq_getElem h, List.map_append]
  simp [List.getD_eq_getElem?_getD, h]
theorem take_all {E : Type} {xs : List E} {k : Nat} (h : xs.length ≤ k) : xs.take k = xs := List.take_of_length_le h
/-- Whether all cuts are within Most. -/
def fitB (most : Int) (xs : List Int) : Bool := xs.all fun x => decide (x ≤ most)
theorem fitB_snoc {most x : Int} {xs : List Int} : fitB most (xs ++ [x]) = (fitB most xs && decide (x ≤ most)) := by simp [fitB]
/-- What a road rises. -/
@[reducible] def riseS (xs : List Int) (r : Int × Int) : Int := xs.getD r.2.toNat default - xs.getD r.1.toNat default
/-- By how much a road is false. -/
def offS (u d rise by_ : Int) : Int := if rise = 0 then 0 else (max (1000 * (d * by_ - u * rise)) (-(1000 * (d * by_ - u * rise))) + u * max rise (-rise) - 1) / (u * max rise (-rise))
/-- The numbers below n that p chooses. -/
def selN (p : Nat → Bool) (n : Nat) : List Int := ((List.range n).filter p).map fun (i : Nat) => (i : Int)
theorem selN_succ {p : Nat → Bool} {n : Nat} : selN p (n + 1) = selN p n ++ (if p n then [(n : Int)] else []) := by
  unfold selN
  rw [List.range_succ, List.filter_append, List.map_append]
  split <;> simp_all
theorem selN_zero {p : Nat → Bool} : selN p 0 = [] := rfl
theorem selN_len {p : Nat → Bool} {n : Nat} : (selN p n).length ≤ n := by
  unfold selN; rw [List.length_map]
  exact Nat.le_trans (List.length_filter_le _ _) (by simp)
/-- A road is flat. -/
@[reducible] def flatP (hs cs : List Int) (r : Int × Int) : Bool := decide (riseS hs r ≠ 0) && decide (riseS cs r = 0)
/-- The roads that are flat. -/
def flats (hs cs : List Int) (rs : List (Int × Int)) : List Int := selN (fun i => flatP hs cs (rs.getD i default)) rs.length
/-- The roads' falseness. -/
def offs (u d : Int) (hs cs : List Int) (rs : List (Int × Int)) : List Int := rs.map fun r => offS u d (riseS hs r) (riseS cs r)
/-- Where two lists differ. -/
def diffs (xs ys : List Int) : List Int := selN (fun i => decide (xs.getD i default ≠ ys.getD i default)) xs.length
/-- The first error of a case and scales. -/
def scsE : List (Int × Int) → Int
  | [] => 0
  | s :: l => if scE s.1 s.2 ≠ 0 then scE s.1 s.2 else scsE l
theorem fst_scsE (l : List (Int × Int)) : (K.fst (fun s : Int × Int => scE s.1 s.2) l).2 = scsE l := by
  induction l with
  | nil => rfl
  | cons s l ih =>
    unfold scsE
    split
    · rename_i h; simp [K.fst, List.findIdx?_cons, h]
    · rename_i h
      have h' : scE s.1 s.2 = 0 := by omega
      rw [← ih]
      simp only [K.fst, List.findIdx?_cons, h', bne_self_eq_false, Bool.false_eq_true, if_false]
      cases l.findIdx? (fun x => scE x.1 x.2 != 0) <;> simp
theorem selN_t {p : Nat → Bool} {n : Nat} (h : p n = true) : selN p (n + 1) = selN p n ++ [(n : Int)] := by rw [selN_succ, if_pos h]
theorem selN_f {p : Nat → Bool} {n : Nat} (h : p n = false) : selN p (n + 1) = selN p n := by rw [selN_succ, h]; simp
/-- The entries' bounds. -/
@[reducible] def Bd (lo hi : Int) (xs : List Int) : Prop := ∀ i : Nat, lo ≤ xs.getD i default ∧ xs.getD i default ≤ hi
theorem bd_of {lo hi : Int} {xs : List Int} (h0 : lo ≤ 0) (h1 : 0 ≤ hi) (h : ∀ x ∈ xs, lo ≤ x ∧ x ≤ hi) : Bd lo hi xs := fun i => by
  rcases Nat.lt_or_ge i xs.length with h2 | h2
  · exact h _ (K.gt_mem h2)
  · have : xs.getD i default = 0 := by simp [List.getD_eq_getElem?_getD, List.getElem?_eq_none h2]
    rw [this]; exact ⟨h0, h1⟩
theorem Good.bdh {kind base most : Int} {hs : List Int} {rs : List (Int × Int)} (g : Good kind base most hs rs) : Bd 0 9000 hs := bd_of (by omega) (by omega) fun x hx => by
  have := g.h x hx; have := g.b; omega
theorem Good.bdc {kind base most u d : Int} {hs : List Int} {rs : List (Int × Int)} (g : Good kind base most hs rs) (hp : Parts u d) : Bd 0 270001 (cuts kind base u d hs) := bd_of (by omega) (by omega) fun x hx => by
  obtain ⟨y, hy, rfl⟩ := List.mem_map.1 hx
  have := g.h y hy; have := g.b
  exact cutS_bd (by omega) (by omega) hp
theorem mulb {a b A B : Int} (h : 0 ≤ a ∧ a ≤ A) (hb : -B ≤ b ∧ b ≤ B) : -(A * B) ≤ a * b ∧ a * b ≤ A * B := by
  have hB : 0 ≤ B := by omega
  have h1 : a * b ≤ a * B := Int.mul_le_mul_of_nonneg_left hb.2 h.1
  have h2 : a * B ≤ A * B := Int.mul_le_mul_of_nonneg_right h.2 hB
  have h3 : a * (-B) ≤ a * b := Int.mul_le_mul_of_nonneg_left hb.1 h.1
  have h4 : a * (-B) = -(a * B) := Int.mul_neg a B
  omega
theorem load8 {P : Program} {w0 : World} {L : List K.Chunk} {l : List Value} {d : Option Tmp} {ty : TypeId} {ps : String} {af : Array Edge} {g : Option (Nat × Bool)} {t b e : Nat} {x : Operand} {xs : List Int} {z : Int} (ho : K.one P t = true) (hx : K.ev l x = .pointer (some ⟨b, 0 + z.toNat * 1, none⟩))
    (hm : K.blk b e (a8 xs) ∈ L) (h0 : 0 ≤ z) (h8 : z < 8) : K.Sil P w0 L ⟨d, .load t x, ty, ps, af, g⟩ l (.int .i64 (xs.getD z.toNat default)) :=
  (K.load1_ix ho hx hm (by rw [a8_len]; omega)).cast (by rw [nth_a8 (by omega)]; simp)
theorem a8_over {xs : List Int} {v : Int} {z : Int} (h : xs.length < 8) (hz : z = (xs.length : Int)) : K.setn (a8 xs) (0 + z.toNat * 1) (.int .i64 v) = a8 (xs ++ [v]) := by
  subst hz
  have e : 0 + ((xs.length : Int)).toNat * 1 = xs.length := by omega
  rw [e, a8_set h]
theorem snoc_at {xs : List Int} {v z : Int} (hz : z = (xs.length : Int)) : (xs ++ [v]).getD z.toNat default = v := by
  subst hz
  simp [List.getD_eq_getElem?_getD]
theorem rnd_ix {kind : Int} (hk : 1 ≤ kind ∧ kind ≤ 3) : Value.agg ((([Value.func (.func 99) #[] #[], .func (.func 100) #[] #[], .func (.func 101) #[] #[]] : List Value).drop ((kind - 1).toNat * 1)).take 1).toArray = .agg #[.func (.func (98 + kind.toNat)) #[] #[]] := by
  rcases (show kind = 1 ∨ kind = 2 ∨ kind = 3 by omega) with h | h | h <;> subst h <;> rfl
theorem ext_getD {E : Type} [Inhabited E] {xs ys : List E} (hl : xs.length = ys.length) (h : ∀ j, j < xs.length → xs.getD j default = ys.getD j default) : xs = ys := by
  apply List.ext_getElem hl
  intro j h1 h2
  have := h j h1
  simpa [List.getD_eq_getElem?_getD, h1, h2] using this
theorem offS_ref {u v a b : Int} (h : a ≠ 0) : offS u v a b = (1000 * max (v * b - u * a) (-(v * b - u * a)) + u * max a (-a) - 1) / (u * max a (-a)) := by
  unfold offS
  rw [if_neg h]
  congr 1
  generalize v * b - u * a = n
  generalize u * max a (-a) = m
  omega
/-- The error of a case and a scale. -/
def askE (kind base most : Int) (hs : List Int) (rs : List (Int × Int)) (u d : Int) : Int := if (chk kind base most hs rs).2.2 ≠ 0 then (chk kind base most hs rs).2.2 else scE u d
theorem Good.road4 {kind base most : Int} {hs : List Int} {rs : List (Int × Int)} (g : Good kind base most hs rs) {i : Nat} (h : i < rs.length) : 0 ≤ (rs.getD i default).1 ∧ (rs.getD i default).1 < hs.length ∧ 0 ≤ (rs.getD i default).2 ∧ (rs.getD i default).2 < hs.length :=
  have := g.road h; ⟨this.1, this.2.1, this.2.2.1, this.2.2.2.1⟩
theorem scsE1 {u v : Int} : scsE [(u, v)] = scE u v := by unfold scsE scsE; split <;> simp_all
theorem scsE2 {u v u2 v2 : Int} : scsE [(u, v), (u2, v2)] = if scE u v ≠ 0 then scE u v else scE u2 v2 := by unfold scsE; rw [scsE1]
section
variable {kind base most : Int} {hs : List Int} {rs : List (Int × Int)} {u v u2 v2 : Int}
theorem askE_bad (h : (chk kind base most hs rs).2.2 ≠ 0) : askE kind base most hs rs u v = (chk kind base most hs rs).2.2 := by unfold askE; rw [if_pos h]
theorem askE_good (g : Good kind base most hs rs) : askE kind base most hs rs u v = scE u v := by unfold askE; rw [g.chk]; rfl
theorem askE_0 (h : askE kind base most hs rs u v = 0) : Good kind base most hs rs ∧ scE u v = 0 := by
  by_cases h1 : (chk kind base most hs rs).2.2 = 0
  · have g := chk_good h1
    exact ⟨g, by rw [askE_good g] at h; exact h⟩
  · rw [askE_bad h1] at h; exact absurd h h1
/-- The error of a case and two scales. -/
def ask2 (kind base most : Int) (hs : List Int) (rs : List (Int × Int)) (u v u2 v2 : Int) : Int := if askE kind base most hs rs u v ≠ 0 then askE kind base most hs rs u v else scE u2 v2
def cutsR (kind base most : Int) (hs : List Int) (rs : List (Int × Int)) (u v : Int) : List Int := if askE kind base most hs rs u v = 0 then cuts kind base u v hs else []
def offsR (kind base most : Int) (hs : List Int) (rs : List (Int × Int)) (u v : Int) : List Int := if askE kind base most hs rs u v = 0 then offs u v hs (cuts kind base u v hs) rs else []
def flatsR (kind base most : Int) (hs : List Int) (rs : List (Int × Int)) (u v : Int) : List Int := if askE kind base most hs rs u v = 0 then flats hs (cuts kind base u v hs) rs else []
def apartR (kind base most : Int) (hs : List Int) (rs : List (Int × Int)) (u v u2 v2 : Int) : List Int := if ask2 kind base most hs rs u v u2 v2 = 0 then diffs (cuts kind base u v hs) (cuts kind base u2 v2 hs) else []
end
def litA8 (xs : List Int) : List Lit := (List.range 8).map fun i => .int .i64 (xs.getD i default)
theorem litA8_eq {xs ys : List Int} (hl : xs.length = ys.length) (h8 : xs.length ≤ 8) : litA8 xs = litA8 ys ↔ xs = ys := by
  constructor
  · intro h
    refine ext_getD hl fun j hj => ?_
    have h1 : (litA8 xs)[j]? = (litA8 ys)[j]? := by rw [h]
    simpa [litA8, List.getElem?_map, List.getElem?_range (show j < 8 by omega)] using h1
  · intro h; rw [h]
theorem diffs_self (xs : List Int) : diffs xs xs = [] := by
  unfold diffs selN
  simp
end Go.Proofs.Ytafkbioeoklldaa

/-
  The scales, in order: what the program's iterator hands out.
  No conditions: no program is in sight.
-/
namespace Go.Proofs.Ytafkbioeoklldaa
open Go
/-- The scales between a and b. -/
def sb : Nat → Int × Int → Int × Int → List (Int × Int)
  | 0, _, _ => []
  | n + 1, a, b => if a.1 + b.1 > 30 ∨ a.2 + b.2 > 30 then [] else sb n a (a.1 + b.1, a.2 + b.2) ++ (a.1 + b.1, a.2 + b.2) :: sb n (a.1 + b.1, a.2 + b.2) b
def SB : List (Int × Int) := sb 60 (0, 1) (1, 0)
section
variable (kind base most : Int) (hs : List Int) (rs : List (Int × Int)) (limit : Int)
/-- The scale fits on the board. -/
def fitP (s : Int × Int) : Bool := fitB most (cuts kind base s.1 s.2 hs)
/-- By how much road r is false. -/
@[reducible] def offP (s r : Int × Int) : Int := offS s.1 s.2 (riseS hs r) (riseS (cuts kind base s.1 s.2 hs) r)
/-- No road is falser than limit. -/
def roadP (s : Int × Int) : Bool := rs.all fun r => decide (offP kind base hs s r ≤ limit)
def okG (s : Int × Int) : Bool := fitP kind base most hs s && roadP kind base hs rs limit s
/-- No road is flat, and it fits. -/
def okL (s : Int × Int) : Bool := fitP kind base most hs s && decide ((flats hs (cuts kind base s.1 s.2 hs) rs).length = 0)
end
def lastG (p : Int × Int → Bool) (xs : List (Int × Int)) : Int × Int := ((xs.filter p).getLast?).getD (0, 0)
def frstG (p : Int × Int → Bool) (xs : List (Int × Int)) : Int × Int := ((xs.filter p).head?).getD (0, 0)
theorem lastG_t {p : Int × Int → Bool} {xs : List (Int × Int)} {x : Int × Int} (h : p x = true) : lastG p (xs ++ [x]) = x := by
  unfold lastG; rw [List.filter_append]; simp [h]
theorem lastG_f {p : Int × Int → Bool} {xs : List (Int × Int)} {x : Int × Int} (h : p x = false) : lastG p (xs ++ [x]) = lastG p xs := by
  unfold lastG; rw [List.filter_append]; simp [h]
theorem take_snoc {E : Type} {xs : List E} {k : Nat} {x : E} (h : xs[k]? = some x) : xs.take (k + 1) = xs.take k ++ [x] := by
  rw [List.take_add_one, h]; rfl
theorem sb_parts_all : SB.all (fun s => decide (1 ≤ s.1 ∧ s.1 ≤ 30 ∧ 1 ≤ s.2 ∧ s.2 ≤ 30)) = true := by decide +kernel
theorem sb_parts {k : Nat} {x : Int × Int} (h : SB[k]? = some x) : Parts x.1 x.2 := by
  have := List.all_eq_true.1 sb_parts_all x (List.mem_of_getElem? h)
  simpa using this
theorem roadP_all {kind base : Int} {hs : List Int} {rs : List (Int × Int)} {limit : Int} {s : Int × Int} (h : ∀ i, i < rs.length → offP kind base hs s (rs.getD i default) ≤ limit) : roadP kind base hs rs limit s = true := by
  unfold roadP
  rw [List.all_eq_true]
  intro r hr
  obtain ⟨i, hi, rfl⟩ := List.getElem_of_mem hr
  have := h i hi
  rw [List.getD_eq_getElem?_getD, List.getElem?_eq_getElem hi] at this
  simpa using this
theorem roadP_not {kind base : Int} {hs : List Int} {rs : List (Int × Int)} {limit : Int} {s : Int × Int} {i : Nat} (hi : i < rs.length) (h : offP kind base hs s (rs.getD i default) > limit) : roadP kind base hs rs limit s = false := by
  cases hb : roadP kind base hs rs limit s with
  | false => rfl
  | true =>
    unfold roadP at hb
    have := List.all_eq_true.1 hb _ (K.gt_mem hi)
    simp only [decide_eq_true_eq] at this
    omega
theorem okG_t {kind base most : Int} {hs : List Int} {rs : List (Int × Int)} {limit : Int} {s : Int × Int} (h1 : fitP kind base most hs s = true) (h2 : roadP kind base hs rs limit s = true) : okG kind base most hs rs limit s = true := by unfold okG; rw [h1, h2]; rfl
theorem okG_f {kind base most : Int} {hs : List Int} {rs : List (Int × Int)} {limit : Int} {s : Int × Int} (h2 : roadP kind base hs rs limit s = false) : okG kind base most hs rs limit s = false := by unfold okG; rw [h2, Bool.and_false]
theorem frst_none {p : Int × Int → Bool} {xs : List (Int × Int)} (h : ∀ s ∈ xs, p s = false) : frstG p xs = (0, 0) := by
  unfold frstG
  have : xs.filter p = [] := List.filter_eq_nil_iff.2 (fun s hs => by simp [h s hs])
  rw [this]; rfl
theorem frst_some {p : Int × Int → Bool} {xs : List (Int × Int)} {k : Nat} {x : Int × Int} (hx : xs[k]? = some x) (h : ∀ s ∈ xs.take k, p s = false) (hp : p x = true) : frstG p xs = x := by
  unfold frstG
  have e : xs = xs.take k ++ x :: xs.drop (k + 1) := by
    have hk := (List.getElem?_eq_some_iff.1 hx)
    obtain ⟨hk, rfl⟩ := hk
    rw [← List.drop_eq_getElem_cons hk, List.take_append_drop]
  have h1 : (xs.take k).filter p = [] := List.filter_eq_nil_iff.2 (fun s hs => by simp [h s hs])
  rw [e, List.filter_append, h1]
  simp [hp]
theorem part_ne {x : Int × Int} (h : Parts x.1 x.2) : x ≠ (0, 0) := fun e => by subst e; have := h.1; simp at this
theorem all_snoc {p : Int × Int → Bool} {k : Nat} {x : Int × Int} (hx : SB[k]? = some x) (h : ∀ s ∈ SB.take k, p s = false) (hp : p x = false) : ∀ s ∈ SB.take (k + 1), p s = false := by
  intro s hs
  rw [take_snoc hx] at hs
  rcases List.mem_append.1 hs with hs | hs
  · exact h s hs
  · simp at hs; subst hs; exact hp
section
variable {kind base most : Int} {hs : List Int} {rs : List (Int × Int)} {s : Int × Int}
theorem okL_ff (h : fitP kind base most hs s = false) : okL kind base most hs rs s = false := by unfold okL; rw [h]; rfl
theorem okL_fn (h : (flats hs (cuts kind base s.1 s.2 hs) rs).length ≠ 0) : okL kind base most hs rs s = false := by unfold okL; rw [decide_eq_false h, Bool.and_false]
theorem okL_t (h1 : fitP kind base most hs s = true) (h : (flats hs (cuts kind base s.1 s.2 hs) rs).length = 0) : okL kind base most hs rs s = true := by unfold okL; rw [h1, decide_eq_true h]; rfl
end
/-- The error of a mark of a case of n points. -/
def markE (n : Int) (x : Int × Int × Int) : Int := if ¬ (0 ≤ x.1 ∧ x.1 ≤ n - 1) then 4 else if ¬ ((0 ≤ x.2.1 ∧ x.2.1 ≤ 100000) ∧ (0 ≤ x.2.2 ∧ x.2.2 ≤ 100000)) then 7 else if x.2.1 > x.2.2 then 2 else 0
theorem markE_0 {n : Int} {x : Int × Int × Int} (h : markE n x = 0) : (0 ≤ x.1 ∧ x.1 ≤ n - 1) ∧ ((0 ≤ x.2.1 ∧ x.2.1 ≤ 100000) ∧ (0 ≤ x.2.2 ∧ x.2.2 ≤ 100000)) ∧ x.2.1 ≤ x.2.2 := by
  unfold markE at h
  split at h
  · omega
  split at h
  · omega
  split at h
  · omega
  · omega
/-- The cut misses the mark. -/
@[reducible] def missP (cs : List Int) (x : Int × Int × Int) : Bool := decide (¬ (x.2.1 ≤ cs.getD x.1.toNat default ∧ cs.getD x.1.toNat default ≤ x.2.2))
def okS (kind base most : Int) (hs : List Int) (ms : List (Int × Int × Int)) (s : Int × Int) : Bool := fitP kind base most hs s && !(ms.any (missP (cuts kind base s.1 s.2 hs)))
theorem sb_len : SB.length ≤ 1000 := by decide +kernel
theorem filt_t {p : Int × Int → Bool} {k : Nat} {x : Int × Int} (hx : SB[k]? = some x) (h : p x = true) : (SB.take (k + 1)).filter p = (SB.take k).filter p ++ [x] := by rw [take_snoc hx, List.filter_append]; simp [h]
theorem filt_f {p : Int × Int → Bool} {k : Nat} {x : Int × Int} (hx : SB[k]? = some x) (h : p x = false) : (SB.take (k + 1)).filter p = (SB.take k).filter p := by rw [take_snoc hx, List.filter_append]; simp [h]
theorem filt_len {p : Int × Int → Bool} {k : Nat} : ((SB.take k).filter p).length ≤ 1000 := Nat.le_trans (List.length_filter_le _ _) (Nat.le_trans (by rw [List.length_take]; omega) sb_len)
/-- The error of marks. -/
def marksE (kind base most : Int) (hs : List Int) (rs : List (Int × Int)) (ms : List (Int × Int × Int)) : Int :=
  if (chk kind base most hs rs).2.2 ≠ 0 then (chk kind base most hs rs).2.2 else if ms.length > 8 then 3 else (K.fst (markE hs.length) ms).2
def scalesR (kind base most : Int) (hs : List Int) (rs : List (Int × Int)) (ms : List (Int × Int × Int)) : List (Int × Int) := if marksE kind base most hs rs ms = 0 then SB.filter (okS kind base most hs ms) else []
theorem ptr8 {w0 : World} {b : Nat} {cs : List Int} {z : Int} (h : K.PtrL w0 [] ⟨b, 0, none⟩ (a8 cs)) (h0 : 0 ≤ z) (h8 : z < 8) : K.PtrL w0 [] ⟨b, 0 + z.toNat * 1, none⟩ (.int .i64 (cs.getD z.toNat default) :: (a8 cs).drop (z.toNat + 1)) := by
  have h1 := K.PtrL.fld h (k := z.toNat)
  rw [K.add_lit] at h1
  have e : (a8 cs).drop z.toNat = .int .i64 (cs.getD z.toNat default) :: (a8 cs).drop (z.toNat + 1) := by
    rw [List.drop_eq_getElem_cons (by rw [a8_len]; omega)]
    congr 1
    simp [a8]
  rw [e] at h1
  simpa using h1
end Go.Proofs.Ytafkbioeoklldaa

/-
  The order of scales, and what follows for cuts.
  No conditions: no program is in sight.
-/
namespace Go.Proofs.Ytafkbioeoklldaa
open Go
/-- One scale is less than another one. -/
@[reducible] def ltS (a b : Int × Int) : Prop := a.1 * b.2 < b.1 * a.2
theorem ltS_trans {a b c : Int × Int} (ha : 0 < a.2) (hb : 0 < b.2) (hc : 0 < c.2) (h1 : ltS a b) (h2 : ltS b c) : ltS a c := by
  unfold ltS at *
  have e1 : a.1 * b.2 * c.2 < b.1 * a.2 * c.2 := Int.mul_lt_mul_of_pos_right h1 hc
  have e2 : b.1 * c.2 * a.2 < c.1 * b.2 * a.2 := Int.mul_lt_mul_of_pos_right h2 ha
  have e3 : b.1 * a.2 * c.2 = b.1 * c.2 * a.2 := by rw [Int.mul_assoc, Int.mul_comm a.2, ← Int.mul_assoc]
  have e4 : a.1 * b.2 * c.2 = a.1 * c.2 * b.2 := by rw [Int.mul_assoc, Int.mul_comm b.2, ← Int.mul_assoc]
  have e5 : c.1 * b.2 * a.2 = c.1 * a.2 * b.2 := by rw [Int.mul_assoc, Int.mul_comm b.2, ← Int.mul_assoc]
  exact Int.lt_of_mul_lt_mul_right (a := b.2) (by omega) (by omega)
/-- Neighbours are in order. -/
def chainB : List (Int × Int) → Bool
  | [] => true
  | a :: l => decide (0 < a.2) && (match l with | [] => true | b :: _ => decide (ltS a b)) && chainB l
theorem chain_pos : ∀ {l : List (Int × Int)}, chainB l = true → ∀ x ∈ l, 0 < x.2
  | [], _, x, hx => by cases hx
  | a :: l, h, x, hx => by
    simp only [chainB, Bool.and_eq_true, decide_eq_true_eq] at h
    rcases List.mem_cons.1 hx with rfl | hx
    · exact h.1.1
    · exact chain_pos h.2 x hx
theorem chain_pw : ∀ {l : List (Int × Int)}, chainB l = true → l.Pairwise ltS
  | [], _ => .nil
  | [a], _ => by simp
  | a :: b :: l, h => by
    have hp := chain_pos h
    have h2 : chainB (b :: l) = true := by simp only [chainB, Bool.and_eq_true] at h ⊢; exact h.2
    have hab : ltS a b := by simp only [chainB, Bool.and_eq_true, decide_eq_true_eq] at h; exact h.1.2
    have ih := chain_pw h2
    refine .cons (fun x hx => ?_) ih
    rcases List.mem_cons.1 hx with rfl | hx
    · exact hab
    · exact ltS_trans (hp _ (by simp)) (hp _ (by simp)) (hp _ (by simp [hx])) hab (List.rel_of_pairwise_cons ih hx)
theorem sb_pw : SB.Pairwise ltS := chain_pw (by decide +kernel)
theorem ediv_mono {x b y d : Int} (hb : 0 < b) (hd : 0 < d) (h : x * d ≤ y * b) : x / b ≤ y / d := by
  refine Int.le_ediv_of_mul_le hd ?_
  have h1 : x / b * b ≤ x := Int.ediv_mul_le _ (by omega)
  have h2 : x / b * b * d ≤ x * d := Int.mul_le_mul_of_nonneg_right h1 (by omega)
  have e : x / b * b * d = x / b * d * b := by rw [Int.mul_assoc, Int.mul_comm b, ← Int.mul_assoc]
  exact Int.le_of_mul_le_mul_right (by omega) hb
theorem ceil_mono {x b y d : Int} (hb : 0 < b) (hd : 0 < d) (h : x * d ≤ y * b) : (x + b - 1) / b ≤ (y + d - 1) / d := by
  generalize hq : (y + d - 1) / d = q
  have h1 : y ≤ q * d := by
    have := Int.lt_mul_ediv_self_add (x := y + d - 1) hd
    rw [hq, Int.mul_comm] at this
    omega
  have h2 : y * b ≤ q * d * b := Int.mul_le_mul_of_nonneg_right h1 (by omega)
  have e : q * d * b = q * b * d := by rw [Int.mul_assoc, Int.mul_comm d, ← Int.mul_assoc]
  have h3 : x ≤ q * b := Int.le_of_mul_le_mul_right (a := d) (by omega) hd
  have h4 : (x + b - 1) / b < q + 1 := Int.ediv_lt_of_lt_mul hb (by rw [Int.add_mul]; omega)
  omega
theorem cut_mono {kind h h' a b c d : Int} (hk : 1 ≤ kind ∧ kind ≤ 3) (h0 : 0 ≤ h) (hh : h ≤ h') (ha : 0 ≤ a) (hb : 1 ≤ b) (hd : 1 ≤ d) (hs : a * d ≤ c * b) : cutS kind h a b ≤ cutS kind h' c d := by
  rw [← rnd_cut hk hb, ← rnd_cut hk hd]
  have h1 : h * (a * d) ≤ h' * (c * b) := Int.mul_le_mul hh hs (Int.mul_nonneg ha (by omega)) (by omega)
  have h2 : h * a * d ≤ h' * c * b := by rw [Int.mul_assoc, Int.mul_assoc]; exact h1
  unfold rndS
  split
  · exact ediv_mono (by omega) (by omega) h2
  split
  · refine ediv_mono (by omega) (by omega) ?_
    have e1 : (2 * (h * a) + b) * (2 * d) = 4 * (h * a * d) + 2 * (b * d) := by
      rw [Int.add_mul, Int.mul_left_comm b 2 d, show (2 * (h * a)) * (2 * d) = 4 * (h * a * d) by rw [Int.mul_assoc 2, Int.mul_left_comm (h * a) 2 d]; omega]
    have e2 : (2 * (h' * c) + d) * (2 * b) = 4 * (h' * c * b) + 2 * (b * d) := by
      rw [Int.add_mul, Int.mul_left_comm d 2 b, show (2 * (h' * c)) * (2 * b) = 4 * (h' * c * b) by rw [Int.mul_assoc 2, Int.mul_left_comm (h' * c) 2 b]; omega, Int.mul_comm d b]
    omega
  · exact ceil_mono (by omega) (by omega) h2
theorem fitB_mono {most : Int} {xs ys : List Int} (hl : xs.length = ys.length) (h : ∀ j, j < xs.length → xs.getD j default ≤ ys.getD j default) (hf : fitB most ys = true) : fitB most xs = true := by
  unfold fitB at *
  rw [List.all_eq_true] at *
  intro x hx
  obtain ⟨j, hj, rfl⟩ := List.getElem_of_mem hx
  have h1 := h j hj
  have h2 := hf _ (K.gt_mem (xs := ys) (k := j) (by omega))
  simp only [decide_eq_true_eq, List.getD_eq_getElem?_getD, List.getElem?_eq_getElem hj, Option.getD_some] at h1 h2 ⊢
  omega
section
variable {kind base most : Int} {hs : List Int} {rs : List (Int × Int)}
theorem cuts_mono (g : Good kind base most hs rs) {s t : Int × Int} (hs1 : Parts s.1 s.2) (ht : Parts t.1 t.2) (h : s.1 * t.2 ≤ t.1 * s.2) : ∀ j, j < (cuts kind base s.1 s.2 hs).length → (cuts kind base s.1 s.2 hs).getD j default ≤ (cuts kind base t.1 t.2 hs).getD j default := by
  intro j hj
  rw [cuts_len] at hj
  rw [cuts_at hj, cuts_at hj]
  have := g.at hj
  exact cut_mono g.k (by omega) (Int.le_refl _) (by omega) (by omega) (by omega) h
/-- A lesser scale than one that fits does fit. -/
theorem fit_mono (g : Good kind base most hs rs) {s t : Int × Int} (hs1 : Parts s.1 s.2) (ht : Parts t.1 t.2) (h : s.1 * t.2 ≤ t.1 * s.2) (hf : fitP kind base most hs t = true) : fitP kind base most hs s = true :=
  fitB_mono (by rw [cuts_len, cuts_len]) (cuts_mono g hs1 ht h) hf
theorem lastG_cut {limit : Int} (g : Good kind base most hs rs) {k : Nat} {x : Int × Int} (hx : SB[k]? = some x) (hf : fitP kind base most hs x = false) :
    lastG (okG kind base most hs rs limit) (SB.take k) = lastG (okG kind base most hs rs limit) SB := by
  have hk : k < SB.length := (List.getElem?_eq_some_iff.1 hx).1
  have hxe : SB[k] = x := (List.getElem?_eq_some_iff.1 hx).2
  have hd : (SB.drop k).filter (okG kind base most hs rs limit) = [] := by
    rw [List.filter_eq_nil_iff]
    intro y hy hok
    have hfy : fitP kind base most hs y = true := by unfold okG at hok; simp only [Bool.and_eq_true] at hok; exact hok.1
    have hy' : y ∈ SB := List.mem_of_mem_drop hy
    obtain ⟨j, hj, hyj⟩ := List.getElem_of_mem hy'
    have hpy := sb_parts (k := j) (x := y) (by rw [List.getElem?_eq_getElem hj, hyj])
    rw [List.drop_eq_getElem_cons hk, hxe] at hy
    rcases List.mem_cons.1 hy with rfl | hy
    · rw [hf] at hfy; cases hfy
    · have hlt : ltS x y := by
        have h1 : (SB.drop k).Pairwise ltS := List.Pairwise.sublist (List.drop_sublist _ _) sb_pw
        rw [List.drop_eq_getElem_cons hk, hxe] at h1
        exact List.rel_of_pairwise_cons h1 hy
      rw [fit_mono g (sb_parts hx) hpy (Int.le_of_lt hlt) hfy] at hf
      cases hf
  have e : SB.filter (okG kind base most hs rs limit) = (SB.take k).filter (okG kind base most hs rs limit) := by
    conv => lhs; rw [← List.take_append_drop k SB]
    rw [List.filter_append, hd, List.append_nil]
  unfold lastG
  rw [e]
end
end Go.Proofs.Ytafkbioeoklldaa

/-
  The reference's functions of scales, as plain functions.
  No conditions: no program is in sight.
-/
namespace Go.Proofs.Ytafkbioeoklldaa
open Go
/-- The error of spans within limits. -/
def spreadE (low high : Int) (xs : List (Int × Int)) : Int :=
  if xs.any (fun s => decide (¬ ((low ≤ s.1 ∧ s.1 ≤ high) ∧ (low ≤ s.2 ∧ s.2 ≤ high)))) then 7 else if xs.any (fun s => decide (s.1 > s.2)) then 2 else 0
theorem any_take {E : Type} [Inhabited E] {p : E → Bool} {xs : List E} {k : Nat} (h : k < xs.length) : (xs.take (k + 1)).any p = ((xs.take k).any p || p (xs.getD k default)) := by
  rw [List.take_add_one, List.getElem?_eq_getElem h, List.any_append]
  simp [List.getD_eq_getElem?_getD, h]
theorem any_f {E : Type} [Inhabited E] {p : E → Bool} {xs : List E} (h : ∀ j, j < xs.length → p (xs.getD j default) = false) : xs.any p = false := by
  rw [List.any_eq_false]
  intro x hx
  obtain ⟨j, hj, rfl⟩ := List.getElem_of_mem hx
  have := h j hj
  rw [List.getD_eq_getElem?_getD, List.getElem?_eq_getElem hj] at this
  simpa using this
theorem any_t {E : Type} [Inhabited E] {p : E → Bool} {xs : List E} {j : Nat} (hj : j < xs.length) (h : p (xs.getD j default) = true) : xs.any p = true := List.any_eq_true.2 ⟨_, K.gt_mem hj, h⟩
theorem fitB_t {most : Int} {xs : List Int} (h : ∀ j, j < xs.length → xs.getD j default ≤ most) : fitB most xs = true := by
  unfold fitB
  rw [List.all_eq_true]
  intro x hx
  obtain ⟨j, hj, rfl⟩ := List.getElem_of_mem hx
  have := h j hj
  rw [List.getD_eq_getElem?_getD, List.getElem?_eq_getElem hj] at this
  simpa using this
theorem fitB_f {most : Int} {xs : List Int} {j : Nat} (hj : j < xs.length) (h : xs.getD j default > most) : fitB most xs = false := by
  cases hb : fitB most xs with
  | false => rfl
  | true =>
    unfold fitB at hb
    have := List.all_eq_true.1 hb _ (K.gt_mem hj)
    simp only [decide_eq_true_eq] at this
    omega
/-- By how much the road is false that is falsest. -/
def worstS (u v : Int) (hs cs : List Int) (rs : List (Int × Int)) : Int := (offs u v hs cs rs).foldl max 0
theorem fold_take {E : Type} [Inhabited E] {f : E → Int} {xs : List E} {k : Nat} (h : k < xs.length) : ((xs.take (k + 1)).map f).foldl max 0 = max (((xs.take k).map f).foldl max 0) (f (xs.getD k default)) := by
  rw [take_succ_map f h, List.foldl_append]; rfl
/-- The row of scales with so many parts up, so far. -/
def evR (u : Nat) (j : Nat) : List (Int × Int) := ((List.range j).filter fun (d : Nat) => !cm ((u : Int) + 1) ((d : Int) + 1)).map fun (d : Nat) => ((u : Int) + 1, (d : Int) + 1)
def evU (k : Nat) : List (Int × Int) := (List.range k).flatMap fun u => evR u 30
def EV : List (Int × Int) := evU 30
theorem evR_t {u j : Nat} (h : cm ((u : Int) + 1) ((j : Int) + 1) = false) : evR u (j + 1) = evR u j ++ [((u : Int) + 1, (j : Int) + 1)] := by
  unfold evR; rw [List.range_succ, List.filter_append, List.map_append]; simp [h]
theorem evR_f {u j : Nat} (h : cm ((u : Int) + 1) ((j : Int) + 1) = true) : evR u (j + 1) = evR u j := by
  unfold evR; rw [List.range_succ, List.filter_append, List.map_append]; simp [h]
theorem evR_len {u j : Nat} : (evR u j).length ≤ j := by
  unfold evR; rw [List.length_map]
  exact Nat.le_trans (List.length_filter_le _ _) (by simp)
theorem evU_succ {k : Nat} : evU (k + 1) = evU k ++ evR k 30 := by unfold evU; rw [List.range_succ, List.flatMap_append]; simp
theorem evU_len {k : Nat} : (evU k).length ≤ 30 * k := by
  induction k with
  | zero => simp [evU]
  | succ k ih => rw [evU_succ, List.length_append]; have := @evR_len k 30; omega
section
variable {kind base most : Int} {hs : List Int} {rs : List (Int × Int)} {ms : List (Int × Int × Int)} {j : Nat}
theorem mk_err (h : (chk kind base most hs rs).2.2 ≠ 0) : marksE kind base most hs rs ms = (chk kind base most hs rs).2.2 := by unfold marksE; rw [if_pos h]
theorem mk_long (h : (chk kind base most hs rs).2.2 = 0) (h8 : ms.length > 8) : marksE kind base most hs rs ms = 3 := by unfold marksE; rw [if_neg (fun h' => h' h), if_pos h8]
theorem mk_fst (h : (chk kind base most hs rs).2.2 = 0) (h8 : ms.length ≤ 8) : marksE kind base most hs rs ms = (K.fst (markE hs.length) ms).2 := by unfold marksE; rw [if_neg (fun h' => h' h), if_neg (by omega)]
theorem mk_at (h : (chk kind base most hs rs).2.2 = 0) (h8 : ms.length ≤ 8) (hj : j < ms.length) (hall : ∀ i, i < j → markE hs.length (ms.getD i default) = 0) (hn : markE hs.length (ms.getD j default) ≠ 0) : marksE kind base most hs rs ms = markE hs.length (ms.getD j default) := by
  rw [mk_fst h h8, K.fst_found hj hall hn]
theorem sp_mark {n : Int} {x : Int × Int × Int} (h : 0 ≤ x.1 ∧ x.1 ≤ n - 1) : spreadE 0 100000 [(x.2.1, x.2.2)] = markE n x := by
  unfold spreadE markE
  rw [if_neg (by omega : ¬ ¬ (0 ≤ x.1 ∧ x.1 ≤ n - 1))]
  simp only [List.any_cons, List.any_nil, Bool.or_false, decide_eq_true_eq]
theorem marks_next (h : (chk kind base most hs rs).2.2 = 0) (h8 : ms.length ≤ 8) (hj : j < ms.length) (hall : ∀ i, i < j → markE hs.length (ms.getD i default) = 0) (hp : 0 ≤ (ms.getD j default).1 ∧ (ms.getD j default).1 ≤ (hs.length : Int) - 1) :
    (spreadE 0 100000 [((ms.getD j default).2.1, (ms.getD j default).2.2)] ≠ 0 ∧ spreadE 0 100000 [((ms.getD j default).2.1, (ms.getD j default).2.2)] = marksE kind base most hs rs ms) ∨
    (spreadE 0 100000 [((ms.getD j default).2.1, (ms.getD j default).2.2)] = 0 ∧ (chk kind base most hs rs).2.2 = 0 ∧ ms.length ≤ 8 ∧ ∀ i, i < j + 1 → markE hs.length (ms.getD i default) = 0) := by
  rw [sp_mark hp]
  by_cases hz : markE hs.length (ms.getD j default) = 0
  · exact .inr ⟨hz, h, h8, K.lt_succ_case hall hz⟩
  · exact .inl ⟨hz, (mk_at h h8 hj hall hz).symm⟩
theorem marks_done {e : Int} (h : (e ≠ 0 ∧ e = marksE kind base most hs rs ms) ∨ (e = 0 ∧ (chk kind base most hs rs).2.2 = 0 ∧ ms.length ≤ 8 ∧ ∀ i, i < j → markE hs.length (ms.getD i default) = 0)) (hj : ms.length ≤ j ∨ e ≠ 0) : e = marksE kind base most hs rs ms := by
  rcases h with h | ⟨h1, h2, h3, h4⟩
  · exact h.2
  · rcases hj with hj | hj
    · rw [h1, mk_fst h2 h3, K.fst_none (fun i hi => h4 i (by omega))]
    · exact absurd h1 hj
end
theorem ev_parts_all : EV.all (fun s => decide (1 ≤ s.1 ∧ s.1 ≤ 30 ∧ 1 ≤ s.2 ∧ s.2 ≤ 30)) = true := by decide +kernel
theorem ev_parts {k : Nat} (h : k < EV.length) : Parts (EV.getD k default).1 (EV.getD k default).2 := by
  have := List.all_eq_true.1 ev_parts_all _ (K.gt_mem h)
  simpa using this
theorem ev_len : EV.length ≤ 900 := @evU_len 30
/-- One scale is less than another one. -/
@[reducible] def lessP (a b : Int × Int) : Bool := decide (a.1 * b.2 < b.1 * a.2)
/-- The index of the best so far. -/
def bestI (better : Int × Int → Int × Int → Bool) (ok : Int × Int → Bool) : Nat → Int
  | 0 => -1
  | i + 1 => if (bestI better ok i < 0 ∨ better (EV.getD (bestI better ok i).toNat default) (EV.getD i default) = true) ∧ ok (EV.getD i default) = true then i else bestI better ok i
theorem bestI_0 {better : Int × Int → Int × Int → Bool} {ok : Int × Int → Bool} : bestI better ok 0 = -1 := rfl
theorem bestI_bd {better : Int × Int → Int × Int → Bool} {ok : Int × Int → Bool} : ∀ i : Nat, -1 ≤ bestI better ok i ∧ bestI better ok i < i
  | 0 => by simp [bestI]
  | i + 1 => by
    have := @bestI_bd better ok i
    unfold bestI
    split <;> omega
section
variable {better : Int × Int → Int × Int → Bool} {ok : Int × Int → Bool} {i : Nat} {b : Int}
theorem bestI_t (hb : b = bestI better ok i) (hc : b < 0 ∨ better (EV.getD b.toNat default) (EV.getD i default) = true) (hok : ok (EV.getD i default) = true) : (i : Int) = bestI better ok (i + 1) := by
  subst hb; rw [bestI, if_pos ⟨hc, hok⟩]
theorem bestI_f1 (hb : b = bestI better ok i) (h : ¬ b < 0) (h2 : better (EV.getD b.toNat default) (EV.getD i default) = false) : b = bestI better ok (i + 1) := by
  subst hb; rw [bestI, if_neg (fun hh => by rcases hh.1 with h3 | h3
                                            · exact h h3
                                            · rw [h2] at h3; cases h3)]
theorem bestI_f2 (hb : b = bestI better ok i) (h2 : ok (EV.getD i default) = false) : b = bestI better ok (i + 1) := by
  subst hb; rw [bestI, if_neg (fun hh => by rw [h2] at hh; exact absurd hh.2 (by decide))]
end
def okR (kind base most : Int) (hs : List Int) (rs : List (Int × Int)) (limit : Int) (s : Int × Int) : Bool := fitB most (cuts kind base s.1 s.2 hs) && decide (worstS s.1 s.2 hs (cuts kind base s.1 s.2 hs) rs ≤ limit)
def okQ (kind base most : Int) (hs : List Int) (rs : List (Int × Int)) (s : Int × Int) : Bool := fitB most (cuts kind base s.1 s.2 hs) && decide (((flats hs (cuts kind base s.1 s.2 hs) rs).length : Int) = 0)
theorem and_t {a : Bool} {p : Prop} [Decidable p] (h1 : a = true) (h2 : p) : (a && decide p) = true := by rw [h1, decide_eq_true h2]; rfl
theorem and_f1 {a : Bool} {p : Prop} [Decidable p] (h1 : a = false) : (a && decide p) = false := by rw [h1]; rfl
theorem and_f2 {a : Bool} {p : Prop} [Decidable p] (h2 : ¬ p) : (a && decide p) = false := by rw [decide_eq_false h2, Bool.and_false]
theorem fitB_take {most : Int} {xs : List Int} {k : Nat} (h : k < xs.length) : fitB most (xs.take (k + 1)) = (fitB most (xs.take k) && decide (xs.getD k default ≤ most)) := by
  have := take_succ_map id h
  simp only [List.map_id_fun, id_eq] at this
  rw [this, fitB_snoc]
theorem foldI_take {xs : List Int} {k : Nat} (h : k < xs.length) : (xs.take (k + 1)).foldl max 0 = max ((xs.take k).foldl max 0) (xs.getD k default) := by
  have := take_succ_map id h
  simp only [List.map_id_fun, id_eq] at this
  rw [this, List.foldl_append]; rfl
theorem cutsR_len {kind base most u v : Int} {hs : List Int} {rs : List (Int × Int)} : (cutsR kind base most hs rs u v).length ≤ hs.length := by
  unfold cutsR; split
  · rw [cuts_len]; exact Nat.le_refl _
  · simp
theorem offsR_len {kind base most u v : Int} {hs : List Int} {rs : List (Int × Int)} : (offsR kind base most hs rs u v).length ≤ rs.length := by
  unfold offsR; split
  · simp [offs]
  · simp
theorem mem_of_none {E : Type} [Inhabited E] {xs : List E} {n : E} (h : ∀ j, j < xs.length → xs.getD j default ≠ n) : n ∉ xs := fun hm => by
  obtain ⟨j, hj, rfl⟩ := List.getElem_of_mem hm
  exact h j hj (by rw [List.getD_eq_getElem?_getD, List.getElem?_eq_getElem hj]; rfl)
end Go.Proofs.Ytafkbioeoklldaa

/-
  Scales without common divisors.
  No conditions: no program is in sight.
-/
namespace Go.Proofs.Ytafkbioeoklldaa
open Go
theorem div_step {u v n : Int} (hp : Parts u v) (hn : 2 ≤ n) (hu : u % n = 0) (hv : v % n = 0) (hall : ∀ m, n < m → m ≤ 30 → ¬ (u % m = 0 ∧ v % m = 0)) :
    Parts (u / n) (v / n) ∧ ∀ m, n - 1 < m → m ≤ 30 → ¬ (u / n % m = 0 ∧ v / n % m = 0) := by
  obtain ⟨a, rfl⟩ := Int.dvd_of_emod_eq_zero hu
  obtain ⟨b, rfl⟩ := Int.dvd_of_emod_eq_zero hv
  rw [Int.mul_ediv_cancel_left _ (by omega), Int.mul_ediv_cancel_left _ (by omega)]
  have ha : 1 ≤ a := by
    rcases Int.lt_or_le a 1 with h | h
    · have : n * a ≤ 0 := Int.mul_nonpos_of_nonneg_of_nonpos (by omega) (by omega)
      omega
    · exact h
  have hb : 1 ≤ b := by
    rcases Int.lt_or_le b 1 with h | h
    · have : n * b ≤ 0 := Int.mul_nonpos_of_nonneg_of_nonpos (by omega) (by omega)
      omega
    · exact h
  have ha2 : a ≤ n * a := by have := Int.mul_le_mul_of_nonneg_right (show 1 ≤ n by omega) (show 0 ≤ a by omega); omega
  have hb2 : b ≤ n * b := by have := Int.mul_le_mul_of_nonneg_right (show 1 ≤ n by omega) (show 0 ≤ b by omega); omega
  refine ⟨⟨ha, by omega, hb, by omega⟩, fun m h1 h2 ⟨h3, h4⟩ => ?_⟩
  obtain ⟨c, rfl⟩ := Int.dvd_of_emod_eq_zero h3
  obtain ⟨e, rfl⟩ := Int.dvd_of_emod_eq_zero h4
  have hc : 1 ≤ c := by
    rcases Int.lt_or_le c 1 with h | h
    · have : m * c ≤ 0 := Int.mul_nonpos_of_nonneg_of_nonpos (by omega) (by omega)
      omega
    · exact h
  have hnm : n < n * m := by
    have := Int.mul_lt_mul_of_pos_left (show 1 < m by omega) (show 0 < n by omega)
    omega
  have e1 : n * (m * c) = n * m * c := (Int.mul_assoc n m c).symm
  have e2 : n * (m * e) = n * m * e := (Int.mul_assoc n m e).symm
  have hle : n * m ≤ n * m * c := by
    have := Int.mul_le_mul_of_nonneg_left hc (show 0 ≤ n * m by omega)
    omega
  refine hall (n * m) hnm (by omega) ⟨by rw [e1]; exact Int.mul_emod_right _ _, by rw [e2]; exact Int.mul_emod_right _ _⟩
theorem scE_of {u v : Int} (hp : Parts u v) (hall : ∀ m, 1 < m → m ≤ 30 → ¬ (u % m = 0 ∧ v % m = 0)) : scE u v = 0 := by
  unfold scE
  rw [if_pos hp, cm_false (fun n h1 h2 => hall n (by omega) h2)]
  rfl
end Go.Proofs.Ytafkbioeoklldaa
