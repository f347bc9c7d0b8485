/-
  What the functions of scale and of its reference compute, as plain functions.
  No conditions: no program is in sight.
-/
import Derived.Test.YtafkbioeoklldaaKl
set_option linter.unusedSimpArgs false
set_option linter.unusedVariables false
namespace Go.Proofs.Ytafkbioeoklldaa
open Go
def outB (lo hi : Int) (xs : List Int) : Bool := xs.any fun n => decide (n < lo) || decide (n > hi)
/-- Both numbers have a common divisor above 1. -/
def cm (a b : Int) : Bool := (List.range 29).any fun i => decide (a % ((i : Int) + 2) = 0) && decide (b % ((i : Int) + 2) = 0)
/-- The error of a scale. -/
def scE (u d : Int) : Int := if 1 ≤ u ∧ u ≤ 30 ∧ 1 ≤ d ∧ d ≤ 30 then (if cm u d then 6 else 0) else 7
theorem cm_true {a b n : Int} (h2 : 2 ≤ n) (h30 : n ≤ 30) (ha : a % n = 0) (hb : b % n = 0) : cm a b = true := by
  refine List.any_eq_true.2 ⟨(n - 2).toNat, List.mem_range.2 (by omega), ?_⟩
  have e : (((n - 2).toNat : Nat) : Int) + 2 = n := by omega
  simp only [e, ha, hb, decide_true, Bool.and_self]
theorem cm_false {a b : Int} (h : ∀ n : Int, 2 ≤ n → n ≤ 30 → ¬ (a % n = 0 ∧ b % n = 0)) : cm a b = false := by
  unfold cm
  rw [List.any_eq_false]
  intro i hi
  have := h ((i : Int) + 2) (by omega) (by have := List.mem_range.1 hi; omega)
  simpa using this
/-- The cut of a height above the base. -/
def cutS (kind h a b : Int) : Int := h * a / b + (if kind = 3 ∧ 0 < h * a % b ∨ kind = 2 ∧ b ≤ 2 * (h * a % b) then 1 else 0)
/-- What each kind's rounding makes of a number. -/
def rndS (kind n b : Int) : Int := if kind = 1 then n / b else if kind = 2 then (2 * n + b) / (2 * b) else (n + b - 1) / b
theorem ediv_of {n d q r : Int} (hd : 0 < d) (h : n = d * q + r) (h0 : 0 ≤ r) (h1 : r < d) : n / d = q := by
  rw [h, Int.mul_comm, Int.add_comm, Int.add_mul_ediv_right _ _ (by omega), Int.ediv_eq_zero_of_lt h0 h1]; omega
theorem rnd_cut {kind h a b : Int} (hk : 1 ≤ kind ∧ kind ≤ 3) (hb : 1 ≤ b) : rndS kind (h * a) b = cutS kind h a b := by
  unfold rndS cutS
  generalize h * a = n
  have hd := Int.mul_ediv_add_emod n b
  have h0 := Int.emod_nonneg n (show b ≠ 0 by omega)
  have h1 := Int.emod_lt_of_pos n (show 0 < b by omega)
  generalize n / b = q at *
  generalize n % b = r at *
  have hn : n = b * q + r := hd.symm
  have e1 : 2 * b * q = 2 * (b * q) := by rw [Int.mul_assoc]
  have e2 : 2 * b * (q + 1) = 2 * (b * q) + 2 * b := by rw [Int.mul_add, Int.mul_one, e1]
  have e3 : b * (q + 1) = b * q + b := by rw [Int.mul_add, Int.mul_one]
  rcases (show kind = 1 ∨ kind = 2 ∨ kind = 3 by omega) with hk1 | hk1 | hk1
  · rw [if_pos hk1, if_neg (by omega), Int.add_zero]
  · rw [if_neg (by omega), if_pos hk1]
    by_cases hc : b ≤ 2 * r
    · rw [if_pos (by omega)]; exact ediv_of (r := 2 * r - b) (by omega) (by omega) (by omega) (by omega)
    · rw [if_neg (by omega), Int.add_zero]; exact ediv_of (r := 2 * r + b) (by omega) (by omega) (by omega) (by omega)
  · rw [if_neg (by omega), if_neg (by omega)]
    by_cases hc : 0 < r
    · rw [if_pos (by omega)]; exact ediv_of (r := r - 1) (by omega) (by omega) (by omega) (by omega)
    · rw [if_neg (by omega), Int.add_zero]; exact ediv_of (r := b - 1) (by omega) (by omega) (by omega) (by omega)
def hE (base h : Int) : Int := if base ≤ h ∧ h ≤ 9000 then 0 else 7
def roadE (n : Int) (r : Int × Int) : Int := if (0 ≤ r.1 ∧ r.1 ≤ n - 1) ∧ (0 ≤ r.2 ∧ r.2 ≤ n - 1) then (if r.1 = r.2 then 2 else 0) else 4
/-- The part, index and error of a case. -/
def chk (kind base most : Int) (hs : List Int) (rs : List (Int × Int)) : Int × Int × Int :=
  if ¬ (1 ≤ kind ∧ kind ≤ 3) then (1, 0, 2)
  else if ¬ ((0 ≤ base ∧ base ≤ 9000) ∧ (0 ≤ most ∧ most ≤ 100000)) then (1, 0, 7)
  else if ¬ (1 ≤ hs.length ∧ hs.length ≤ 8) ∨ rs.length > 8 then (1, 0, 3)
  else if (K.fst (hE base) hs).2 ≠ 0 then (2, K.fst (hE base) hs)
  else if (K.fst (roadE hs.length) rs).2 ≠ 0 then (3, K.fst (roadE hs.length) rs)
  else (0, 0, 0)
section
variable {kind base most : Int} {hs : List Int} {rs : List (Int × Int)}
theorem chk_1 (h : ¬ (1 ≤ kind ∧ kind ≤ 3)) : chk kind base most hs rs = (1, 0, 2) := by unfold chk; rw [if_pos h]
theorem chk_2 (h1 : 1 ≤ kind ∧ kind ≤ 3) (h : ¬ ((0 ≤ base ∧ base ≤ 9000) ∧ (0 ≤ most ∧ most ≤ 100000))) : chk kind base most hs rs = (1, 0, 7) := by unfold chk; rw [if_neg (by omega), if_pos h]
theorem chk_3 (h1 : 1 ≤ kind ∧ kind ≤ 3) (h2 : (0 ≤ base ∧ base ≤ 9000) ∧ (0 ≤ most ∧ most ≤ 100000)) (h : ¬ (1 ≤ hs.length ∧ hs.length ≤ 8) ∨ rs.length > 8) : chk kind base most hs rs = (1, 0, 3) := by
  unfold chk; rw [if_neg (by omega), if_neg (by omega), if_pos h]
theorem chk_4 (h1 : 1 ≤ kind ∧ kind ≤ 3) (h2 : (0 ≤ base ∧ base ≤ 9000) ∧ (0 ≤ most ∧ most ≤ 100000)) (h3 : (1 ≤ hs.length ∧ hs.length ≤ 8) ∧ rs.length ≤ 8) (h : (K.fst (hE base) hs).2 ≠ 0) : chk kind base most hs rs = (2, K.fst (hE base) hs) := by
  unfold chk; rw [if_neg (by omega), if_neg (by omega), if_neg (by omega), if_pos h]
theorem chk_5 (h1 : 1 ≤ kind ∧ kind ≤ 3) (h2 : (0 ≤ base ∧ base ≤ 9000) ∧ (0 ≤ most ∧ most ≤ 100000)) (h3 : (1 ≤ hs.length ∧ hs.length ≤ 8) ∧ rs.length ≤ 8) (h4 : (K.fst (hE base) hs).2 = 0) (h : (K.fst (roadE hs.length) rs).2 ≠ 0) : chk kind base most hs rs = (3, K.fst (roadE hs.length) rs) := by
  unfold chk; rw [if_neg (by omega), if_neg (by omega), if_neg (by omega), if_neg (by omega), if_pos h]
theorem chk_0 (h1 : 1 ≤ kind ∧ kind ≤ 3) (h2 : (0 ≤ base ∧ base ≤ 9000) ∧ (0 ≤ most ∧ most ≤ 100000)) (h3 : (1 ≤ hs.length ∧ hs.length ≤ 8) ∧ rs.length ≤ 8) (h4 : (K.fst (hE base) hs).2 = 0) (h : (K.fst (roadE hs.length) rs).2 = 0) : chk kind base most hs rs = (0, 0, 0) := by
  unfold chk; rw [if_neg (by omega), if_neg (by omega), if_neg (by omega), if_neg (by omega), if_neg (by omega)]
end
theorem emod_big {a n : Int} (h1 : 1 ≤ a) (h : a < n) : a % n ≠ 0 := by rw [Int.emod_eq_of_lt (by omega) h]; omega
theorem dvs_found {a b : Int} {k : Nat} (h1 : 1 ≤ a) (h2 : a ≤ 30) (hk : (k : Int) < a) (hall : ∀ j : Nat, j < k → ¬ (a % (a - j) = 0 ∧ b % (a - j) = 0)) (ha : a % (a - k) = 0) (hb : b % (a - k) = 0) : decide (a - (k : Int) > 1) = cm a b := by
  by_cases hd : a - (k : Int) > 1
  · rw [cm_true (by omega) (by omega) ha hb]; simpa using hd
  · rw [cm_false]
    · simpa using hd
    · intro n hn _ ⟨h3, h4⟩
      rcases Int.lt_or_le a n with h5 | h5
      · exact emod_big h1 h5 h3
      · have e : n = a - (((a - n).toNat : Nat) : Int) := by omega
        rw [e] at h3 h4
        exact hall (a - n).toNat (by omega) ⟨h3, h4⟩
theorem dvs_none {a b : Int} (h1 : 1 ≤ a) (_h2 : a ≤ 30) (hall : ∀ j : Nat, (j : Int) < a → ¬ (a % (a - j) = 0 ∧ b % (a - j) = 0)) : decide ((1 : Int) > 1) = cm a b := by
  exfalso
  refine hall (a - 1).toNat (by omega) ?_
  have e : a - (((a - 1).toNat : Nat) : Int) = 1 := by omega
  rw [e]; omega
theorem cm_none {a b : Int} {k : Nat} (hall : ∀ j : Nat, j < k → 2 ≤ j → ¬ (a % (j : Int) = 0 ∧ b % (j : Int) = 0)) (hk : ¬ ((k : Int) ≤ a ∧ (k : Int) ≤ b)) (h1 : 1 ≤ a) (h3 : 1 ≤ b) : cm a b = false := by
  refine cm_false fun n hn _ ⟨h4, h5⟩ => ?_
  rcases Int.lt_or_le n k with h6 | h6
  · have e : n = ((n.toNat : Nat) : Int) := by omega
    rw [e] at h4 h5
    exact hall n.toNat (by omega) (by omega) ⟨h4, h5⟩
  · rcases (show a < n ∨ b < n by omega) with h7 | h7
    · exact emod_big h1 h7 h4
    · exact emod_big h3 h7 h5
end Go.Proofs.Ytafkbioeoklldaa
