/-
  Scales without common divisors.
  No conditions: no program is in sight.
-/
import Derived.Test.YtafkbioeoklldaaS5e
set_option linter.unusedSimpArgs false
set_option linter.unusedVariables false
namespace Go.Proofs.Ytafkbioeoklldaa
open Go
theorem div_step {u v n : Int} (hp : Parts u v) (hn : 2 ≤ n) (hu : u % n = 0) (hv : v % n = 0) (hall : ∀ m, n < m → m ≤ 30 → ¬ (u % m = 0 ∧ v % m = 0)) :
    Parts (u / n) (v / n) ∧ ∀ m, n - 1 < m → m ≤ 30 → ¬ (u / n % m = 0 ∧ v / n % m = 0) := by
  obtain ⟨a, rfl⟩ := Int.dvd_of_emod_eq_zero hu
  obtain ⟨b, rfl⟩ := Int.dvd_of_emod_eq_zero hv
  rw [Int.mul_ediv_cancel_left _ (by omega), Int.mul_ediv_cancel_left _ (by omega)]
  have ha : 1 ≤ a := by
    rcases Int.lt_or_le a 1 with h | h
    · have : n * a ≤ 0 := Int.mul_nonpos_of_nonneg_of_nonpos (by omega) (by omega)
      omega
    · exact h
  have hb : 1 ≤ b := by
    rcases Int.lt_or_le b 1 with h | h
    · have : n * b ≤ 0 := Int.mul_nonpos_of_nonneg_of_nonpos (by omega) (by omega)
      omega
    · exact h
  have ha2 : a ≤ n * a := by have := Int.mul_le_mul_of_nonneg_right (show 1 ≤ n by omega) (show 0 ≤ a by omega); omega
  have hb2 : b ≤ n * b := by have := Int.mul_le_mul_of_nonneg_right (show 1 ≤ n by omega) (show 0 ≤ b by omega); omega
  refine ⟨⟨ha, by omega, hb, by omega⟩, fun m h1 h2 ⟨h3, h4⟩ => ?_⟩
  obtain ⟨c, rfl⟩ := Int.dvd_of_emod_eq_zero h3
  obtain ⟨e, rfl⟩ := Int.dvd_of_emod_eq_zero h4
  have hc : 1 ≤ c := by
    rcases Int.lt_or_le c 1 with h | h
    · have : m * c ≤ 0 := Int.mul_nonpos_of_nonneg_of_nonpos (by omega) (by omega)
      omega
    · exact h
  have hnm : n < n * m := by
    have := Int.mul_lt_mul_of_pos_left (show 1 < m by omega) (show 0 < n by omega)
    omega
  have e1 : n * (m * c) = n * m * c := (Int.mul_assoc n m c).symm
  have e2 : n * (m * e) = n * m * e := (Int.mul_assoc n m e).symm
  have hle : n * m ≤ n * m * c := by
    have := Int.mul_le_mul_of_nonneg_left hc (show 0 ≤ n * m by omega)
    omega
  refine hall (n * m) hnm (by omega) ⟨by rw [e1]; exact Int.mul_emod_right _ _, by rw [e2]; exact Int.mul_emod_right _ _⟩
theorem scE_of {u v : Int} (hp : Parts u v) (hall : ∀ m, 1 < m → m ≤ 30 → ¬ (u % m = 0 ∧ v % m = 0)) : scE u v = 0 := by
  unfold scE
  rw [if_pos hp, cm_false (fun n h1 h2 => hall n (by omega) h2)]
  rfl
end Go.Proofs.Ytafkbioeoklldaa
