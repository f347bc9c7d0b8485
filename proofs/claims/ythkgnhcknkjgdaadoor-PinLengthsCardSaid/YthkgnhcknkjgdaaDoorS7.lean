/-
  Plain lemmas and plain functions, several texts joined.
  Conditions stand in each theorem.
-/
import Derived.Test.YthkgnhcknkjgdaaDoorS3
import Derived.Test.YthkgnhcknkjgdaaDoorS5
set_option linter.unusedSimpArgs false
set_option linter.unusedVariables false
/-
  How long lists are that functions return.
  No conditions but those in the theorems.
-/
namespace Go.Proofs.YthkgnhcknkjgdaaDoor
open Go
theorem hid_len6 {m : Mod} {s eye p : Int} : (hidL m s eye p).length ≤ 1000000 := by
  unfold hidL
  split
  · rename_i h
    have ha : askE m s p = 0 := by
      unfold hidE at h; split at h
      · rename_i h1; exact absurd h h1
      · rename_i h1; exact Decidable.not_not.1 h1
    obtain ⟨hc, hs, hp⟩ := ask_0 ha
    obtain ⟨s, rfl⟩ := Int.eq_ofNat_of_zero_le hs.1
    obtain ⟨p, rfl⟩ := Int.eq_ofNat_of_zero_le hp.1
    have g := chk_good hc
    have hst := g.st (s := s) (by omega)
    have hw : Way m (m.ss.getD s default).x (m.ss.getD s default).y p := ⟨g, by omega, by omega, by omega⟩
    have := hides_len (l := ownS m) (eye := eye) hw
    exact Nat.le_trans this (by decide)
  · simp
theorem seenE_0 {m : Mod} {s : Int} (h : seenE m s = 0) : (chk m).2.2 = 0 := by
  unfold seenE at h; split at h
  · rename_i h1; exact absurd h h1
  · rename_i h1; exact Decidable.not_not.1 h1
theorem sure_len6 {m : Mod} {s : Int} : (sureL m s).length ≤ 1000000 := by
  unfold sureL
  split
  · rename_i h
    have := (chk_good (seenE_0 h)).n
    exact Nat.le_trans seenL_len (by omega)
  · simp
theorem may_len6 {m : Mod} {s : Int} : (mayL m s).length ≤ 1000000 := by
  unfold mayL
  split
  · rename_i h
    have := (chk_good (seenE_0 h)).n
    exact Nat.le_trans seenL_len (by omega)
  · simp
theorem lng_len6 {m : Mod} : (lngL m).length ≤ 1000000 := by
  unfold lngL
  split
  · have := @rounds_len m
    rw [List.length_take]; omega
  · simp
end Go.Proofs.YthkgnhcknkjgdaaDoor
