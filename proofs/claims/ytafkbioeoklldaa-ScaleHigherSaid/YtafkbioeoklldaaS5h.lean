/-
  What Tell computes, as plain functions.
  No conditions: no program is in sight.
-/
import Derived.Test.YtafkbioeoklldaaS5g
set_option linter.unusedSimpArgs false
set_option linter.unusedVariables false
namespace Go.Proofs.Ytafkbioeoklldaa
open Go
section
variable {kind base most : Int} {hs : List Int} {rs : List (Int × Int)} {l : List (Int × Int)} {n s : Nat} {F : List Int × Nat}
theorem tellF_skip1 (hF : F = tellF kind base hs l n s) (h : popN s > F.2) : F = tellF kind base hs l n (s + 1) := by
  subst hF; rw [tellF, if_pos (.inl h)]
theorem tellF_skip2 (hF : F = tellF kind base hs l n s) (h : apB kind base hs l s = false) : F = tellF kind base hs l n (s + 1) := by
  subst hF; rw [tellF, if_pos (.inr h)]
theorem tellF_t (hF : F = tellF kind base hs l n s) (h1 : ¬ popN s > F.2) (h2 : apB kind base hs l s = true) (h3 : (ptsS n s).length < F.2 ∨ cmpL (ptsS n s) F.1 < 0) : (ptsS n s, (ptsS n s).length) = tellF kind base hs l n (s + 1) := by
  subst hF; rw [tellF, if_neg (by rw [h2]; simp; omega), if_pos h3]
theorem tellF_f (hF : F = tellF kind base hs l n s) (h1 : ¬ popN s > F.2) (h2 : apB kind base hs l s = true) (h3 : ¬ ((ptsS n s).length < F.2 ∨ cmpL (ptsS n s) F.1 < 0)) : F = tellF kind base hs l n (s + 1) := by
  subst hF; rw [tellF, if_neg (by rw [h2]; simp; omega), if_neg h3]
theorem pts_len : (ptsS n s).length ≤ n := selN_len
theorem tellF_len : ∀ s, (tellF kind base hs l n s).1.length ≤ n ∧ (tellF kind base hs l n s).2 ≤ n + 1
  | 0 => by simp [tellF]
  | s + 1 => by
    have ih := tellF_len s
    unfold tellF
    split
    · exact ih
    · split
      · have := @pts_len n s
        exact ⟨this, by simp only; omega⟩
      · exact ih
end
section
variable (kind base most : Int) (hs : List Int) (rs : List (Int × Int)) (l : List (Int × Int))
def tellE : Int :=
  if (chk kind base most hs rs).2.2 ≠ 0 then (chk kind base most hs rs).2.2
  else if l.length > 6 then 3
  else if scsE l ≠ 0 then scsE l
  else if apB kind base hs l (2 ^ hs.length - 1) = false then 5 else 0
def tellR : List Int := if tellE kind base most hs rs l = 0 then (tellF kind base hs l hs.length (2 ^ hs.length)).1 else []
end
section
variable {kind base most : Int} {hs : List Int} {rs : List (Int × Int)} {l : List (Int × Int)}
theorem te_chk (h : (chk kind base most hs rs).2.2 ≠ 0) : tellE kind base most hs rs l = (chk kind base most hs rs).2.2 := by unfold tellE; rw [if_pos h]
theorem te_long (h : (chk kind base most hs rs).2.2 = 0) (h6 : l.length > 6) : tellE kind base most hs rs l = 3 := by unfold tellE; rw [if_neg (by omega), if_pos h6]
theorem te_sc (h : (chk kind base most hs rs).2.2 = 0) (h6 : ¬ l.length > 6) (h1 : scsE l ≠ 0) : tellE kind base most hs rs l = scsE l := by unfold tellE; rw [if_neg (by omega), if_neg h6, if_pos h1]
theorem te_tw (h : (chk kind base most hs rs).2.2 = 0) (h6 : ¬ l.length > 6) (h1 : scsE l = 0) (h2 : apB kind base hs l (2 ^ hs.length - 1) = false) : tellE kind base most hs rs l = 5 := by unfold tellE; rw [if_neg (by omega), if_neg h6, if_neg (by omega), if_pos h2]
theorem te_ok (h : (chk kind base most hs rs).2.2 = 0) (h6 : ¬ l.length > 6) (h1 : scsE l = 0) (h2 : apB kind base hs l (2 ^ hs.length - 1) = true) : tellE kind base most hs rs l = 0 := by unfold tellE; rw [if_neg (by omega), if_neg h6, if_neg (by omega), if_neg (by rw [h2]; decide)]
theorem tr_bad (h : tellE kind base most hs rs l ≠ 0) : tellR kind base most hs rs l = [] := by unfold tellR; rw [if_neg h]
theorem scsE_mem : ∀ {l : List (Int × Int)}, scsE l = 0 → ∀ x ∈ l, scE x.1 x.2 = 0
  | [], _, x, hx => by cases hx
  | a :: l, h, x, hx => by
    unfold scsE at h
    split at h
    · rename_i h1; exact absurd h h1
    · rcases List.mem_cons.1 hx with rfl | hx
      · omega
      · exact scsE_mem h x hx
theorem scsE_parts {l : List (Int × Int)} (h : scsE l = 0) : ∀ x ∈ l, Parts x.1 x.2 := fun x hx => scE_parts (scsE_mem h x hx)
end
end Go.Proofs.Ytafkbioeoklldaa
