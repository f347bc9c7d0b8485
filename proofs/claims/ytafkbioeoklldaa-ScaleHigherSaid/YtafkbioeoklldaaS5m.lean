/-
  Cuts by kinds, and cases that differ a little.
  No conditions: no program is in sight.
-/
import Derived.Test.YtafkbioeoklldaaS5k
set_option linter.unusedSimpArgs false
set_option linter.unusedVariables false
namespace Go.Proofs.Ytafkbioeoklldaa
open Go
theorem cut_k {h a b : Int} (hb : 1 ≤ b) : cutS 1 h a b ≤ cutS 2 h a b ∧ cutS 2 h a b ≤ cutS 3 h a b ∧ cutS 3 h a b ≤ cutS 1 h a b + 1 := by
  unfold cutS
  generalize h * a / b = q
  generalize h * a % b = r
  rw [if_neg (show ¬ ((1 : Int) = 3 ∧ 0 < r ∨ (1 : Int) = 2 ∧ b ≤ 2 * r) by omega)]
  refine ⟨?_, ?_, ?_⟩ <;> split <;> (try split) <;> omega
theorem Good.kind {kind base most : Int} {hs : List Int} {rs : List (Int × Int)} (g : Good kind base most hs rs) {k : Int} (hk : 1 ≤ k ∧ k ≤ 3) : Good k base most hs rs := ⟨hk, g.b, g.m, g.n, g.r, g.h, g.rd⟩
section
variable {kind base most : Int} {hs : List Int} {rs : List (Int × Int)} {u v u2 v2 : Int} {k m : Nat}
theorem cutsR_at (g : Good kind base most hs rs) (h : scE u v = 0) (hk : k < hs.length) : (cutsR kind base most hs rs u v).getD k default = ct kind base u v (hs.getD k default) := by rw [cutsR_ok g h]; exact cuts_at hk
theorem cutsR_ln (g : Good kind base most hs rs) (h : scE u v = 0) : (cutsR kind base most hs rs u v).length = hs.length := by rw [cutsR_ok g h, cuts_len]
theorem hi_0 (g : Good kind base most hs rs) (h : scE u v = 0) (hk : k < hs.length) : ¬ (cutsR kind base most hs rs u v).getD k default < 0 := by
  rw [cutsR_at g h hk]
  have := g.at hk
  have := g.b
  have := cutS_bd (kind := kind) (h := hs.getD k default - base) (by omega) (by omega) (scE_parts h)
  unfold ct; omega
theorem hi_less (g : Good kind base most hs rs) (h : scE u v = 0) (h2 : scE u2 v2 = 0) (hl : u * v2 < u2 * v) (hk : k < hs.length) : ¬ (cutsR kind base most hs rs u v).getD k default > (cutsR kind base most hs rs u2 v2).getD k default := by
  have hp := scE_parts h
  have hp2 := scE_parts h2
  have := g.at hk
  rw [cutsR_at g h hk, cutsR_at g h2 hk]
  have := cut_mono (kind := kind) (h := hs.getD k default - base) (h' := hs.getD k default - base) (a := u) (b := v) (c := u2) (d := v2) g.k (by omega) (Int.le_refl _) (by omega) (by omega) (by omega) (Int.le_of_lt hl)
  unfold ct; omega
theorem hi_kind (g : Good kind base most hs rs) (h : scE u v = 0) (hk : k < hs.length) :
    ¬ (cutsR 1 base most hs rs u v).getD k default > (cutsR 2 base most hs rs u v).getD k default ∧ ¬ (cutsR 2 base most hs rs u v).getD k default > (cutsR 3 base most hs rs u v).getD k default ∧
    ¬ (cutsR 3 base most hs rs u v).getD k default > (cutsR 1 base most hs rs u v).getD k default + 1 ∧ (cutsR 1 base most hs rs u v).getD k default ≤ 270001 ∧ 0 ≤ (cutsR 1 base most hs rs u v).getD k default := by
  have hp := scE_parts h
  have h0 := g.at hk
  have h1 := g.b
  have hb := cutS_bd (kind := 1) (h := hs.getD k default - base) (by omega) (by omega) (scE_parts h)
  rw [cutsR_at (g.kind (k := 1) (by omega)) h hk, cutsR_at (g.kind (k := 2) (by omega)) h hk, cutsR_at (g.kind (k := 3) (by omega)) h hk]
  have := cut_k (h := hs.getD k default - base) (a := u) (b := v) (by omega)
  unfold ct; omega
theorem hi_pt (g : Good kind base most hs rs) (h : scE u v = 0) (hk : k < hs.length) (hm : m < hs.length) (hle : hs.getD k default ≤ hs.getD m default) : ¬ (cutsR kind base most hs rs u v).getD k default > (cutsR kind base most hs rs u v).getD m default := by
  have hp := scE_parts h
  have h0 := g.at hk
  rw [cutsR_at g h hk, cutsR_at g h hm]
  have := cut_mono (kind := kind) (h := hs.getD k default - base) (h' := hs.getD m default - base) (a := u) (b := v) (c := u) (d := v) g.k (by omega) (by omega) (by omega) (by omega) (by omega) (Int.le_refl _)
  unfold ct; omega
end
end Go.Proofs.Ytafkbioeoklldaa
