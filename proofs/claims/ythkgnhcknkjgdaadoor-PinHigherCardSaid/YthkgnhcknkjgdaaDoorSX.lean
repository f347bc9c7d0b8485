/-
  Plain lemmas and plain functions, several texts joined.
  Conditions stand in each theorem.
-/
import Derived.Test.YthkgnhcknkjgdaaDoorSB
set_option linter.unusedSimpArgs false
set_option linter.unusedVariables false
/-
  The other model's parts, one after the other.
  No conditions but those in the theorems.
-/
namespace Go.Proofs.YthkgnhcknkjgdaaDoor
open Go
theorem mulb {a b : Int} (ha : 0 ≤ a ∧ a ≤ 8) (hb : 0 ≤ b ∧ b ≤ 8) : 0 ≤ a * b ∧ a * b ≤ 64 :=
  ⟨Int.mul_nonneg ha.1 hb.1, by have := Int.mul_le_mul ha.2 hb.2 hb.1 (by decide); omega⟩
def mPL (m : Mod) (t : Bool) (k : Nat) : List PinT := (m.ps.take k).map (mirP m.W t)
def mSL (m : Mod) (t : Bool) (k : Nat) : List StT := (m.ss.take k).map (mirS m.W t)
def hSL (m : Mod) (c : Int) (k : Nat) : List StT := (m.ss.take k).map (upS c)
def hHL (m : Mod) (c : Int) (k : Nat) : List Int := (m.hs.take k).map (· + c)
section
variable {m : Mod} {t : Bool} {k : Nat} {c : Int}
theorem take_map {E F : Type} [Inhabited E] {f : E → F} {xs : List E} {k : Nat} (h : k < xs.length) : (xs.take (k + 1)).map f = (xs.take k).map f ++ [f (xs.getD k default)] := by
  rw [List.take_add_one, List.map_append, List.getD_eq_getElem?_getD, List.getElem?_eq_getElem h]; rfl
theorem mPL_s (h : k < m.ps.length) : mPL m t (k + 1) = mPL m t k ++ [mirP m.W t (m.ps.getD k default)] := take_map h
theorem mSL_s (h : k < m.ss.length) : mSL m t (k + 1) = mSL m t k ++ [mirS m.W t (m.ss.getD k default)] := take_map h
theorem hSL_s (h : k < m.ss.length) : hSL m c (k + 1) = hSL m c k ++ [upS c (m.ss.getD k default)] := take_map h
theorem hHL_s (h : k < m.hs.length) : hHL m c (k + 1) = hHL m c k ++ [m.hs.getD k default + c] := take_map h
theorem mPL_n : mPL m t m.ps.length = (mirM m t).ps := by unfold mPL; rw [List.take_length]; rfl
theorem mSL_n : mSL m t m.ss.length = (mirM m t).ss := by unfold mSL; rw [List.take_length]; rfl
theorem hSL_n : hSL m c m.ss.length = (highM m c).ss := by unfold hSL; rw [List.take_length]; rfl
theorem hHL_n : hHL m c m.hs.length = (highM m c).hs := by unfold hHL; rw [List.take_length]; rfl
theorem mPL_len : (mPL m t k).length ≤ m.ps.length := by unfold mPL; rw [List.length_map, List.length_take]; omega
theorem mSL_len : (mSL m t k).length ≤ m.ss.length := by unfold mSL; rw [List.length_map, List.length_take]; omega
theorem hSL_len : (hSL m c k).length ≤ m.ss.length := by unfold hSL; rw [List.length_map, List.length_take]; omega
theorem hHL_len : (hHL m c k).length ≤ m.hs.length := by unfold hHL; rw [List.length_map, List.length_take]; omega
theorem mir_n : (mirM m t).ps.length = m.ps.length := by show (m.ps.map _).length = _; rw [List.length_map]
theorem mir_k : (mirM m t).ss.length = m.ss.length := by show (m.ss.map _).length = _; rw [List.length_map]
theorem mir_l : (mirM m t).hs.length = (mD m t).toNat * (mW m t).toNat := mirH_len
theorem high_k : (highM m c).ss.length = m.ss.length := by show (m.ss.map _).length = _; rw [List.length_map]
theorem high_l : (highM m c).hs.length = m.hs.length := by show (m.hs.map _).length = _; rw [List.length_map]
/-- The height that is taken: where it lies. -/
theorem mAt_ok (g : Good m) {y x w : Nat} (hw : (w : Int) = mW m t) (hx : x < w) (hy : (y : Int) < mD m t) :
    (mAt m.W t w (y * w + x) = if t then (x : Int) * m.W + (y : Int) else (y : Int) * m.W + m.W - 1 - (x : Int)) ∧ 0 ≤ mAt m.W t w (y * w + x) ∧ (mAt m.W t w (y * w + x)).toNat < m.hs.length ∧ (0 ≤ (y : Int) * m.W ∧ (y : Int) * m.W ≤ 64) ∧ (0 ≤ (x : Int) * m.W ∧ (x : Int) * m.W ≤ 64) := by
  obtain ⟨h1, h2⟩ := div_fld (w := w) (a := y) (b := x) hx
  have hgw := g.w
  have hgd := g.d
  have hgl := g.l
  have hlt : ∀ {a b : Int}, 0 ≤ a → a < b → a * m.W + m.W ≤ b * m.W := fun {a b} _ hab => by
    have := Int.mul_le_mul_of_nonneg_right (show a + 1 ≤ b by omega) (show 0 ≤ m.W by omega)
    rw [Int.add_mul] at this; omega
  have hcm : m.W * m.D = m.D * m.W := Int.mul_comm _ _
  unfold mW at hw
  unfold mD at hy
  have hm1 := mulb (a := (y : Int)) (b := m.W) (by cases t <;> simp at hw hy <;> omega) (by omega)
  have hm2 := mulb (a := (x : Int)) (b := m.W) (by cases t <;> simp at hw hy <;> omega) (by omega)
  unfold mAt
  rw [h1, h2]
  cases t
  · simp only [Bool.false_eq_true, if_false] at hw hy ⊢
    have := hlt (a := (y : Int)) (b := m.D) (by omega) hy
    exact ⟨by first | trivial | omega, by omega, by omega, hm1, hm2⟩
  · simp only [if_true] at hw hy ⊢
    have := hlt (a := (x : Int)) (b := m.D) (by omega) (by omega)
    exact ⟨by first | trivial | omega, by omega, by omega, hm1, hm2⟩
end
end Go.Proofs.YthkgnhcknkjgdaaDoor
