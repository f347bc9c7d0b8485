/-
  Plain lemmas and plain functions, several texts joined.
  Conditions stand in each theorem.
-/
import Derived.Test.YtoemnobfnnjopaaDoorS5
set_option linter.unusedSimpArgs false
set_option linter.unusedVariables false
/-
  The examples of the document, worked out.
  No conditions but those in the theorems.
-/
namespace Go.Proofs.YtoemnobfnnjopaaDoor
open Go
def insI (x : Int) : List Int → List Int
  | [] => [x]
  | y :: ys => if x ≤ y then x :: y :: ys else y :: insI x ys
def isrt : List Int → List Int
  | [] => []
  | x :: xs => insI x (isrt xs)
theorem ins_perm (x : Int) : ∀ l, (insI x l).Perm (x :: l)
  | [] => List.Perm.refl _
  | y :: ys => by
    unfold insI
    split
    · exact List.Perm.refl _
    · exact ((ins_perm x ys).cons y).trans (List.Perm.swap _ _ _)
theorem isrt_perm : ∀ l, (isrt l).Perm l
  | [] => List.Perm.refl _
  | x :: xs => (ins_perm x _).trans ((isrt_perm xs).cons x)
theorem ins_pw (x : Int) : ∀ {l : List Int}, l.Pairwise (· ≤ ·) → (insI x l).Pairwise (· ≤ ·)
  | [], _ => by simp [insI]
  | y :: ys, h => by
    obtain ⟨h1, h2⟩ := List.pairwise_cons.1 h
    unfold insI
    split
    · rename_i hx
      refine List.pairwise_cons.2 ⟨fun z hz => ?_, h⟩
      rcases List.mem_cons.1 hz with rfl | hz
      · exact hx
      · have := h1 z hz; omega
    · rename_i hx
      refine List.pairwise_cons.2 ⟨fun z hz => ?_, ins_pw x h2⟩
      have := (ins_perm x ys).mem_iff.1 hz
      rcases List.mem_cons.1 this with rfl | hz
      · omega
      · exact h1 z hz
theorem isrt_pw : ∀ l, (isrt l).Pairwise (· ≤ ·)
  | [] => List.Pairwise.nil
  | x :: xs => ins_pw x (isrt_pw xs)
theorem sort_pw {l : List Int} : (sortS l).Pairwise (· ≤ ·) := by
  have h := List.pairwise_mergeSort (le := fun x y : Int => decide (x ≤ y)) (fun a b c h1 h2 => by simp at *; omega) (fun a b => by simp; omega) l
  exact h.imp (fun h => by simpa using h)
theorem sort_is {l : List Int} : sortS l = isrt l := List.Perm.eq_of_pairwise (le := (· ≤ ·)) (fun a b _ _ h1 h2 => by omega) sort_pw (isrt_pw l) (sort_perm.trans (isrt_perm l).symm)
/-- The heights, with the levels given. -/
def hgtG (r : List RvT) (lv : List Int) (ch : Int) : Nat → List Int
  | 0 => []
  | i + 1 => hgtG r lv ch i ++ [(lv.find? fun l => decide (askS r lv (hgtG r lv ch i ++ [l + DM r i]) = ch)).getD (lv.getD (lv.length - 1) default) + DM r i]
theorem hgt_lv {r : List RvT} {lv : List Int} (h : levS r = lv) (ch : Int) : ∀ i, hgtF r ch i = hgtG r lv ch i
  | 0 => rfl
  | i + 1 => by rw [hgtF, hgtG, hgt_lv h ch i, h]
def rivS (w : Int) : List RvT := [⟨⟨#[115, 101, 97]⟩, -1, 0, 0⟩, ⟨⟨#[102, 111, 114, 100]⟩, 0, 5, 40⟩, ⟨⟨#[109, 105, 108, 108]⟩, 1, 10, 45⟩, ⟨⟨#[115, 112, 114, 105, 110, 103]⟩, 2, 10, 70⟩, ⟨⟨#[119, 101, 108, 108]⟩, 1, 0, w⟩]
def twoS : List RvT := [⟨⟨#[97]⟩, 1, 0, 0⟩, ⟨⟨#[98]⟩, 0, 0, 0⟩]
theorem ex_chk : (chk (rivS 38)).2.2 = 0 := by decide +kernel
theorem ex_chk2 : (chk (rivS 20)).2.2 = 0 := by decide +kernel
theorem ex_two : chk twoS = (3, 0, 8) := by decide +kernel
theorem ex_bad : badL (rivS 38) = [2, 4] := by decide +kernel
theorem ex_pou : pouE (rivS 38) 3 = 0 ∧ pouE (rivS 38) 1 = 0 := by decide +kernel
theorem ex_poured : pouL (rivS 38) 3 = [3, 2] := by decide +kernel
theorem ex_poured2 : pouL (rivS 38) 1 = [1, 0] := by decide +kernel
theorem ex_fill : fillE (rivS 38) = 0 ∧ fillL (rivS 38) = [0, 40, 50, 70, 40] := by decide +kernel
theorem ex_carve : carveE (rivS 38) = 0 ∧ carveL (rivS 38) = [0, 35, 45, 70, 38] := by decide +kernel
theorem ex_few : fewL (rivS 38) = [1] := by decide +kernel
theorem ex_few2 : fewL (rivS 20) = [1] := by decide +kernel
theorem ex_must : mustL (rivS 38) = [1] ∧ mayL (rivS 38) = [1] := by decide +kernel
theorem ex_prf : prfL (rivS 38) = [0, 1, 1, 2, 3] := by decide +kernel
theorem ex_prf2 : prfL (rivS 20) = [0, 1, 1, 2, 3] := by decide +kernel
def lvA : List Int := [0, 0, 0, 0, 0, 0, 30, 33, 35, 45, 8975, 8985, 8995, 8995, 9000]
def lvB : List Int := [0, 0, 0, 0, 0, 0, 15, 30, 35, 45, 8975, 8985, 8995, 8995, 9000]
theorem lv_A : levS (rivS 38) = lvA := by unfold levS; rw [sort_is]; decide +kernel
theorem lv_B : levS (rivS 20) = lvB := by unfold levS; rw [sort_is]; decide +kernel
theorem ask_A : askS (rivS 38) lvA [] = 5 := by decide +kernel
theorem ask_B : askS (rivS 20) lvB [] = 20 := by decide +kernel
theorem hgt_A : hgtG (rivS 38) lvA 5 5 = [0, 35, 45, 70, 38] := by decide +kernel
theorem hgt_B : hgtG (rivS 20) lvB 20 5 = [0, 20, 45, 70, 20] := by decide +kernel
theorem ex_lst : lstC (rivS 38) = 5 ∧ lstL (rivS 38) = [0, 35, 45, 70, 38] := by
  have hc : chgS (rivS 38) = 5 := by unfold chgS; rw [lv_A]; exact ask_A
  have h0 : ¬ (chk (rivS 38)).2.2 ≠ 0 := by rw [ex_chk]; decide
  refine ⟨?_, ?_⟩
  · unfold lstC; rw [if_neg h0, hc]
  · unfold lstL; rw [if_neg h0, hc, hgt_lv lv_A]; exact hgt_A
theorem ex_lst2 : lstC (rivS 20) = 20 ∧ lstL (rivS 20) = [0, 20, 45, 70, 20] := by
  have hc : chgS (rivS 20) = 20 := by unfold chgS; rw [lv_B]; exact ask_B
  have h0 : ¬ (chk (rivS 20)).2.2 ≠ 0 := by rw [ex_chk2]; decide
  refine ⟨?_, ?_⟩
  · unfold lstC; rw [if_neg h0, hc]
  · unfold lstL; rw [if_neg h0, hc, hgt_lv lv_B]; exact hgt_B
end Go.Proofs.YtoemnobfnnjopaaDoor
