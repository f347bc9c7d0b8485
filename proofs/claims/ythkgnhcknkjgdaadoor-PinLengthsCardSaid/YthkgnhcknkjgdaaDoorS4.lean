/-
  Plain lemmas and plain functions, several texts joined.
  Conditions stand in each theorem.
-/
import Derived.Test.YthkgnhcknkjgdaaDoorS2
set_option linter.unusedSimpArgs false
set_option linter.unusedVariables false
/-
  The smallest sets that do: the program's way and the reference's.
  No conditions but those in the theorems.
-/
namespace Go.Proofs.YthkgnhcknkjgdaaDoor
open Go
/-- The numbers of a set. -/
def ptsS (n s : Nat) : List Int := selN (fun i => s.testBit i) n
theorem pts_len {n s : Nat} : (ptsS n s).length ≤ n := selN_len
def popN (s : Nat) : Nat := ((List.range 8).filter fun i => s.testBit i).length
/-- The order of lists. -/
def cmpL : List Int → List Int → Int
  | [], [] => 0
  | [], _ :: _ => -1
  | _ :: _, [] => 1
  | a :: x, b :: y => if a < b then -1 else if a > b then 1 else cmpL x y
def cmpS (a b : Int) : Int := if a < b then -1 else if a > b then 1 else 0
theorem cmp0 {a b : Int} (h : cmpS a b = 0) : a = b := by unfold cmpS at h; split at h <;> (try split at h) <;> omega
theorem cmpL_cons {a b : Int} {x y : List Int} : cmpL (a :: x) (b :: y) = if cmpS a b ≠ 0 then cmpS a b else cmpL x y := by
  unfold cmpS; rw [cmpL]
  split
  · simp
  · split <;> simp
theorem cmpL_drop : ∀ {k : Nat} {xs ys : List Int}, (∀ j, j < k → xs.getD j default = ys.getD j default) → k ≤ xs.length → k ≤ ys.length → cmpL xs ys = cmpL (xs.drop k) (ys.drop k)
  | 0, _, _, _, _, _ => rfl
  | k + 1, [], _, _, h, _ => by simp at h
  | k + 1, _ :: _, [], _, _, h => by simp at h
  | k + 1, x :: xs, y :: ys, hall, h1, h2 => by
    have h0 := hall 0 (by omega)
    simp at h0
    rw [cmpL_cons, if_neg (by subst h0; simp [cmpS]), List.drop_succ_cons, List.drop_succ_cons]
    exact cmpL_drop (fun j hj => by have := hall (j + 1) (by omega); simpa using this) (by simpa using h1) (by simpa using h2)
section
variable {k : Nat} {xs ys : List Int}
theorem cmpL_long (hall : ∀ j, j < k → xs.getD j default = ys.getD j default) (h1 : k < xs.length) (h2 : k = ys.length) : cmpL xs ys = 1 := by
  rw [cmpL_drop hall (by omega) (by omega), show ys.drop k = [] from List.drop_of_length_le (by omega), List.drop_eq_getElem_cons h1]; rfl
theorem cmpL_diff (hall : ∀ j, j < k → xs.getD j default = ys.getD j default) (h1 : k < xs.length) (h2 : k < ys.length) (hne : cmpS (xs.getD k default) (ys.getD k default) ≠ 0) : cmpL xs ys = cmpS (xs.getD k default) (ys.getD k default) := by
  rw [cmpL_drop hall (by omega) (by omega), List.drop_eq_getElem_cons h1, List.drop_eq_getElem_cons h2, cmpL_cons]
  simp only [List.getD_eq_getElem?_getD, List.getElem?_eq_getElem h1, List.getElem?_eq_getElem h2, Option.getD_some] at hne ⊢
  rw [if_pos hne]
theorem cmpL_short (hall : ∀ j, j < k → xs.getD j default = ys.getD j default) (h1 : k = xs.length) (h2 : k < ys.length) : cmpL xs ys = -1 := by
  rw [cmpL_drop hall (by omega) (by omega), show xs.drop k = [] from List.drop_of_length_le (by omega), List.drop_eq_getElem_cons h2]; rfl
theorem cmpL_same (hall : ∀ j, j < k → xs.getD j default = ys.getD j default) (h1 : k = xs.length) (h2 : k = ys.length) : cmpL xs ys = 0 := by
  rw [cmpL_drop hall (by omega) (by omega), show xs.drop k = [] from List.drop_of_length_le (by omega), show ys.drop k = [] from List.drop_of_length_le (by omega)]; rfl
end
/-- Where the next number of an ascending list may begin. -/
def fromS (b : List Int) : Int := if b.length = 0 then 0 else b.getD (b.length - 1) default + 1
/-- All ascending lists of so many further numbers below n, in order. -/
def listsS : Nat → List Int → Int → List (List Int)
  | 0, b, _ => [b]
  | m + 1, b, n => (List.range (n - fromS b).toNat).flatMap fun (j : Nat) => listsS m (b ++ [fromS b + (j : Int)]) n
/-- All lists of points, the shorter ones first. -/
def lstA (n k : Nat) : List (List Int) := (List.range k).flatMap fun m => listsS m [] n
def ltL (a b : List Int) : Prop := a.length < b.length ∨ a.length = b.length ∧ cmpL a b < 0
instance (a b : List Int) : Decidable (ltL a b) := inferInstanceAs (Decidable (_ ∨ _))
theorem cmpL_anti : ∀ a b : List Int, cmpL b a = - cmpL a b
  | [], [] => rfl
  | [], _ :: _ => rfl
  | _ :: _, [] => rfl
  | a :: x, b :: y => by
    have ih := cmpL_anti x y
    rw [cmpL, cmpL]
    split <;> split <;> (try split) <;> omega
theorem cmpL_zero : ∀ {a b : List Int}, cmpL a b = 0 → a = b
  | [], [], _ => rfl
  | [], _ :: _, h => by simp [cmpL] at h
  | _ :: _, [], h => by simp [cmpL] at h
  | a :: x, b :: y, h => by
    rw [cmpL] at h
    split at h
    · omega
    · split at h
      · omega
      · rw [cmpL_zero h, show a = b by omega]
theorem cmpL_tr : ∀ {a b c : List Int}, cmpL a b < 0 → cmpL b c < 0 → cmpL a c < 0
  | [], [], _, h, _ => by simp [cmpL] at h
  | [], _ :: _, [], _, h => by simp [cmpL] at h
  | [], _ :: _, _ :: _, _, _ => by simp [cmpL]
  | _ :: _, [], _, h, _ => by simp [cmpL] at h
  | _ :: _, _ :: _, [], _, h => by simp [cmpL] at h
  | a :: x, b :: y, c :: z, h1, h2 => by
    rw [cmpL] at h1 h2 ⊢
    by_cases hac : a < c
    · rw [if_pos hac]; omega
    · by_cases hab : a < b
      · rw [if_pos hab] at h1
        rw [if_neg (by omega)] at h2
        rw [if_pos (by omega)] at h2
        omega
      · rw [if_neg hab] at h1
        by_cases hba : a > b
        · rw [if_pos hba] at h1; omega
        · rw [if_neg hba] at h1
          rw [if_neg (by omega)] at h2
          by_cases hbc : b > c
          · rw [if_pos hbc] at h2; omega
          · rw [if_neg hbc] at h2
            rw [if_neg hac, if_neg (by omega)]
            exact cmpL_tr h1 h2
theorem ltL_tr {a b c : List Int} (h1 : ltL a b) (h2 : ltL b c) : ltL a c := by
  unfold ltL at *
  rcases h1 with h1 | ⟨h1, h3⟩ <;> rcases h2 with h2 | ⟨h2, h4⟩
  · left; omega
  · left; omega
  · left; omega
  · right; exact ⟨by omega, cmpL_tr h3 h4⟩
theorem ltL_irr {a : List Int} : ¬ ltL a a := fun h => by
  have := cmpL_anti a a
  unfold ltL at h
  omega
def chainL : List (List Int) → Bool
  | [] => true
  | a :: l => (match l with | [] => true | b :: _ => decide (ltL a b)) && chainL l
theorem chainL_pw : ∀ {l : List (List Int)}, chainL l = true → l.Pairwise ltL
  | [], _ => .nil
  | [a], _ => by simp
  | a :: b :: l, h => by
    simp only [chainL, Bool.and_eq_true, decide_eq_true_eq] at h
    have ih := chainL_pw (l := b :: l) (by simp only [chainL, Bool.and_eq_true]; exact h.2)
    refine .cons (fun x hx => ?_) ih
    rcases List.mem_cons.1 hx with rfl | hx
    · exact h.1
    · exact ltL_tr h.1 (List.rel_of_pairwise_cons ih hx)
def maskS (z : List Int) : Nat := z.foldl (fun s i => s + 2 ^ i.toNat) 0
theorem lst_all : (List.range 7).all (fun n => chainL (lstA n (n + 1)) && (List.range (2 ^ n)).all (fun s => decide (ptsS n s ∈ lstA n (n + 1)) && decide ((ptsS n s).length = popN s) && decide (bitsL ((s : Nat) : Int) = ptsS n s)) && (lstA n (n + 1)).all (fun z => decide (maskS z < 2 ^ n) && decide (ptsS n (maskS z) = z))) = true := by decide +kernel
section
variable {n : Nat}
theorem lst_spec (hn : n ≤ 6) : (lstA n (n + 1)).Pairwise ltL ∧ (∀ s, s < 2 ^ n → ptsS n s ∈ lstA n (n + 1) ∧ (ptsS n s).length = popN s ∧ bitsL (s : Int) = ptsS n s) ∧ ∀ z ∈ lstA n (n + 1), ∃ s, s < 2 ^ n ∧ ptsS n s = z := by
  have h := List.all_eq_true.1 lst_all n (List.mem_range.2 (by omega))
  simp only [Bool.and_eq_true] at h
  refine ⟨chainL_pw h.1.1, fun s hs => ?_, fun z hz => ?_⟩
  · have := List.all_eq_true.1 h.1.2 s (List.mem_range.2 hs)
    simp only [Bool.and_eq_true, decide_eq_true_eq] at this
    exact ⟨this.1.1, this.1.2, this.2⟩
  · have := List.all_eq_true.1 h.2 z hz
    simp only [Bool.and_eq_true, decide_eq_true_eq] at this
    exact ⟨_, this.1, this.2⟩
/-- The first of the smallest sets so far. -/
def fewF (p : Nat → Bool) (n : Nat) : Nat → Option (List Int)
  | 0 => none
  | s + 1 => match fewF p n s with
    | none => if p s then some (ptsS n s) else none
    | some l => if (ptsS n s).length > l.length ∨ ((ptsS n s).length = l.length ∧ cmpL (ptsS n s) l > 0) then some l else if p s then some (ptsS n s) else some l
def fewS (p : Nat → Bool) (n : Nat) : Option (List Int) := fewF p n (2 ^ n)
variable {p : Nat → Bool} {T : List Int → Bool}
theorem few_inv (hn : n ≤ 6) (hT : ∀ s, s < 2 ^ n → p s = T (ptsS n s)) : ∀ s, s ≤ 2 ^ n →
    ((∀ t, t < s → T (ptsS n t) = false) ∧ fewF p n s = none) ∨
    ∃ t, t < s ∧ T (ptsS n t) = true ∧ fewF p n s = some (ptsS n t) ∧ ∀ t', t' < s → T (ptsS n t') = true → ¬ ltL (ptsS n t') (ptsS n t)
  | 0, _ => .inl ⟨fun t ht => absurd ht (Nat.not_lt_zero t), rfl⟩
  | s + 1, hs' => by
    have ih := few_inv hn hT s (by omega)
    have ha := hT s (by omega)
    rcases ih with ⟨h1, h2⟩ | ⟨t, ht, hTt, h2, h3⟩
    · rw [fewF, h2]
      cases hTs : T (ptsS n s) with
      | false =>
        refine .inl ⟨fun t ht => ?_, by simp only; rw [if_neg (by rw [ha, hTs]; decide)]⟩
        rcases Nat.lt_or_ge t s with h4 | h4
        · exact h1 t h4
        · have : t = s := by omega
          subst this; exact hTs
      | true =>
        refine .inr ⟨s, by omega, hTs, by simp only; rw [if_pos (by rw [ha, hTs])], fun t' ht' hT' => ?_⟩
        rcases Nat.lt_or_ge t' s with h4 | h4
        · rw [h1 t' h4] at hT'; cases hT'
        · have : t' = s := by omega
          subst this; exact ltL_irr
    · rw [fewF, h2]
      have hsame : (T (ptsS n s) = true → ¬ ltL (ptsS n s) (ptsS n t)) → ∀ t', t' < s + 1 → T (ptsS n t') = true → ¬ ltL (ptsS n t') (ptsS n t) := fun hh t' ht' hT' => by
        rcases Nat.lt_or_ge t' s with h4 | h4
        · exact h3 t' h4 hT'
        · have : t' = s := by omega
          subst this; exact hh hT'
      by_cases hb : (ptsS n s).length > (ptsS n t).length ∨ ((ptsS n s).length = (ptsS n t).length ∧ cmpL (ptsS n s) (ptsS n t) > 0)
      · exact .inr ⟨t, by omega, hTt, by simp only; rw [if_pos hb], hsame (fun _ h => by unfold ltL at h; omega)⟩
      · cases hTs : T (ptsS n s) with
        | false => exact .inr ⟨t, by omega, hTt, by simp only; rw [if_neg hb, if_neg (by rw [ha, hTs]; decide)], hsame (fun h => by rw [hTs] at h; cases h)⟩
        | true =>
          by_cases he : ptsS n s = ptsS n t
          · exact .inr ⟨t, by omega, hTt, by simp only; rw [if_neg hb, if_pos (by rw [ha, hTs]), he], hsame (fun _ => by rw [he]; exact ltL_irr)⟩
          · have hlt : ltL (ptsS n s) (ptsS n t) := by
              have hz : cmpL (ptsS n s) (ptsS n t) ≠ 0 := fun h => he (cmpL_zero h)
              unfold ltL; omega
            refine .inr ⟨s, by omega, hTs, by simp only; rw [if_neg hb, if_pos (by rw [ha, hTs])], fun t' ht' hT' => ?_⟩
            rcases Nat.lt_or_ge t' s with h4 | h4
            · exact fun h => h3 t' h4 hT' (ltL_tr h hlt)
            · have : t' = s := by omega
              subst this; exact ltL_irr
/-- The program's set is the first one that does. -/
theorem few_find (hn : n ≤ 6) (hT : ∀ s, s < 2 ^ n → p s = T (ptsS n s)) : (lstA n (n + 1)).find? T = fewS p n := by
  obtain ⟨hpw, hin, hout⟩ := lst_spec hn
  unfold fewS
  rcases few_inv hn hT (2 ^ n) (Nat.le_refl _) with ⟨h1, h2⟩ | ⟨t, ht, hTt, h2, h3⟩
  · rw [h2, List.find?_eq_none]
    intro z hz
    obtain ⟨s, hs, rfl⟩ := hout z hz
    rw [h1 s hs]; decide
  · rw [h2]
    cases hfd : (lstA n (n + 1)).find? T with
    | none =>
      have := List.find?_eq_none.1 hfd _ (hin t ht).1
      rw [hTt] at this; exact absurd rfl this
    | some z =>
      obtain ⟨hz, as', bs', hab, hno⟩ := List.find?_eq_some_iff_append.1 hfd
      have hzm : z ∈ lstA n (n + 1) := by rw [hab]; simp
      obtain ⟨s', hs2, rfl⟩ := hout z hzm
      have hm := (hin t ht).1
      rw [hab] at hm hpw
      rcases List.mem_append.1 hm with h4 | h4
      · have := hno _ h4
        rw [hTt] at this; cases this
      · rcases List.mem_cons.1 h4 with h5 | h5
        · simp only [h5]
        · exfalso
          have := List.rel_of_pairwise_cons (List.pairwise_append.1 hpw).2.1 h5
          exact h3 s' hs2 hz this
end
section
theorem tell_at {n m i : Nat} {T : List Int → Bool} (hm : m ≤ n) (h1 : ∀ z ∈ lstA n m, T z = false) (hi : i < (listsS m [] n).length) (h2 : ∀ j, j < i → T ((listsS m [] n).getD j default) = false) (h3 : T ((listsS m [] n).getD i default) = true) :
    (lstA n (n + 1)).find? T = some ((listsS m [] n).getD i default) := by
  have e0 : lstA n (n + 1) = lstA n m ++ ((List.range' m (n + 1 - m)).flatMap fun m => listsS m [] n) := by
    unfold lstA
    rw [← List.flatMap_append]
    congr 1
    have : n + 1 = m + (n + 1 - m) := by omega
    rw [List.range_eq_range', List.range_eq_range', this, ← List.range'_append_1]
    simp
  have e1 : List.range' m (n + 1 - m) = m :: List.range' (m + 1) (n - m) := by
    have : n + 1 - m = (n - m) + 1 := by omega
    rw [this, List.range'_succ]
  rw [e0, e1, List.flatMap_cons, List.find?_append]
  have h4 : (lstA n m).find? T = none := List.find?_eq_none.2 (fun z hz => by rw [h1 z hz]; decide)
  rw [h4, Option.none_or, List.find?_append]
  have h5 : (listsS m [] n).find? T = some ((listsS m [] n).getD i default) := by
    rw [List.find?_eq_some_iff_getElem]
    have e : (listsS m [] n).getD i default = (listsS m [] n)[i] := by rw [List.getD_eq_getElem?_getD, List.getElem?_eq_getElem hi]; rfl
    refine ⟨h3, i, hi, e.symm, fun j hj => ?_⟩
    have := h2 j hj
    rw [List.getD_eq_getElem?_getD, List.getElem?_eq_getElem (by omega)] at this
    simpa using this
  rw [h5]; rfl
theorem no_at {T : List Int → Bool} {zs : List (List Int)} (h : ∀ j, j < zs.length → T (zs.getD j default) = false) : ∀ z ∈ zs, T z = false := fun z hz => by
  obtain ⟨j, hj, rfl⟩ := List.getElem_of_mem hz
  have := h j hj
  rwa [List.getD_eq_getElem?_getD, List.getElem?_eq_getElem hj] at this
theorem lists_ln : ∀ {m : Nat} {b : List Int} {n : Int} {z : List Int}, z ∈ listsS m b n → z.length = b.length + m
  | 0, b, n, z, h => by simp [listsS] at h; rw [h]; rfl
  | m + 1, b, n, z, h => by
    rw [listsS] at h
    obtain ⟨j, _, h2⟩ := List.mem_flatMap.1 h
    rw [lists_ln h2]; simp; omega
theorem lists_in {m : Nat} {n : Int} {z : List Int} (h : z ∈ listsS m [] n) (hm : m ≤ 1000) : z.length ≤ 1000 := by rw [lists_ln h]; simpa using hm
theorem lstA_succ {n m : Nat} : lstA n (m + 1) = lstA n m ++ listsS m [] n := by
  unfold lstA; rw [List.range_succ, List.flatMap_append]; simp
end
section
/-- The lists so far. -/
def partS (m : Nat) (b : List Int) (n : Int) (k : Nat) : List (List Int) := (List.range k).flatMap fun (j : Nat) => listsS m (b ++ [fromS b + (j : Int)]) n
variable {m k : Nat} {b : List Int} {n : Int}
theorem partS_succ : partS m b n (k + 1) = partS m b n k ++ listsS m (b ++ [fromS b + (k : Int)]) n := by
  unfold partS; rw [List.range_succ, List.flatMap_append]; simp
theorem partS_all : partS m b n (n - fromS b).toNat = listsS (m + 1) b n := rfl
theorem fromS_snoc {i : Int} : fromS (b ++ [i]) = i + 1 := by
  unfold fromS
  rw [if_neg (by simp)]
  simp [List.getD_eq_getElem?_getD]
theorem lists_len : ∀ {m : Nat} {b : List Int}, n ≤ 8 → 0 ≤ fromS b → (listsS m b n).length ≤ 8 ^ m
  | 0, _, _, _ => by simp [listsS]
  | m + 1, b, hn, hf => by
    have key : ∀ k, k ≤ 8 → (partS m b n k).length ≤ k * 8 ^ m := fun k => by
      induction k with
      | zero => intro _; simp [partS]
      | succ k ih =>
        intro hk
        rw [partS_succ, List.length_append, Nat.add_mul]
        have := ih (by omega)
        have := lists_len (m := m) (b := b ++ [fromS b + (k : Int)]) hn (by rw [fromS_snoc]; omega)
        omega
    rw [← partS_all]
    have h1 : (n - fromS b).toNat ≤ 8 := by omega
    have h2 := key _ h1
    have h3 : (n - fromS b).toNat * 8 ^ m ≤ 8 * 8 ^ m := Nat.mul_le_mul_right _ h1
    rw [Nat.pow_succ]; omega
theorem part_len (hn : n ≤ 8) (hf : 0 ≤ fromS b) (hm : m ≤ 8) (hk : k ≤ 8) : (partS m b n k).length ≤ 134217728 := by
  have key : ∀ k, (partS m b n k).length ≤ k * 8 ^ m := fun k => by
    induction k with
    | zero => simp [partS]
    | succ k ih =>
      rw [partS_succ, List.length_append, Nat.add_mul]
      have := lists_len (m := m) (b := b ++ [fromS b + (k : Int)]) hn (by rw [fromS_snoc]; omega)
      omega
  have h1 := key k
  have h2 : 8 ^ m ≤ 8 ^ 8 := Nat.pow_le_pow_right (by omega) hm
  have h3 : k * 8 ^ m ≤ 8 * 8 ^ 8 := Nat.mul_le_mul hk h2
  omega
theorem lists_len8 (hn : n ≤ 8) (hf : 0 ≤ fromS b) (hm : m ≤ 8) : (listsS m b n).length ≤ 16777216 := by
  have h1 := lists_len (m := m) hn hf
  have h2 : 8 ^ m ≤ 8 ^ 8 := Nat.pow_le_pow_right (by omega) hm
  omega
end
/-! Ones -/
theorem shl_val {n : Nat} (hn : n ≤ 6) : IntKind.i64.wrap (1 * 2 ^ min (Int.toNat (n : Int)) IntKind.i64.bits) = ((2 ^ n : Nat) : Int) := by
  have : n = 0 ∨ n = 1 ∨ n = 2 ∨ n = 3 ∨ n = 4 ∨ n = 5 ∨ n = 6 := by omega
  rcases this with h | h | h | h | h | h | h <;> subst h <;> decide
theorem pow_bd {n : Nat} (hn : n ≤ 6) : 2 ^ n ≤ 64 := by
  have : n = 0 ∨ n = 1 ∨ n = 2 ∨ n = 3 ∨ n = 4 ∨ n = 5 ∨ n = 6 := by omega
  rcases this with h | h | h | h | h | h | h <;> subst h <;> decide
end Go.Proofs.YthkgnhcknkjgdaaDoor
