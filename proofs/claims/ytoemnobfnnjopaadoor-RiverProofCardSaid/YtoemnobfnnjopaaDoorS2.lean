/-
  Plain lemmas and plain functions, several texts joined.
  Conditions stand in each theorem.
-/
import Derived.Test.YtoemnobfnnjopaaDoorS1
import Derived.Test.YtoemnobfnnjopaaDoorK2
import Derived.Test.YtoemnobfnnjopaaDoorKU
import Derived.Laws.Strings
set_option linter.unusedSimpArgs false
set_option linter.unusedVariables false
/-
  Lists with numbers, sets as numbers: their bits, counted and listed.
  No conditions but those in the theorems.
-/
namespace Go.Proofs.YtoemnobfnnjopaaDoor
open Go
/-- The error of spans within limits. -/
def spreadE (low high : Int) (xs : List (Int × Int)) : Int :=
  if xs.any (fun s => decide (¬ ((low ≤ s.1 ∧ s.1 ≤ high) ∧ (low ≤ s.2 ∧ s.2 ≤ high)))) then 7 else if xs.any (fun s => decide (s.1 > s.2)) then 2 else 0
theorem any_take {E : Type} [Inhabited E] {p : E → Bool} {xs : List E} {k : Nat} (h : k < xs.length) : (xs.take (k + 1)).any p = ((xs.take k).any p || p (xs.getD k default)) := by
  rw [List.take_add_one, List.getElem?_eq_getElem h, List.any_append]
  simp [List.getD_eq_getElem?_getD, h]
theorem any_f {E : Type} [Inhabited E] {p : E → Bool} {xs : List E} (h : ∀ j, j < xs.length → p (xs.getD j default) = false) : xs.any p = false := by
  rw [List.any_eq_false]
  intro x hx
  obtain ⟨j, hj, rfl⟩ := List.getElem_of_mem hx
  have := h j hj
  rw [List.getD_eq_getElem?_getD, List.getElem?_eq_getElem hj] at this
  simpa using this
theorem any_t {E : Type} [Inhabited E] {p : E → Bool} {xs : List E} {j : Nat} (hj : j < xs.length) (h : p (xs.getD j default) = true) : xs.any p = true := List.any_eq_true.2 ⟨_, K.gt_mem hj, h⟩
theorem mem_of_none {E : Type} [Inhabited E] {xs : List E} {n : E} (h : ∀ j, j < xs.length → xs.getD j default ≠ n) : n ∉ xs := fun hm => by
  obtain ⟨j, hj, rfl⟩ := List.getElem_of_mem hm
  exact h j hj (by rw [List.getD_eq_getElem?_getD, List.getElem?_eq_getElem hj]; rfl)
/-- Lists that grow by one. -/
theorem take_succ_map {E F : Type} [Inhabited E] (f : E → F) {xs : List E} {k : Nat} (h : k < xs.length) : (xs.take (k + 1)).map f = (xs.take k).map f ++ [f (xs.getD k default)] := by
  rw [List.take_add_one, List.getElem?_eq_getElem h, List.map_append]
  simp [List.getD_eq_getElem?_getD, h]
theorem take_all {E : Type} {xs : List E} {k : Nat} (h : xs.length ≤ k) : xs.take k = xs := List.take_of_length_le h
theorem fold_take {E : Type} [Inhabited E] {f : E → Int} {xs : List E} {k : Nat} (h : k < xs.length) : ((xs.take (k + 1)).map f).foldl max 0 = max (((xs.take k).map f).foldl max 0) (f (xs.getD k default)) := by
  rw [take_succ_map f h, List.foldl_append]; rfl
theorem foldI_take {xs : List Int} {k : Nat} (h : k < xs.length) : (xs.take (k + 1)).foldl max 0 = max ((xs.take k).foldl max 0) (xs.getD k default) := by
  have := take_succ_map id h
  simp only [List.map_id_fun, id_eq] at this
  rw [this, List.foldl_append]; rfl
/-- The numbers below n that p chooses. -/
def selN (p : Nat → Bool) (n : Nat) : List Int := ((List.range n).filter p).map fun (i : Nat) => (i : Int)
theorem selN_succ {p : Nat → Bool} {n : Nat} : selN p (n + 1) = selN p n ++ (if p n then [(n : Int)] else []) := by
  unfold selN
  rw [List.range_succ, List.filter_append, List.map_append]
  split <;> simp_all
theorem selN_len {p : Nat → Bool} {n : Nat} : (selN p n).length ≤ n := by
  unfold selN; rw [List.length_map]
  exact Nat.le_trans (List.length_filter_le _ _) (by simp)
theorem mem_sel {p : Nat → Bool} {n : Nat} {x : Int} : x ∈ selN p n ↔ ∃ i : Nat, i < n ∧ p i = true ∧ x = (i : Int) := by
  unfold selN
  simp only [List.mem_map, List.mem_filter, List.mem_range]
  constructor
  · rintro ⟨i, ⟨h1, h2⟩, rfl⟩; exact ⟨i, h1, h2, rfl⟩
  · rintro ⟨i, h1, h2, rfl⟩; exact ⟨i, ⟨h1, h2⟩, rfl⟩
theorem selN_yes {p : Nat → Bool} {n : Nat} (h : p n = true) : selN p (n + 1) = selN p n ++ [(n : Int)] := by rw [selN_succ, if_pos h]
theorem selN_no {p : Nat → Bool} {n : Nat} (h : p n = false) : selN p (n + 1) = selN p n := by rw [selN_succ, if_neg (by simp [h]), List.append_nil]
theorem selN_congr {p q : Nat → Bool} {n : Nat} (h : ∀ i, i < n → p i = q i) : selN p n = selN q n := by
  unfold selN; rw [List.filter_congr (fun i hi => h i (List.mem_range.1 hi))]
theorem list_ext {a b : List Int} (hl : a.length = b.length) (h : ∀ j, j < a.length → a.getD j default = b.getD j default) : a = b := by
  apply List.ext_getElem hl
  intro i h1 h2
  have := h i h1
  rwa [List.getD_eq_getElem?_getD, List.getD_eq_getElem?_getD, List.getElem?_eq_getElem h1, List.getElem?_eq_getElem h2] at this
def tabZ : List Int := [0,1,56,2,57,49,28,3,61,58,42,50,38,29,17,4,62,47,59,36,45,43,51,22,53,39,33,30,24,18,12,5,63,55,48,27,60,41,37,16,46,35,44,21,52,32,23,11,54,26,40,15,34,20,31,10,25,14,19,9,13,8,7,6]
def tab64 : List Value := tabZ.map fun n => .int .u8 n
def low1 (x : Int) : Int := IntKind.u64.wrap (BitVec.ofInt IntKind.u64.bits x &&& BitVec.ofInt IntKind.u64.bits (IntKind.u64.wrap (0 - x))).toNat
def idxZ (x : Int) : Int := (IntKind.u64.wrap (low1 x * 285870213051353865)).fdiv (2 ^ min ((58 : Int)).toNat IntKind.u64.bits)
def tzS (x : Int) : Int := tabZ.getD (idxZ x).toNat 0
def andS (x : Int) : Int := IntKind.i64.wrap (BitVec.ofInt IntKind.i64.bits x &&& BitVec.ofInt IntKind.i64.bits (x - 1)).toNat
def bitsL (s : Int) : List Int := selN (fun i => s.toNat.testBit i) 9
def bitC (n : Nat) : Bool := n == 0 || (decide (0 ≤ idxZ (n : Int) ∧ idxZ (n : Int) < 64) && decide (0 ≤ tzS (n : Int) ∧ tzS (n : Int) ≤ 8) && decide (0 ≤ andS (n : Int) ∧ andS (n : Int) < (n : Int)) && decide (bitsL (n : Int) = tzS (n : Int) :: bitsL (andS (n : Int))))
theorem bit_0 : (List.range 32).all (fun n => bitC (n + 0)) = true := by decide +kernel
theorem bit_1 : (List.range 32).all (fun n => bitC (n + 32)) = true := by decide +kernel
theorem bit_2 : (List.range 32).all (fun n => bitC (n + 64)) = true := by decide +kernel
theorem bit_3 : (List.range 32).all (fun n => bitC (n + 96)) = true := by decide +kernel
theorem bit_4 : (List.range 32).all (fun n => bitC (n + 128)) = true := by decide +kernel
theorem bit_5 : (List.range 32).all (fun n => bitC (n + 160)) = true := by decide +kernel
theorem bit_6 : (List.range 32).all (fun n => bitC (n + 192)) = true := by decide +kernel
theorem bit_7 : (List.range 32).all (fun n => bitC (n + 224)) = true := by decide +kernel
theorem bit_8 : (List.range 32).all (fun n => bitC (n + 256)) = true := by decide +kernel
theorem bit_9 : (List.range 32).all (fun n => bitC (n + 288)) = true := by decide +kernel
theorem bit_10 : (List.range 32).all (fun n => bitC (n + 320)) = true := by decide +kernel
theorem bit_11 : (List.range 32).all (fun n => bitC (n + 352)) = true := by decide +kernel
theorem bit_12 : (List.range 32).all (fun n => bitC (n + 384)) = true := by decide +kernel
theorem bit_13 : (List.range 32).all (fun n => bitC (n + 416)) = true := by decide +kernel
theorem bit_14 : (List.range 32).all (fun n => bitC (n + 448)) = true := by decide +kernel
theorem bit_15 : (List.range 32).all (fun n => bitC (n + 480)) = true := by decide +kernel
theorem bit_all {n : Nat} (h : n < 512) : bitC n = true := by
  have key : ∀ k m, (List.range 32).all (fun n => bitC (n + m)) = true → m = 32 * k → n / 32 = k → bitC n = true := fun k m hk hm hn => by
    have := List.all_eq_true.1 hk (n % 32) (List.mem_range.2 (by omega))
    rwa [show n % 32 + m = n by omega] at this
  have hd : n / 32 < 16 := by omega
  generalize e : n / 32 = q at hd
  rcases (show q = 0 ∨ q = 1 ∨ q = 2 ∨ q = 3 ∨ q = 4 ∨ q = 5 ∨ q = 6 ∨ q = 7 ∨ q = 8 ∨ q = 9 ∨ q = 10 ∨ q = 11 ∨ q = 12 ∨ q = 13 ∨ q = 14 ∨ q = 15 by omega) with rfl | rfl | rfl | rfl | rfl | rfl | rfl | rfl | rfl | rfl | rfl | rfl | rfl | rfl | rfl | rfl
  · exact key 0 _ bit_0 rfl e
  · exact key 1 _ bit_1 rfl e
  · exact key 2 _ bit_2 rfl e
  · exact key 3 _ bit_3 rfl e
  · exact key 4 _ bit_4 rfl e
  · exact key 5 _ bit_5 rfl e
  · exact key 6 _ bit_6 rfl e
  · exact key 7 _ bit_7 rfl e
  · exact key 8 _ bit_8 rfl e
  · exact key 9 _ bit_9 rfl e
  · exact key 10 _ bit_10 rfl e
  · exact key 11 _ bit_11 rfl e
  · exact key 12 _ bit_12 rfl e
  · exact key 13 _ bit_13 rfl e
  · exact key 14 _ bit_14 rfl e
  · exact key 15 _ bit_15 rfl e
theorem bit_at {x : Int} (h : 1 ≤ x ∧ x ≤ 511) : (0 ≤ idxZ x ∧ idxZ x < 64) ∧ (0 ≤ tzS x ∧ tzS x ≤ 8) ∧ (0 ≤ andS x ∧ andS x < x) ∧ bitsL x = tzS x :: bitsL (andS x) := by
  obtain ⟨n, rfl⟩ := Int.eq_ofNat_of_zero_le (show 0 ≤ x by omega)
  have h1 := bit_all (n := n) (by omega)
  unfold bitC at h1
  rw [Bool.or_eq_true] at h1
  rcases h1 with h1 | h1
  · have := eq_of_beq h1; omega
  · simp only [Bool.and_eq_true, decide_eq_true_eq] at h1
    exact ⟨h1.1.1.1, h1.1.1.2, h1.1.2, h1.2⟩
theorem tab_at {k : Nat} (h : k < 64) : tab64[0 + k * 1]? = some (.int .u8 (tabZ.getD k 0)) := by
  have hl : tabZ.length = 64 := by decide
  obtain ⟨v, hv⟩ : ∃ v, tabZ[k]? = some v := ⟨_, List.getElem?_eq_getElem (by omega)⟩
  rw [show 0 + k * 1 = k by omega]
  unfold tab64
  rw [List.getElem?_map, List.getD_eq_getElem?_getD, hv]; rfl
theorem idx_at {x : Int} (h : 1 ≤ x ∧ x ≤ 511) : (0 ≤ idxZ x ∧ idxZ x < 64) ∧ tab64[0 + (idxZ x).toNat * 1]? = some (.int .u8 (tzS x)) ∧ (0 ≤ tzS x ∧ tzS x ≤ 8) := by
  obtain ⟨h1, h2, _⟩ := bit_at h
  have ht : tzS x = tabZ.getD (idxZ x).toNat 0 := rfl
  exact ⟨h1, ht ▸ tab_at (by omega), h2⟩
theorem bits_at {x : Int} (h : 1 ≤ x ∧ x ≤ 511) : (0 ≤ andS x ∧ andS x < x) ∧ bitsL x = tzS x :: bitsL (andS x) := (bit_at h).2.2
theorem bits_0 : bitsL 0 = [] := by decide
theorem bits_len {x : Int} : (bitsL x).length ≤ 9 := selN_len
end Go.Proofs.YtoemnobfnnjopaaDoor

/-
  The order of lists, all ascending lists of so many numbers.
  No conditions but those in the theorems.
-/
namespace Go.Proofs.YtoemnobfnnjopaaDoor
open Go
def ptsS (n s : Nat) : List Int := selN (fun i => s.testBit i) n
theorem pts_len {n s : Nat} : (ptsS n s).length ≤ n := selN_len
/-- The order of lists. -/
def cmpL : List Int → List Int → Int
  | [], [] => 0
  | [], _ :: _ => -1
  | _ :: _, [] => 1
  | a :: x, b :: y => if a < b then -1 else if a > b then 1 else cmpL x y
def cmpS (a b : Int) : Int := if a < b then -1 else if a > b then 1 else 0
theorem cmp0 {a b : Int} (h : cmpS a b = 0) : a = b := by unfold cmpS at h; split at h <;> (try split at h) <;> omega
theorem cmpL_cons {a b : Int} {x y : List Int} : cmpL (a :: x) (b :: y) = if cmpS a b ≠ 0 then cmpS a b else cmpL x y := by
  unfold cmpS; rw [cmpL]
  split
  · simp
  · split <;> simp
theorem cmpL_drop : ∀ {k : Nat} {xs ys : List Int}, (∀ j, j < k → xs.getD j default = ys.getD j default) → k ≤ xs.length → k ≤ ys.length → cmpL xs ys = cmpL (xs.drop k) (ys.drop k)
  | 0, _, _, _, _, _ => rfl
  | k + 1, [], _, _, h, _ => by simp at h
  | k + 1, _ :: _, [], _, _, h => by simp at h
  | k + 1, x :: xs, y :: ys, hall, h1, h2 => by
    have h0 := hall 0 (by omega)
    simp at h0
    rw [cmpL_cons, if_neg (by subst h0; simp [cmpS]), List.drop_succ_cons, List.drop_succ_cons]
    exact cmpL_drop (fun j hj => by have := hall (j + 1) (by omega); simpa using this) (by simpa using h1) (by simpa using h2)
section
variable {k : Nat} {xs ys : List Int}
theorem cmpL_long (hall : ∀ j, j < k → xs.getD j default = ys.getD j default) (h1 : k < xs.length) (h2 : k = ys.length) : cmpL xs ys = 1 := by
  rw [cmpL_drop hall (by omega) (by omega), show ys.drop k = [] from List.drop_of_length_le (by omega), List.drop_eq_getElem_cons h1]; rfl
theorem cmpL_diff (hall : ∀ j, j < k → xs.getD j default = ys.getD j default) (h1 : k < xs.length) (h2 : k < ys.length) (hne : cmpS (xs.getD k default) (ys.getD k default) ≠ 0) : cmpL xs ys = cmpS (xs.getD k default) (ys.getD k default) := by
  rw [cmpL_drop hall (by omega) (by omega), List.drop_eq_getElem_cons h1, List.drop_eq_getElem_cons h2, cmpL_cons]
  simp only [List.getD_eq_getElem?_getD, List.getElem?_eq_getElem h1, List.getElem?_eq_getElem h2, Option.getD_some] at hne ⊢
  rw [if_pos hne]
theorem cmpL_short (hall : ∀ j, j < k → xs.getD j default = ys.getD j default) (h1 : k = xs.length) (h2 : k < ys.length) : cmpL xs ys = -1 := by
  rw [cmpL_drop hall (by omega) (by omega), show xs.drop k = [] from List.drop_of_length_le (by omega), List.drop_eq_getElem_cons h2]; rfl
theorem cmpL_same (hall : ∀ j, j < k → xs.getD j default = ys.getD j default) (h1 : k = xs.length) (h2 : k = ys.length) : cmpL xs ys = 0 := by
  rw [cmpL_drop hall (by omega) (by omega), show xs.drop k = [] from List.drop_of_length_le (by omega), show ys.drop k = [] from List.drop_of_length_le (by omega)]; rfl
end
theorem cmpL_anti : ∀ a b : List Int, cmpL b a = - cmpL a b
  | [], [] => rfl
  | [], _ :: _ => rfl
  | _ :: _, [] => rfl
  | a :: x, b :: y => by
    have ih := cmpL_anti x y
    rw [cmpL, cmpL]
    split <;> split <;> (try split) <;> omega
theorem cmpL_zero : ∀ {a b : List Int}, cmpL a b = 0 → a = b
  | [], [], _ => rfl
  | [], _ :: _, h => by simp [cmpL] at h
  | _ :: _, [], h => by simp [cmpL] at h
  | a :: x, b :: y, h => by
    rw [cmpL] at h
    split at h
    · omega
    · split at h
      · omega
      · rw [cmpL_zero h, show a = b by omega]
theorem cmpL_tr : ∀ {a b c : List Int}, cmpL a b < 0 → cmpL b c < 0 → cmpL a c < 0
  | [], [], _, h, _ => by simp [cmpL] at h
  | [], _ :: _, [], _, h => by simp [cmpL] at h
  | [], _ :: _, _ :: _, _, _ => by simp [cmpL]
  | _ :: _, [], _, h, _ => by simp [cmpL] at h
  | _ :: _, _ :: _, [], _, h => by simp [cmpL] at h
  | a :: x, b :: y, c :: z, h1, h2 => by
    rw [cmpL] at h1 h2 ⊢
    by_cases hac : a < c
    · rw [if_pos hac]; omega
    · by_cases hab : a < b
      · rw [if_pos hab] at h1
        rw [if_neg (by omega)] at h2
        rw [if_pos (by omega)] at h2
        omega
      · rw [if_neg hab] at h1
        by_cases hba : a > b
        · rw [if_pos hba] at h1; omega
        · rw [if_neg hba] at h1
          rw [if_neg (by omega)] at h2
          by_cases hbc : b > c
          · rw [if_pos hbc] at h2; omega
          · rw [if_neg hbc] at h2
            rw [if_neg hac, if_neg (by omega)]
            exact cmpL_tr h1 h2
/-- The ascending lists of so many numbers from one on, below another one. -/
def lsF : Nat → Int → Int → List (List Int)
  | 0, _, _ => [[]]
  | m + 1, f, n => (List.range (n - f).toNat).flatMap fun (j : Nat) => (lsF m (f + (j : Int) + 1) n).map (List.cons (f + (j : Int)))
def partF (m : Nat) (f n : Int) (k : Nat) : List (List Int) := (List.range k).flatMap fun (j : Nat) => (lsF m (f + (j : Int) + 1) n).map (List.cons (f + (j : Int)))
section
variable {m k : Nat} {f n : Int} {z : List Int}
theorem partF_succ : partF m f n (k + 1) = partF m f n k ++ (lsF m (f + (k : Int) + 1) n).map (List.cons (f + (k : Int))) := by
  unfold partF; rw [List.range_succ, List.flatMap_append]; simp
theorem partF_all : partF m f n (n - f).toNat = lsF (m + 1) f n := rfl
theorem lsF_ln : ∀ {m : Nat} {f n : Int} {z : List Int}, z ∈ lsF m f n → z.length = m
  | 0, f, n, z, h => by simp [lsF] at h; subst h; rfl
  | m + 1, f, n, z, h => by
    unfold lsF at h
    obtain ⟨j, _, hz⟩ := List.mem_flatMap.1 h
    obtain ⟨y, hy, rfl⟩ := List.mem_map.1 hz
    rw [List.length_cons, lsF_ln hy]
theorem part_of (h : ∀ j : Nat, j < k → (lsF m (f + (j : Int) + 1) n).length ≤ 9 ^ m) : (partF m f n k).length ≤ k * 9 ^ m := by
  induction k with
  | zero => simp [partF]
  | succ k ih =>
    rw [partF_succ, List.length_append, List.length_map, Nat.succ_mul]
    have := ih (fun j hj => h j (by omega))
    have := h k (by omega)
    omega
theorem lsF_pow (hn : n ≤ 9) : ∀ (m : Nat) {f : Int}, 0 ≤ f → (lsF m f n).length ≤ 9 ^ m
  | 0, _, _ => by simp [lsF]
  | m + 1, f, hf => by
    rw [← partF_all]
    have h := part_of (m := m) (f := f) (n := n) (k := (n - f).toNat) (fun j _ => lsF_pow hn m (by omega))
    refine Nat.le_trans h ?_
    rw [Nat.pow_succ, Nat.mul_comm (9 ^ m) 9]
    exact Nat.mul_le_mul_right _ (by omega)
theorem pow9 (hm : m ≤ 9) : 9 ^ m ≤ 387420489 := Nat.pow_le_pow_right (by decide : 9 > 0) hm
theorem lsF_len (hn : n ≤ 9) (hf : 0 ≤ f) (hm : m ≤ 9) : (lsF m f n).length ≤ 387420489 := Nat.le_trans (lsF_pow hn m hf) (pow9 hm)
theorem partF_len (hn : n ≤ 9) (hf : 0 ≤ f) (hm : m ≤ 9) (hk : k ≤ 9) : (partF m f n k).length ≤ 3486784401 := by
  have h := part_of (m := m) (f := f) (n := n) (k := k) (fun j _ => lsF_pow hn m (by omega))
  have h2 := pow9 hm
  have := Nat.mul_le_mul hk h2
  omega
/-- All ascending lists of so many numbers. -/
theorem mem_lsF : ∀ {m : Nat} {f n : Int} {z : List Int}, z ∈ lsF m f n ↔ z.length = m ∧ z.Pairwise (· < ·) ∧ ∀ x ∈ z, f ≤ x ∧ x < n
  | 0, f, n, z => by
    simp only [lsF, List.mem_singleton]
    constructor
    · rintro rfl; simp
    · rintro ⟨h, _⟩; exact List.length_eq_zero_iff.1 h
  | m + 1, f, n, z => by
    unfold lsF
    rw [List.mem_flatMap]
    constructor
    · rintro ⟨j, hj, hz⟩
      obtain ⟨y, hy, rfl⟩ := List.mem_map.1 hz
      obtain ⟨h1, h2, h3⟩ := mem_lsF.1 hy
      have hj := List.mem_range.1 hj
      refine ⟨by rw [List.length_cons, h1], List.pairwise_cons.2 ⟨fun x hx => by have := h3 x hx; omega, h2⟩, fun x hx => ?_⟩
      rcases List.mem_cons.1 hx with rfl | hx
      · omega
      · have := h3 x hx; omega
    · rintro ⟨h1, h2, h3⟩
      cases z with
      | nil => simp at h1
      | cons a y =>
        obtain ⟨h4, h5⟩ := List.pairwise_cons.1 h2
        have ha := h3 a (List.mem_cons_self ..)
        refine ⟨(a - f).toNat, List.mem_range.2 (by omega), List.mem_map.2 ⟨y, mem_lsF.2 ⟨by simpa using h1, h5, fun x hx => ?_⟩, by congr 1; omega⟩⟩
        have := h4 x hx
        have := h3 x (List.mem_cons_of_mem _ hx)
        omega
theorem cmpL_same1 {a : Int} {x y : List Int} : cmpL (a :: x) (a :: y) = cmpL x y := by
  rw [cmpL, if_neg (by omega), if_neg (by omega)]
/-- They stand in order. -/
theorem pw_lsF : ∀ {m : Nat} {f n : Int}, (lsF m f n).Pairwise fun a b => cmpL a b < 0
  | 0, f, n => by unfold lsF; exact List.pairwise_singleton _ _
  | m + 1, f, n => by
    unfold lsF
    rw [List.pairwise_flatMap]
    refine ⟨fun j _ => ?_, ?_⟩
    · rw [List.pairwise_map]
      exact pw_lsF.imp fun h => by rw [cmpL_same1]; exact h
    · refine List.pairwise_lt_range.imp fun {j k} hjk x hx y hy => ?_
      obtain ⟨x', _, rfl⟩ := List.mem_map.1 hx
      obtain ⟨y', _, rfl⟩ := List.mem_map.1 hy
      rw [cmpL, if_pos (by omega)]; decide
theorem selN_pw {p : Nat → Bool} {n : Nat} : (selN p n).Pairwise (· < ·) := by
  unfold selN
  rw [List.pairwise_map]
  exact (List.pairwise_lt_range.filter _).imp fun h => by omega
theorem pts_lsF {n s : Nat} : ptsS n s ∈ lsF (ptsS n s).length 0 n := mem_lsF.2 ⟨rfl, selN_pw, fun x hx => by
  obtain ⟨i, hi, _, rfl⟩ := mem_sel.1 hx; omega⟩
/-- An ascending list is the numbers that it has. -/
theorem sorted_sel {z : List Int} {n : Nat} (h1 : z.Pairwise (· < ·)) (h2 : ∀ x ∈ z, 0 ≤ x ∧ x < n) : selN (fun i => decide ((i : Int) ∈ z)) n = z := by
  have key : ∀ {a b : List Int}, a.Pairwise (· < ·) → b.Pairwise (· < ·) → (∀ x, x ∈ a ↔ x ∈ b) → a = b := by
    intro a
    induction a with
    | nil => intro b _ _ h; cases b with
      | nil => rfl
      | cons y b => exact absurd ((h y).2 (List.mem_cons_self ..)) (by simp)
    | cons x a ih =>
      intro b ha hb h
      cases b with
      | nil => exact absurd ((h x).1 (List.mem_cons_self ..)) (by simp)
      | cons y b =>
        obtain ⟨ha1, ha2⟩ := List.pairwise_cons.1 ha
        obtain ⟨hb1, hb2⟩ := List.pairwise_cons.1 hb
        have hxy : x = y := by
          rcases List.mem_cons.1 ((h x).1 (List.mem_cons_self ..)) with e | e
          · exact e
          · rcases List.mem_cons.1 ((h y).2 (List.mem_cons_self ..)) with e2 | e2
            · exact e2.symm
            · have := hb1 x e; have := ha1 y e2; omega
        subst hxy
        rw [ih ha2 hb2 (fun w => ?_)]
        constructor
        · intro hw
          rcases List.mem_cons.1 ((h w).1 (List.mem_cons_of_mem _ hw)) with e | e
          · have := ha1 w hw; omega
          · exact e
        · intro hw
          rcases List.mem_cons.1 ((h w).2 (List.mem_cons_of_mem _ hw)) with e | e
          · have := hb1 w hw; omega
          · exact e
  refine key selN_pw h1 (fun x => ?_)
  rw [mem_sel]
  constructor
  · rintro ⟨i, _, h, rfl⟩; exact of_decide_eq_true h
  · intro hx
    have := h2 x hx
    refine ⟨x.toNat, by omega, ?_, by omega⟩
    rw [show ((x.toNat : Nat) : Int) = x by omega]; exact decide_eq_true hx
end
end Go.Proofs.YtoemnobfnnjopaaDoor

/-
  The errors of rivers.
  No conditions but those in the theorems.
-/
namespace Go.Proofs.YtoemnobfnnjopaaDoor
open Go
theorem nm_eq {a b : ByteArray} : nmEq a b = true ↔ a = b := by
  unfold nmEq
  rw [beq_iff_eq, ByteArray.toList_eq, ByteArray.toList_eq]
  constructor
  · intro h
    cases a; cases b
    simp at h; rw [h]
  · rintro rfl; rfl
/-- The error of a point but its name. -/
def posE (n i : Int) (p : RvT) : Int :=
  if ¬ ((0 ≤ p.ls ∧ p.ls ≤ 500) ∧ (0 ≤ p.ht ∧ p.ht ≤ 9000)) then 7
  else if ¬ (-1 ≤ p.dn ∧ p.dn ≤ n - 1) then 4
  else if p.dn = i ∨ (p.dn = -1 ∧ p.ls ≠ 0) then 2 else 0
/-- The error of a point. -/
def rvE (r : List RvT) (i : Nat) : Int :=
  if nameB (r.getD i default).nm = false then 6
  else if ((r.take i).any fun q => nmEq q.nm (r.getD i default).nm) = true then 5
  else posE r.length i (r.getD i default)
/-- The mouths among the first k points. -/
def mouS (r : List RvT) (k : Nat) : List Nat := (List.range k).filter fun i => decide ((r.getD i default).dn = -1)
/-- The water comes to the mouth. -/
def reaB (r : List RvT) (i : Nat) : Bool := decide ((r.getD (stps r r.length i) default).dn = -1)
/-- The part, index and error of rivers. -/
def chk (r : List RvT) : Int × Int × Int :=
  if ¬ (1 ≤ r.length ∧ r.length ≤ 9) then (1, 0, 3)
  else if (K.fst (rvE r) (List.range r.length)).2 ≠ 0 then (2, K.fst (rvE r) (List.range r.length))
  else if (mouS r r.length).length = 0 then (3, 0, 8)
  else if (mouS r r.length).length > 1 then (3, (((mouS r r.length).getD 1 0 : Nat) : Int), 2)
  else match (List.range r.length).find? (fun i => !reaB r i) with
    | some i => (3, (i : Int), 9)
    | none => (0, 0, 0)
section
variable {r : List RvT} {i k : Nat}
theorem pos_7 {n i : Int} {p : RvT} (h : ¬ ((0 ≤ p.ls ∧ p.ls ≤ 500) ∧ (0 ≤ p.ht ∧ p.ht ≤ 9000))) : posE n i p = 7 := by unfold posE; rw [if_pos h]
theorem pos_4 {n i : Int} {p : RvT} (h1 : (0 ≤ p.ls ∧ p.ls ≤ 500) ∧ (0 ≤ p.ht ∧ p.ht ≤ 9000)) (h : ¬ (-1 ≤ p.dn ∧ p.dn ≤ n - 1)) : posE n i p = 4 := by unfold posE; rw [if_neg (fun h' => h' h1), if_pos h]
theorem pos_2 {n i : Int} {p : RvT} (h1 : (0 ≤ p.ls ∧ p.ls ≤ 500) ∧ (0 ≤ p.ht ∧ p.ht ≤ 9000)) (h2 : -1 ≤ p.dn ∧ p.dn ≤ n - 1) (h : p.dn = i ∨ (p.dn = -1 ∧ p.ls ≠ 0)) : posE n i p = 2 := by unfold posE; rw [if_neg (fun h' => h' h1), if_neg (fun h' => h' h2), if_pos h]
theorem pos_0 {n i : Int} {p : RvT} (h1 : (0 ≤ p.ls ∧ p.ls ≤ 500) ∧ (0 ≤ p.ht ∧ p.ht ≤ 9000)) (h2 : -1 ≤ p.dn ∧ p.dn ≤ n - 1) (h : ¬ (p.dn = i ∨ (p.dn = -1 ∧ p.ls ≠ 0))) : posE n i p = 0 := by unfold posE; rw [if_neg (fun h' => h' h1), if_neg (fun h' => h' h2), if_neg h]
theorem rv_6 (h : nameB (r.getD i default).nm = false) : rvE r i = 6 := by unfold rvE; rw [if_pos h]
theorem rv_5 (h1 : nameB (r.getD i default).nm = true) (h : ((r.take i).any fun q => nmEq q.nm (r.getD i default).nm) = true) : rvE r i = 5 := by unfold rvE; rw [if_neg (by rw [h1]; simp), if_pos h]
theorem rv_p (h1 : nameB (r.getD i default).nm = true) (h : ((r.take i).any fun q => nmEq q.nm (r.getD i default).nm) = false) : rvE r i = posE r.length i (r.getD i default) := by unfold rvE; rw [if_neg (by rw [h1]; simp), if_neg (by rw [h]; simp)]
theorem rv_ok (h : rvE r i = 0) : nameB (r.getD i default).nm = true ∧ ((r.take i).any fun q => nmEq q.nm (r.getD i default).nm) = false ∧ posE r.length i (r.getD i default) = 0 := by
  cases h1 : nameB (r.getD i default).nm with
  | false => rw [rv_6 h1] at h; omega
  | true =>
    cases h2 : (r.take i).any fun q => nmEq q.nm (r.getD i default).nm with
    | true => rw [rv_5 h1 h2] at h; omega
    | false => rw [rv_p h1 h2] at h; exact ⟨rfl, rfl, h⟩
theorem pos_ok {n i : Int} {p : RvT} (h : posE n i p = 0) : ((0 ≤ p.ls ∧ p.ls ≤ 500) ∧ (0 ≤ p.ht ∧ p.ht ≤ 9000)) ∧ (-1 ≤ p.dn ∧ p.dn ≤ n - 1) ∧ ¬ (p.dn = i ∨ (p.dn = -1 ∧ p.ls ≠ 0)) := by
  unfold posE at h
  split at h
  · omega
  · rename_i h1
    split at h
    · omega
    · rename_i h2
      split at h
      · omega
      · rename_i h3
        exact ⟨Decidable.not_not.1 h1, Decidable.not_not.1 h2, h3⟩
theorem chk_1 (h : ¬ (1 ≤ r.length ∧ r.length ≤ 9)) : chk r = (1, 0, 3) := by unfold chk; rw [if_pos h]
theorem chk_2 (h1 : 1 ≤ r.length ∧ r.length ≤ 9) (h : (K.fst (rvE r) (List.range r.length)).2 ≠ 0) : chk r = (2, K.fst (rvE r) (List.range r.length)) := by unfold chk; rw [if_neg (fun h' => h' h1), if_pos h]
theorem chk_3 (h1 : 1 ≤ r.length ∧ r.length ≤ 9) (h2 : (K.fst (rvE r) (List.range r.length)).2 = 0) (h : (mouS r r.length).length = 0) : chk r = (3, 0, 8) := by unfold chk; rw [if_neg (fun h' => h' h1), if_neg (fun h' => h' h2), if_pos h]
theorem chk_4 (h1 : 1 ≤ r.length ∧ r.length ≤ 9) (h2 : (K.fst (rvE r) (List.range r.length)).2 = 0) (h : (mouS r r.length).length > 1) : chk r = (3, (((mouS r r.length).getD 1 0 : Nat) : Int), 2) := by unfold chk; rw [if_neg (fun h' => h' h1), if_neg (fun h' => h' h2), if_neg (by omega), if_pos h]
theorem chk_5 (h1 : 1 ≤ r.length ∧ r.length ≤ 9) (h2 : (K.fst (rvE r) (List.range r.length)).2 = 0) (h3 : (mouS r r.length).length = 1) (hi : i < r.length) (hall : ∀ j, j < i → reaB r j = true) (h : reaB r i = false) : chk r = (3, (i : Int), 9) := by
  unfold chk; rw [if_neg (fun h' => h' h1), if_neg (fun h' => h' h2), if_neg (by omega), if_neg (by omega)]
  have : (List.range r.length).find? (fun i => !reaB r i) = some i := by
    rw [List.find?_range_eq_some]
    exact ⟨by rw [h]; rfl, List.mem_range.2 hi, fun j hj => by rw [hall j hj]; rfl⟩
  rw [this]
theorem chk_0 (h1 : 1 ≤ r.length ∧ r.length ≤ 9) (h2 : (K.fst (rvE r) (List.range r.length)).2 = 0) (h3 : (mouS r r.length).length = 1) (hall : ∀ j, j < r.length → reaB r j = true) : chk r = (0, 0, 0) := by
  unfold chk; rw [if_neg (fun h' => h' h1), if_neg (fun h' => h' h2), if_neg (by omega), if_neg (by omega)]
  have : (List.range r.length).find? (fun i => !reaB r i) = none := by
    rw [List.find?_eq_none]
    intro j hj; rw [hall j (List.mem_range.1 hj)]; decide
  rw [this]
theorem mou_s (h : (r.getD k default).dn = -1) : mouS r (k + 1) = mouS r k ++ [k] := by unfold mouS; rw [List.range_succ, List.filter_append, List.filter_cons_of_pos (p := fun i => decide ((r.getD i default).dn = -1)) (decide_eq_true h), List.filter_nil]
theorem mou_n (h : (r.getD k default).dn ≠ -1) : mouS r (k + 1) = mouS r k := by unfold mouS; rw [List.range_succ, List.filter_append, List.filter_cons_of_neg (p := fun i => decide ((r.getD i default).dn = -1)) (fun h' => h (of_decide_eq_true h')), List.filter_nil, List.append_nil]
theorem mou_len : (mouS r k).length ≤ k := by unfold mouS; exact Nat.le_trans (List.length_filter_le _ _) (by simp)
theorem mou_mono (h : i ≤ k) : ∃ z, mouS r k = mouS r i ++ z := by
  induction k with
  | zero => exact ⟨[], by rw [show i = 0 by omega]; rfl⟩
  | succ k ih =>
    rcases Nat.lt_or_ge k i with h1 | h1
    · exact ⟨[], by rw [show i = k + 1 by omega, List.append_nil]⟩
    · obtain ⟨z, hz⟩ := ih h1
      by_cases hd : (r.getD k default).dn = -1
      · exact ⟨z ++ [k], by rw [mou_s hd, hz, List.append_assoc]⟩
      · exact ⟨z, by rw [mou_n hd, hz]⟩
/-- A second mouth. -/
theorem mou_two (h1 : (mouS r k).length = 1) (hd : (r.getD k default).dn = -1) (hk : k < r.length) : (mouS r r.length).length > 1 ∧ (mouS r r.length).getD 1 0 = k := by
  obtain ⟨z, hz⟩ := mou_mono (r := r) (show k + 1 ≤ r.length by omega)
  rw [mou_s hd] at hz
  obtain ⟨a, ha⟩ := List.length_eq_one_iff.1 h1
  rw [hz, ha]
  simp
theorem fst_0 {f : Nat → Int} {n : Nat} (h : ∀ j, j < n → f j = 0) : (K.fst f (List.range n)).2 = 0 := by
  rw [K.fst_none (fun j hj => ?_)]
  have : j < n := by simpa using hj
  rw [List.getD_eq_getElem?_getD, List.getElem?_range this]; exact h j this
theorem fst_at {f : Nat → Int} {n k : Nat} (hk : k < n) (h : ∀ j, j < k → f j = 0) (h1 : f k ≠ 0) : K.fst f (List.range n) = ((k : Int), f k) := by
  have e : ∀ j, j < n → (List.range n).getD j default = j := fun j hj => by rw [List.getD_eq_getElem?_getD, List.getElem?_range hj]; rfl
  rw [K.fst_found (k := k) (by simpa using hk) (fun j hj => by rw [e j (by omega)]; exact h j hj) (by rw [e k hk]; exact h1), e k hk]
/-- Rivers without an error are good. -/
theorem chk_good (h : (chk r).2.2 = 0) : Good r := by
  unfold chk at h
  split at h
  · simp at h
  · rename_i h1
    have h1 := Decidable.not_not.1 h1
    split at h
    · rename_i h2; exact absurd h h2
    · rename_i h2
      have h2 := Decidable.not_not.1 h2
      split at h
      · simp at h
      · rename_i h3
        split at h
        · simp at h
        · rename_i h4
          cases e : (List.range r.length).find? (fun i => !reaB r i) with
          | some i => rw [e] at h; simp at h
          | none =>
            have hall : ∀ i, i < r.length → rvE r i = 0 := by
              intro i hi
              by_cases h0 : ∃ k, k < r.length ∧ rvE r k ≠ 0
              · exfalso
                have hex : ∃ k, k < r.length ∧ rvE r k ≠ 0 ∧ ∀ j, j < k → rvE r j = 0 := by
                  obtain ⟨k, hk, hne⟩ := h0
                  induction k using Nat.strongRecOn with
                  | _ k ih =>
                    by_cases hs : ∃ j, j < k ∧ rvE r j ≠ 0
                    · obtain ⟨j, hj, hj2⟩ := hs
                      exact ih j hj (by omega) hj2
                    · exact ⟨k, hk, hne, fun j hj => Decidable.not_not.1 fun hn => hs ⟨j, hj, hn⟩⟩
                obtain ⟨k, hk, hne, hj⟩ := hex
                rw [fst_at hk hj hne] at h2
                exact hne h2
              · exact Decidable.not_not.1 fun hn => h0 ⟨i, hi, hn⟩
            have hp := fun i hi => pos_ok (rv_ok (hall i hi)).2.2
            refine ⟨h1, fun i hi => ?_, ?_, fun i hi => ?_⟩
            · obtain ⟨a, b, c⟩ := hp i hi
              exact ⟨a, b, fun hm => Decidable.not_not.1 fun hn => c (.inr ⟨hm, hn⟩)⟩
            · have hl : (mouS r r.length).length = 1 := by omega
              obtain ⟨a, ha⟩ := List.length_eq_one_iff.1 hl
              have hm : ∀ i, i ∈ mouS r r.length ↔ i < r.length ∧ (r.getD i default).dn = -1 := fun i => by
                unfold mouS; rw [List.mem_filter, List.mem_range, decide_eq_true_iff]
              rw [ha] at hm
              have h5 := (hm a).1 (List.mem_singleton.2 rfl)
              exact ⟨a, h5.1, h5.2, fun i hi hd => List.mem_singleton.1 ((hm i).2 ⟨hi, hd⟩)⟩
            · have := List.find?_eq_none.1 e i (List.mem_range.2 hi)
              have h6 : reaB r i = true := by simpa using this
              exact of_decide_eq_true h6
/-- Points without an error lead to points. -/
theorem stps_in (h : ∀ i, i < r.length → -1 ≤ (r.getD i default).dn ∧ (r.getD i default).dn ≤ (r.length : Int) - 1) (hi : i < r.length) : ∀ k, stps r k i < r.length
  | 0 => hi
  | k + 1 => by
    have h1 := stps_in h hi k
    have h2 := h _ h1
    show stp r (stps r k i) < _
    unfold stp
    split
    · exact h1
    · omega
theorem stps_up (h : (r.getD (stps r k i) default).dn ≠ -1) : stps r (k + 1) i = (r.getD (stps r k i) default).dn.toNat := stp_d h
theorem stps_st (h : (r.getD (stps r k i) default).dn = -1) : stps r (k + 1) i = stps r k i := stp_m h
theorem stps_rest (h : (r.getD (stps r k i) default).dn = -1) : ∀ {m : Nat}, k ≤ m → stps r m i = stps r k i := fun {m} hm => by
  have := stps_m h (m - k)
  rw [stps_add] at this
  rw [← this]; congr 1; omega
theorem chk_at (h1 : 1 ≤ r.length ∧ r.length ≤ 9) (hk : k < r.length) (hall : ∀ j, j < k → rvE r j = 0) (h : rvE r k ≠ 0) : chk r = (2, (k : Int), rvE r k) := by
  rw [chk_2 h1 (by rw [fst_at hk hall h]; exact h), fst_at hk hall h]
/-- The names that were met. -/
def kvS (r : List RvT) (k : Nat) : List (Value × Int) := (r.take k).map fun p => (Value.string p.nm, (1 : Int))
theorem kv_s (h : k < r.length) : kvS r (k + 1) = kvS r k ++ [(Value.string (r.getD k default).nm, 1)] := by
  unfold kvS
  rw [List.take_add_one, List.map_append, List.getD_eq_getElem?_getD, List.getElem?_eq_getElem h]; rfl
theorem kv_at {p : Value × Int} (h : p ∈ kvS r k) : ∃ q ∈ r.take k, p = (Value.string q.nm, 1) := by
  unfold kvS at h
  obtain ⟨q, hq, rfl⟩ := List.mem_map.1 h
  exact ⟨q, hq, rfl⟩
theorem kv_dup {s : ByteArray} : (∃ p ∈ kvS r k, p.1 = .string s) ↔ ((r.take k).any fun q => nmEq q.nm s) = true := by
  rw [List.any_eq_true]
  constructor
  · rintro ⟨p, hp, h⟩
    obtain ⟨q, hq, rfl⟩ := kv_at hp
    exact ⟨q, hq, nm_eq.2 (by injection h)⟩
  · rintro ⟨q, hq, h⟩
    exact ⟨_, List.mem_map_of_mem hq, by rw [nm_eq.1 h]⟩
theorem kv_fresh {s : ByteArray} (h : ∀ p ∈ kvS r k, p.1 ≠ .string s) : ((r.take k).any fun q => nmEq q.nm s) = false := by
  cases e : (r.take k).any fun q => nmEq q.nm s with
  | false => rfl
  | true => obtain ⟨p, hp, h2⟩ := kv_dup.2 e; exact absurd h2 (h p hp)
theorem take_at {q : RvT} (h : q ∈ r.take k) (hk : k ≤ r.length) : ∃ j, j < k ∧ q = r.getD j default := by
  obtain ⟨j, hj, e⟩ := List.mem_take_iff_getElem.1 h
  exact ⟨j, by omega, by rw [List.getD_eq_getElem?_getD, List.getElem?_eq_getElem (by omega)]; exact e.symm⟩
theorem kv_nm (hk : k ≤ r.length) (hall : ∀ j, j < k → rvE r j = 0) {p : Value × Int} (h : p ∈ kvS r k) : ∃ s : ByteArray, p = (.string s, 1) ∧ s.size ≤ 16 := by
  obtain ⟨q, hq, rfl⟩ := kv_at h
  obtain ⟨j, hj, rfl⟩ := take_at hq hk
  have h1 := (rv_ok (hall j hj)).1
  unfold nameB at h1
  rw [Bool.and_eq_true] at h1
  have := of_decide_eq_true h1.1
  exact ⟨_, rfl, by omega⟩
theorem nm_size {s : ByteArray} (h1 : nameB s = true) : s.size ≤ 16 := by
  unfold nameB at h1
  rw [Bool.and_eq_true] at h1
  have := of_decide_eq_true h1.1
  omega
theorem kv_nd (hk : k ≤ r.length) (hall : ∀ j, j < k → rvE r j = 0) : ((kvS r k).map (·.1)).Nodup := by
  induction k with
  | zero => simp [kvS]
  | succ k ih =>
    rw [kv_s (by omega), List.map_append]
    refine List.nodup_append.2 ⟨ih (by omega) (fun j hj => hall j (by omega)), by simp, fun a ha c hc he => ?_⟩
    obtain ⟨p, hp, rfl⟩ := List.mem_map.1 ha
    have hc2 : c = Value.string (r.getD k default).nm := by simpa using hc
    have := kv_dup.1 ⟨p, hp, he.trans hc2⟩
    rw [(rv_ok (hall k (by omega))).2.1] at this
    cases this
/-- What asking and counting a name gives. -/
def MetOk (kvs : List (Value × Int)) (s : ByteArray) (p : Int × List (Value × Int)) : Prop :=
  ((∀ q ∈ kvs, q.1 ≠ .string s) ∧ p.1 = 1 ∧ p.2 = kvs ++ [(.string s, 1)]) ∨ ((∃ q ∈ kvs, q.1 = .string s) ∧ p.1 ≥ 2)
theorem met_ok {kvs kvs' : List (Value × Int)} {s : ByteArray} {n m : Int} (hv : ∀ p ∈ kvs, 1 ≤ p.2) (hd : (kvs.map (·.1)).Nodup) (h1 : (n = 0 ∧ ∀ p ∈ kvs, p.1 ≠ .string s) ∨ (.string s, n) ∈ kvs) (h2 : K.PutQ kvs (.string s) (n + 1) kvs')
    (h3 : (m = 0 ∧ ∀ p ∈ kvs', p.1 ≠ .string s) ∨ (.string s, m) ∈ kvs') : MetOk kvs s (m, kvs') := by
  rcases h2 with ⟨hno, rfl⟩ | ⟨j, n', hj, rfl⟩
  · left
    have hn : n = 0 := by
      rcases h1 with h | h
      · exact h.1
      · exact absurd rfl (hno _ h)
    subst hn
    refine ⟨hno, ?_, rfl⟩
    rcases h3 with ⟨_, h3⟩ | h3
    · exact absurd rfl (h3 (.string s, 0 + 1) (by simp))
    · rcases List.mem_append.1 h3 with h | h
      · exact absurd rfl (hno _ h)
      · simp at h; exact h
  · right
    have hmem := List.mem_of_getElem? hj
    have hjl : j < kvs.length := (List.getElem?_eq_some_iff.1 hj).1
    refine ⟨⟨_, hmem, rfl⟩, ?_⟩
    have huniq : ∀ (i : Nat) (x : Int), kvs[i]? = some (.string s, x) → i = j := fun i x hi => by
      have a1 : (kvs.map (·.1))[i]? = some (.string s) := by rw [List.getElem?_map, hi]; rfl
      have a2 : (kvs.map (·.1))[j]? = some (.string s) := by rw [List.getElem?_map, hj]; rfl
      have hil : i < kvs.length := (List.getElem?_eq_some_iff.1 hi).1
      exact (List.getElem?_inj (by simpa using hil) hd).1 (a1.trans a2.symm)
    have hn : n = n' := by
      rcases h1 with h | h
      · exact absurd rfl (h.2 _ hmem)
      · obtain ⟨i, hi⟩ := List.getElem?_of_mem h
        obtain rfl := huniq i _ hi
        rw [hi] at hj; injection hj with hj; injection hj with _ hj
    have hn1 := hv _ hmem
    simp only at hn1
    rcases h3 with ⟨_, h3⟩ | h3
    · refine absurd rfl (h3 (.string s, n + 1) (List.mem_of_getElem? (i := j) ?_))
      rw [List.getElem?_set_self hjl]
    · obtain ⟨i, hi⟩ := List.getElem?_of_mem h3
      by_cases hij : j = i
      · subst hij
        rw [List.getElem?_set_self hjl] at hi
        injection hi with hi; injection hi with _ hi
        show m ≥ 2
        omega
      · rw [List.getElem?_set_ne hij] at hi
        exact absurd (huniq i _ hi).symm hij
end
end Go.Proofs.YtoemnobfnnjopaaDoor
