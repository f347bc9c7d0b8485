/-
  Lemmas and walks of functions, joined and with only what the claim needs.
  Conditions stand in each theorem.
-/
import Derived.Test.YtoemnobfnnjopaaDoorProg
import Derived.Test.YtoemnobfnnjopaaDoorRows
import Derived.Below
import Derived.Laws.AppendOwn
import Derived.Laws.Rows
import Derived.Laws.Slices
import Derived.Tactics
import Derived.OrdersHeld
import Derived.KernelRfl
import Derived.WalkKit
import Derived.Deep.AppendLies
import Derived.IntWalk
import Derived.Scope
import Derived.WalkSpells
import Derived.DeepKeys
import Derived.Deep.Upon
import Derived.RangeFuncLeaves
import Derived.RangeFuncSeq
import Derived.OrdersIn
import Derived.Sort.LoopGhostIn
import Derived.TacticsIn
import Derived.RangeFuncOwn
import Derived.WideKeyMaps
import Derived.DeepKeys4
import Derived.Carry
import Derived.Laws.CopyRow
import Derived.Laws.Strings
import Derived.WalkArith
import Derived.Laws.Closers25b
import Derived.ProofKit
import Derived.OpenShut
import Derived.LaidMore
import Derived.Lay
import Derived.Stop.Joined
import Derived.ChangeOld
import Derived.SizedLaws
import Derived.Deep.Slices
import Derived.Deep.Fields
import Derived.ChangeSame
import Derived.Lib.SmallJoins
import Derived.Laws.MakeOwn
import Derived.Shelf.Sort.Plain
import Derived.Sort.OwnSortedInts
import Derived.SevenTiedAt
import Derived.Test.YtoemnobfnnjopaaDoorZa
section
set_option linter.unusedSimpArgs false
set_option linter.unusedVariables false
namespace Go.Proofs.YtoemnobfnnjopaaDoor
open Go
theorem mem_of_none {E : Type} [Inhabited E] {xs : List E} {n : E} (h : ∀ j, j < xs.length → xs.getD j default ≠ n) : n ∉ xs := fun hm => by
  obtain ⟨j, hj, rfl⟩ := List.getElem_of_mem hm
  exact h j hj (by rw [List.getD_eq_getElem?_getD, List.getElem?_eq_getElem hj]; rfl)
/-- Lists that grow by one. -/
theorem take_succ_map {E F : Type} [Inhabited E] (f : E → F) {xs : List E} {k : Nat} (h : k < xs.length) : (xs.take (k + 1)).map f = (xs.take k).map f ++ [f (xs.getD k default)] := by
  rw [List.take_add_one, List.getElem?_eq_getElem h, List.map_append]
  simp [List.getD_eq_getElem?_getD, h]
/-- The numbers below n that p chooses. -/
def selN (p : Nat → Bool) (n : Nat) : List Int := ((List.range n).filter p).map fun (i : Nat) => (i : Int)
theorem selN_succ {p : Nat → Bool} {n : Nat} : selN p (n + 1) = selN p n ++ (if p n then [(n : Int)] else []) := by
  unfold selN
  rw [List.range_succ, List.filter_append, List.map_append]
  split <;> simp_all
theorem selN_len {p : Nat → Bool} {n : Nat} : (selN p n).length ≤ n := by
  unfold selN; rw [List.length_map]
  exact Nat.le_trans (List.length_filter_le _ _) (by simp)
theorem mem_sel {p : Nat → Bool} {n : Nat} {x : Int} : x ∈ selN p n ↔ ∃ i : Nat, i < n ∧ p i = true ∧ x = (i : Int) := by
  unfold selN
  simp only [List.mem_map, List.mem_filter, List.mem_range]
  constructor
  · rintro ⟨i, ⟨h1, h2⟩, rfl⟩; exact ⟨i, h1, h2, rfl⟩
  · rintro ⟨i, h1, h2, rfl⟩; exact ⟨i, ⟨h1, h2⟩, rfl⟩
theorem selN_yes {p : Nat → Bool} {n : Nat} (h : p n = true) : selN p (n + 1) = selN p n ++ [(n : Int)] := by rw [selN_succ, if_pos h]
theorem selN_no {p : Nat → Bool} {n : Nat} (h : p n = false) : selN p (n + 1) = selN p n := by rw [selN_succ, if_neg (by simp [h]), List.append_nil]
theorem selN_congr {p q : Nat → Bool} {n : Nat} (h : ∀ i, i < n → p i = q i) : selN p n = selN q n := by
  unfold selN; rw [List.filter_congr (fun i hi => h i (List.mem_range.1 hi))]
theorem list_ext {a b : List Int} (hl : a.length = b.length) (h : ∀ j, j < a.length → a.getD j default = b.getD j default) : a = b := by
  apply List.ext_getElem hl
  intro i h1 h2
  have := h i h1
  rwa [List.getD_eq_getElem?_getD, List.getD_eq_getElem?_getD, List.getElem?_eq_getElem h1, List.getElem?_eq_getElem h2] at this
def tabZ : List Int := [0,1,56,2,57,49,28,3,61,58,42,50,38,29,17,4,62,47,59,36,45,43,51,22,53,39,33,30,24,18,12,5,63,55,48,27,60,41,37,16,46,35,44,21,52,32,23,11,54,26,40,15,34,20,31,10,25,14,19,9,13,8,7,6]
def tab64 : List Value := tabZ.map fun n => .int .u8 n
def low1 (x : Int) : Int := IntKind.u64.wrap (BitVec.ofInt IntKind.u64.bits x &&& BitVec.ofInt IntKind.u64.bits (IntKind.u64.wrap (0 - x))).toNat
def idxZ (x : Int) : Int := (IntKind.u64.wrap (low1 x * 285870213051353865)).fdiv (2 ^ min ((58 : Int)).toNat IntKind.u64.bits)
def tzS (x : Int) : Int := tabZ.getD (idxZ x).toNat 0
def andS (x : Int) : Int := IntKind.i64.wrap (BitVec.ofInt IntKind.i64.bits x &&& BitVec.ofInt IntKind.i64.bits (x - 1)).toNat
def bitsL (s : Int) : List Int := selN (fun i => s.toNat.testBit i) 9
def bitC (n : Nat) : Bool := n == 0 || (decide (0 ≤ idxZ (n : Int) ∧ idxZ (n : Int) < 64) && decide (0 ≤ tzS (n : Int) ∧ tzS (n : Int) ≤ 8) && decide (0 ≤ andS (n : Int) ∧ andS (n : Int) < (n : Int)) && decide (bitsL (n : Int) = tzS (n : Int) :: bitsL (andS (n : Int))))
theorem bit_0 : (List.range 32).all (fun n => bitC (n + 0)) = true := by decide +kernel
theorem bit_1 : (List.range 32).all (fun n => bitC (n + 32)) = true := by decide +kernel
theorem bit_2 : (List.range 32).all (fun n => bitC (n + 64)) = true := by decide +kernel
theorem bit_3 : (List.range 32).all (fun n => bitC (n + 96)) = true := by decide +kernel
theorem bit_4 : (List.range 32).all (fun n => bitC (n + 128)) = true := by decide +kernel
theorem bit_5 : (List.range 32).all (fun n => bitC (n + 160)) = true := by decide +kernel
theorem bit_6 : (List.range 32).all (fun n => bitC (n + 192)) = true := by decide +kernel
theorem bit_7 : (List.range 32).all (fun n => bitC (n + 224)) = true := by decide +kernel
theorem bit_8 : (List.range 32).all (fun n => bitC (n + 256)) = true := by decide +kernel
theorem bit_9 : (List.range 32).all (fun n => bitC (n + 288)) = true := by decide +kernel
theorem bit_10 : (List.range 32).all (fun n => bitC (n + 320)) = true := by decide +kernel
theorem bit_11 : (List.range 32).all (fun n => bitC (n + 352)) = true := by decide +kernel
theorem bit_12 : (List.range 32).all (fun n => bitC (n + 384)) = true := by decide +kernel
theorem bit_13 : (List.range 32).all (fun n => bitC (n + 416)) = true := by decide +kernel
theorem bit_14 : (List.range 32).all (fun n => bitC (n + 448)) = true := by decide +kernel
theorem bit_15 : (List.range 32).all (fun n => bitC (n + 480)) = true := by decide +kernel
theorem bit_all {n : Nat} (h : n < 512) : bitC n = true := by
  have key : ∀ k m, (List.range 32).all (fun n => bitC (n + m)) = true → m = 32 * k → n / 32 = k → bitC n = true := fun k m hk hm hn => by
    have := List.all_eq_true.1 hk (n % 32) (List.mem_range.2 (by omega))
    rwa [show n % 32 + m = n by omega] at this
  have hd : n / 32 < 16 := by omega
  generalize e : n / 32 = q at hd
  rcases (show q = 0 ∨ q = 1 ∨ q = 2 ∨ q = 3 ∨ q = 4 ∨ q = 5 ∨ q = 6 ∨ q = 7 ∨ q = 8 ∨ q = 9 ∨ q = 10 ∨ q = 11 ∨ q = 12 ∨ q = 13 ∨ q = 14 ∨ q = 15 by omega) with rfl | rfl | rfl | rfl | rfl | rfl | rfl | rfl | rfl | rfl | rfl | rfl | rfl | rfl | rfl | rfl
  · exact key 0 _ bit_0 rfl e
  · exact key 1 _ bit_1 rfl e
  · exact key 2 _ bit_2 rfl e
  · exact key 3 _ bit_3 rfl e
  · exact key 4 _ bit_4 rfl e
  · exact key 5 _ bit_5 rfl e
  · exact key 6 _ bit_6 rfl e
  · exact key 7 _ bit_7 rfl e
  · exact key 8 _ bit_8 rfl e
  · exact key 9 _ bit_9 rfl e
  · exact key 10 _ bit_10 rfl e
  · exact key 11 _ bit_11 rfl e
  · exact key 12 _ bit_12 rfl e
  · exact key 13 _ bit_13 rfl e
  · exact key 14 _ bit_14 rfl e
  · exact key 15 _ bit_15 rfl e
theorem bit_at {x : Int} (h : 1 ≤ x ∧ x ≤ 511) : (0 ≤ idxZ x ∧ idxZ x < 64) ∧ (0 ≤ tzS x ∧ tzS x ≤ 8) ∧ (0 ≤ andS x ∧ andS x < x) ∧ bitsL x = tzS x :: bitsL (andS x) := by
  obtain ⟨n, rfl⟩ := Int.eq_ofNat_of_zero_le (show 0 ≤ x by omega)
  have h1 := bit_all (n := n) (by omega)
  unfold bitC at h1
  rw [Bool.or_eq_true] at h1
  rcases h1 with h1 | h1
  · have := eq_of_beq h1; omega
  · simp only [Bool.and_eq_true, decide_eq_true_eq] at h1
    exact ⟨h1.1.1.1, h1.1.1.2, h1.1.2, h1.2⟩
theorem tab_at {k : Nat} (h : k < 64) : tab64[0 + k * 1]? = some (.int .u8 (tabZ.getD k 0)) := by
  have hl : tabZ.length = 64 := by decide
  obtain ⟨v, hv⟩ : ∃ v, tabZ[k]? = some v := ⟨_, List.getElem?_eq_getElem (by omega)⟩
  rw [show 0 + k * 1 = k by omega]
  unfold tab64
  rw [List.getElem?_map, List.getD_eq_getElem?_getD, hv]; rfl
theorem idx_at {x : Int} (h : 1 ≤ x ∧ x ≤ 511) : (0 ≤ idxZ x ∧ idxZ x < 64) ∧ tab64[0 + (idxZ x).toNat * 1]? = some (.int .u8 (tzS x)) ∧ (0 ≤ tzS x ∧ tzS x ≤ 8) := by
  obtain ⟨h1, h2, _⟩ := bit_at h
  have ht : tzS x = tabZ.getD (idxZ x).toNat 0 := rfl
  exact ⟨h1, ht ▸ tab_at (by omega), h2⟩
theorem bits_at {x : Int} (h : 1 ≤ x ∧ x ≤ 511) : (0 ≤ andS x ∧ andS x < x) ∧ bitsL x = tzS x :: bitsL (andS x) := (bit_at h).2.2
theorem bits_0 : bitsL 0 = [] := by decide
theorem bits_len {x : Int} : (bitsL x).length ≤ 9 := selN_len
end Go.Proofs.YtoemnobfnnjopaaDoor

namespace Go.Proofs.YtoemnobfnnjopaaDoor
open Go
/-- The order of lists. -/
def cmpL : List Int → List Int → Int
  | [], [] => 0
  | [], _ :: _ => -1
  | _ :: _, [] => 1
  | a :: x, b :: y => if a < b then -1 else if a > b then 1 else cmpL x y
def cmpS (a b : Int) : Int := if a < b then -1 else if a > b then 1 else 0
theorem cmp0 {a b : Int} (h : cmpS a b = 0) : a = b := by unfold cmpS at h; split at h <;> (try split at h) <;> omega
theorem cmpL_cons {a b : Int} {x y : List Int} : cmpL (a :: x) (b :: y) = if cmpS a b ≠ 0 then cmpS a b else cmpL x y := by
  unfold cmpS; rw [cmpL]
  split
  · simp
  · split <;> simp
theorem cmpL_drop : ∀ {k : Nat} {xs ys : List Int}, (∀ j, j < k → xs.getD j default = ys.getD j default) → k ≤ xs.length → k ≤ ys.length → cmpL xs ys = cmpL (xs.drop k) (ys.drop k)
  | 0, _, _, _, _, _ => rfl
  | k + 1, [], _, _, h, _ => by simp at h
  | k + 1, _ :: _, [], _, _, h => by simp at h
  | k + 1, x :: xs, y :: ys, hall, h1, h2 => by
    have h0 := hall 0 (by omega)
    simp at h0
    rw [cmpL_cons, if_neg (by subst h0; simp [cmpS]), List.drop_succ_cons, List.drop_succ_cons]
    exact cmpL_drop (fun j hj => by have := hall (j + 1) (by omega); simpa using this) (by simpa using h1) (by simpa using h2)
section
variable {k : Nat} {xs ys : List Int}
theorem cmpL_long (hall : ∀ j, j < k → xs.getD j default = ys.getD j default) (h1 : k < xs.length) (h2 : k = ys.length) : cmpL xs ys = 1 := by
  rw [cmpL_drop hall (by omega) (by omega), show ys.drop k = [] from List.drop_of_length_le (by omega), List.drop_eq_getElem_cons h1]; rfl
theorem cmpL_diff (hall : ∀ j, j < k → xs.getD j default = ys.getD j default) (h1 : k < xs.length) (h2 : k < ys.length) (hne : cmpS (xs.getD k default) (ys.getD k default) ≠ 0) : cmpL xs ys = cmpS (xs.getD k default) (ys.getD k default) := by
  rw [cmpL_drop hall (by omega) (by omega), List.drop_eq_getElem_cons h1, List.drop_eq_getElem_cons h2, cmpL_cons]
  simp only [List.getD_eq_getElem?_getD, List.getElem?_eq_getElem h1, List.getElem?_eq_getElem h2, Option.getD_some] at hne ⊢
  rw [if_pos hne]
theorem cmpL_short (hall : ∀ j, j < k → xs.getD j default = ys.getD j default) (h1 : k = xs.length) (h2 : k < ys.length) : cmpL xs ys = -1 := by
  rw [cmpL_drop hall (by omega) (by omega), show xs.drop k = [] from List.drop_of_length_le (by omega), List.drop_eq_getElem_cons h2]; rfl
theorem cmpL_same (hall : ∀ j, j < k → xs.getD j default = ys.getD j default) (h1 : k = xs.length) (h2 : k = ys.length) : cmpL xs ys = 0 := by
  rw [cmpL_drop hall (by omega) (by omega), show xs.drop k = [] from List.drop_of_length_le (by omega), show ys.drop k = [] from List.drop_of_length_le (by omega)]; rfl
end
theorem cmpL_anti : ∀ a b : List Int, cmpL b a = - cmpL a b
  | [], [] => rfl
  | [], _ :: _ => rfl
  | _ :: _, [] => rfl
  | a :: x, b :: y => by
    have ih := cmpL_anti x y
    rw [cmpL, cmpL]
    split <;> split <;> (try split) <;> omega
theorem cmpL_tr : ∀ {a b c : List Int}, cmpL a b < 0 → cmpL b c < 0 → cmpL a c < 0
  | [], [], _, h, _ => by simp [cmpL] at h
  | [], _ :: _, [], _, h => by simp [cmpL] at h
  | [], _ :: _, _ :: _, _, _ => by simp [cmpL]
  | _ :: _, [], _, h, _ => by simp [cmpL] at h
  | _ :: _, _ :: _, [], _, h => by simp [cmpL] at h
  | a :: x, b :: y, c :: z, h1, h2 => by
    rw [cmpL] at h1 h2 ⊢
    by_cases hac : a < c
    · rw [if_pos hac]; omega
    · by_cases hab : a < b
      · rw [if_pos hab] at h1
        rw [if_neg (by omega)] at h2
        rw [if_pos (by omega)] at h2
        omega
      · rw [if_neg hab] at h1
        by_cases hba : a > b
        · rw [if_pos hba] at h1; omega
        · rw [if_neg hba] at h1
          rw [if_neg (by omega)] at h2
          by_cases hbc : b > c
          · rw [if_pos hbc] at h2; omega
          · rw [if_neg hbc] at h2
            rw [if_neg hac, if_neg (by omega)]
            exact cmpL_tr h1 h2
/-- The ascending lists of so many numbers from one on, below another one. -/
def lsF : Nat → Int → Int → List (List Int)
  | 0, _, _ => [[]]
  | m + 1, f, n => (List.range (n - f).toNat).flatMap fun (j : Nat) => (lsF m (f + (j : Int) + 1) n).map (List.cons (f + (j : Int)))
def partF (m : Nat) (f n : Int) (k : Nat) : List (List Int) := (List.range k).flatMap fun (j : Nat) => (lsF m (f + (j : Int) + 1) n).map (List.cons (f + (j : Int)))
section
variable {m k : Nat} {f n : Int} {z : List Int}
theorem partF_succ : partF m f n (k + 1) = partF m f n k ++ (lsF m (f + (k : Int) + 1) n).map (List.cons (f + (k : Int))) := by
  unfold partF; rw [List.range_succ, List.flatMap_append]; simp
theorem partF_all : partF m f n (n - f).toNat = lsF (m + 1) f n := rfl
theorem lsF_ln : ∀ {m : Nat} {f n : Int} {z : List Int}, z ∈ lsF m f n → z.length = m
  | 0, f, n, z, h => by simp [lsF] at h; subst h; rfl
  | m + 1, f, n, z, h => by
    unfold lsF at h
    obtain ⟨j, _, hz⟩ := List.mem_flatMap.1 h
    obtain ⟨y, hy, rfl⟩ := List.mem_map.1 hz
    rw [List.length_cons, lsF_ln hy]
theorem part_of (h : ∀ j : Nat, j < k → (lsF m (f + (j : Int) + 1) n).length ≤ 9 ^ m) : (partF m f n k).length ≤ k * 9 ^ m := by
  induction k with
  | zero => simp [partF]
  | succ k ih =>
    rw [partF_succ, List.length_append, List.length_map, Nat.succ_mul]
    have := ih (fun j hj => h j (by omega))
    have := h k (by omega)
    omega
theorem lsF_pow (hn : n ≤ 9) : ∀ (m : Nat) {f : Int}, 0 ≤ f → (lsF m f n).length ≤ 9 ^ m
  | 0, _, _ => by simp [lsF]
  | m + 1, f, hf => by
    rw [← partF_all]
    have h := part_of (m := m) (f := f) (n := n) (k := (n - f).toNat) (fun j _ => lsF_pow hn m (by omega))
    refine Nat.le_trans h ?_
    rw [Nat.pow_succ, Nat.mul_comm (9 ^ m) 9]
    exact Nat.mul_le_mul_right _ (by omega)
theorem pow9 (hm : m ≤ 9) : 9 ^ m ≤ 387420489 := Nat.pow_le_pow_right (by decide : 9 > 0) hm
theorem lsF_len (hn : n ≤ 9) (hf : 0 ≤ f) (hm : m ≤ 9) : (lsF m f n).length ≤ 387420489 := Nat.le_trans (lsF_pow hn m hf) (pow9 hm)
theorem partF_len (hn : n ≤ 9) (hf : 0 ≤ f) (hm : m ≤ 9) (hk : k ≤ 9) : (partF m f n k).length ≤ 3486784401 := by
  have h := part_of (m := m) (f := f) (n := n) (k := k) (fun j _ => lsF_pow hn m (by omega))
  have h2 := pow9 hm
  have := Nat.mul_le_mul hk h2
  omega
/-- All ascending lists of so many numbers. -/
theorem mem_lsF : ∀ {m : Nat} {f n : Int} {z : List Int}, z ∈ lsF m f n ↔ z.length = m ∧ z.Pairwise (· < ·) ∧ ∀ x ∈ z, f ≤ x ∧ x < n
  | 0, f, n, z => by
    simp only [lsF, List.mem_singleton]
    constructor
    · rintro rfl; simp
    · rintro ⟨h, _⟩; exact List.length_eq_zero_iff.1 h
  | m + 1, f, n, z => by
    unfold lsF
    rw [List.mem_flatMap]
    constructor
    · rintro ⟨j, hj, hz⟩
      obtain ⟨y, hy, rfl⟩ := List.mem_map.1 hz
      obtain ⟨h1, h2, h3⟩ := mem_lsF.1 hy
      have hj := List.mem_range.1 hj
      refine ⟨by rw [List.length_cons, h1], List.pairwise_cons.2 ⟨fun x hx => by have := h3 x hx; omega, h2⟩, fun x hx => ?_⟩
      rcases List.mem_cons.1 hx with rfl | hx
      · omega
      · have := h3 x hx; omega
    · rintro ⟨h1, h2, h3⟩
      cases z with
      | nil => simp at h1
      | cons a y =>
        obtain ⟨h4, h5⟩ := List.pairwise_cons.1 h2
        have ha := h3 a (List.mem_cons_self ..)
        refine ⟨(a - f).toNat, List.mem_range.2 (by omega), List.mem_map.2 ⟨y, mem_lsF.2 ⟨by simpa using h1, h5, fun x hx => ?_⟩, by congr 1; omega⟩⟩
        have := h4 x hx
        have := h3 x (List.mem_cons_of_mem _ hx)
        omega
theorem cmpL_same1 {a : Int} {x y : List Int} : cmpL (a :: x) (a :: y) = cmpL x y := by
  rw [cmpL, if_neg (by omega), if_neg (by omega)]
/-- They stand in order. -/
theorem pw_lsF : ∀ {m : Nat} {f n : Int}, (lsF m f n).Pairwise fun a b => cmpL a b < 0
  | 0, f, n => by unfold lsF; exact List.pairwise_singleton _ _
  | m + 1, f, n => by
    unfold lsF
    rw [List.pairwise_flatMap]
    refine ⟨fun j _ => ?_, ?_⟩
    · rw [List.pairwise_map]
      exact pw_lsF.imp fun h => by rw [cmpL_same1]; exact h
    · refine List.pairwise_lt_range.imp fun {j k} hjk x hx y hy => ?_
      obtain ⟨x', _, rfl⟩ := List.mem_map.1 hx
      obtain ⟨y', _, rfl⟩ := List.mem_map.1 hy
      rw [cmpL, if_pos (by omega)]; decide
theorem selN_pw {p : Nat → Bool} {n : Nat} : (selN p n).Pairwise (· < ·) := by
  unfold selN
  rw [List.pairwise_map]
  exact (List.pairwise_lt_range.filter _).imp fun h => by omega
/-- An ascending list is the numbers that it has. -/
theorem sorted_sel {z : List Int} {n : Nat} (h1 : z.Pairwise (· < ·)) (h2 : ∀ x ∈ z, 0 ≤ x ∧ x < n) : selN (fun i => decide ((i : Int) ∈ z)) n = z := by
  have key : ∀ {a b : List Int}, a.Pairwise (· < ·) → b.Pairwise (· < ·) → (∀ x, x ∈ a ↔ x ∈ b) → a = b := by
    intro a
    induction a with
    | nil => intro b _ _ h; cases b with
      | nil => rfl
      | cons y b => exact absurd ((h y).2 (List.mem_cons_self ..)) (by simp)
    | cons x a ih =>
      intro b ha hb h
      cases b with
      | nil => exact absurd ((h x).1 (List.mem_cons_self ..)) (by simp)
      | cons y b =>
        obtain ⟨ha1, ha2⟩ := List.pairwise_cons.1 ha
        obtain ⟨hb1, hb2⟩ := List.pairwise_cons.1 hb
        have hxy : x = y := by
          rcases List.mem_cons.1 ((h x).1 (List.mem_cons_self ..)) with e | e
          · exact e
          · rcases List.mem_cons.1 ((h y).2 (List.mem_cons_self ..)) with e2 | e2
            · exact e2.symm
            · have := hb1 x e; have := ha1 y e2; omega
        subst hxy
        rw [ih ha2 hb2 (fun w => ?_)]
        constructor
        · intro hw
          rcases List.mem_cons.1 ((h w).1 (List.mem_cons_of_mem _ hw)) with e | e
          · have := ha1 w hw; omega
          · exact e
        · intro hw
          rcases List.mem_cons.1 ((h w).2 (List.mem_cons_of_mem _ hw)) with e | e
          · have := hb1 w hw; omega
          · exact e
  refine key selN_pw h1 (fun x => ?_)
  rw [mem_sel]
  constructor
  · rintro ⟨i, _, h, rfl⟩; exact of_decide_eq_true h
  · intro hx
    have := h2 x hx
    refine ⟨x.toNat, by omega, ?_, by omega⟩
    rw [show ((x.toNat : Nat) : Int) = x by omega]; exact decide_eq_true hx
end
end Go.Proofs.YtoemnobfnnjopaaDoor

namespace Go.Proofs.YtoemnobfnnjopaaDoor
open Go
theorem nm_eq {a b : ByteArray} : nmEq a b = true ↔ a = b := by
  unfold nmEq
  rw [beq_iff_eq, ByteArray.toList_eq, ByteArray.toList_eq]
  constructor
  · intro h
    cases a; cases b
    simp at h; rw [h]
  · rintro rfl; rfl
/-- The error of a point but its name. -/
def posE (n i : Int) (p : RvT) : Int :=
  if ¬ ((0 ≤ p.ls ∧ p.ls ≤ 500) ∧ (0 ≤ p.ht ∧ p.ht ≤ 9000)) then 7
  else if ¬ (-1 ≤ p.dn ∧ p.dn ≤ n - 1) then 4
  else if p.dn = i ∨ (p.dn = -1 ∧ p.ls ≠ 0) then 2 else 0
/-- The error of a point. -/
def rvE (r : List RvT) (i : Nat) : Int :=
  if nameB (r.getD i default).nm = false then 6
  else if ((r.take i).any fun q => nmEq q.nm (r.getD i default).nm) = true then 5
  else posE r.length i (r.getD i default)
/-- The mouths among the first k points. -/
def mouS (r : List RvT) (k : Nat) : List Nat := (List.range k).filter fun i => decide ((r.getD i default).dn = -1)
/-- The water comes to the mouth. -/
def reaB (r : List RvT) (i : Nat) : Bool := decide ((r.getD (stps r r.length i) default).dn = -1)
/-- The part, index and error of rivers. -/
def chk (r : List RvT) : Int × Int × Int :=
  if ¬ (1 ≤ r.length ∧ r.length ≤ 9) then (1, 0, 3)
  else if (K.fst (rvE r) (List.range r.length)).2 ≠ 0 then (2, K.fst (rvE r) (List.range r.length))
  else if (mouS r r.length).length = 0 then (3, 0, 8)
  else if (mouS r r.length).length > 1 then (3, (((mouS r r.length).getD 1 0 : Nat) : Int), 2)
  else match (List.range r.length).find? (fun i => !reaB r i) with
    | some i => (3, (i : Int), 9)
    | none => (0, 0, 0)
section
variable {r : List RvT} {i k : Nat}
theorem pos_7 {n i : Int} {p : RvT} (h : ¬ ((0 ≤ p.ls ∧ p.ls ≤ 500) ∧ (0 ≤ p.ht ∧ p.ht ≤ 9000))) : posE n i p = 7 := by unfold posE; rw [if_pos h]
theorem pos_4 {n i : Int} {p : RvT} (h1 : (0 ≤ p.ls ∧ p.ls ≤ 500) ∧ (0 ≤ p.ht ∧ p.ht ≤ 9000)) (h : ¬ (-1 ≤ p.dn ∧ p.dn ≤ n - 1)) : posE n i p = 4 := by unfold posE; rw [if_neg (fun h' => h' h1), if_pos h]
theorem pos_2 {n i : Int} {p : RvT} (h1 : (0 ≤ p.ls ∧ p.ls ≤ 500) ∧ (0 ≤ p.ht ∧ p.ht ≤ 9000)) (h2 : -1 ≤ p.dn ∧ p.dn ≤ n - 1) (h : p.dn = i ∨ (p.dn = -1 ∧ p.ls ≠ 0)) : posE n i p = 2 := by unfold posE; rw [if_neg (fun h' => h' h1), if_neg (fun h' => h' h2), if_pos h]
theorem pos_0 {n i : Int} {p : RvT} (h1 : (0 ≤ p.ls ∧ p.ls ≤ 500) ∧ (0 ≤ p.ht ∧ p.ht ≤ 9000)) (h2 : -1 ≤ p.dn ∧ p.dn ≤ n - 1) (h : ¬ (p.dn = i ∨ (p.dn = -1 ∧ p.ls ≠ 0))) : posE n i p = 0 := by unfold posE; rw [if_neg (fun h' => h' h1), if_neg (fun h' => h' h2), if_neg h]
theorem rv_6 (h : nameB (r.getD i default).nm = false) : rvE r i = 6 := by unfold rvE; rw [if_pos h]
theorem rv_5 (h1 : nameB (r.getD i default).nm = true) (h : ((r.take i).any fun q => nmEq q.nm (r.getD i default).nm) = true) : rvE r i = 5 := by unfold rvE; rw [if_neg (by rw [h1]; simp), if_pos h]
theorem rv_p (h1 : nameB (r.getD i default).nm = true) (h : ((r.take i).any fun q => nmEq q.nm (r.getD i default).nm) = false) : rvE r i = posE r.length i (r.getD i default) := by unfold rvE; rw [if_neg (by rw [h1]; simp), if_neg (by rw [h]; simp)]
theorem rv_ok (h : rvE r i = 0) : nameB (r.getD i default).nm = true ∧ ((r.take i).any fun q => nmEq q.nm (r.getD i default).nm) = false ∧ posE r.length i (r.getD i default) = 0 := by
  cases h1 : nameB (r.getD i default).nm with
  | false => rw [rv_6 h1] at h; omega
  | true =>
    cases h2 : (r.take i).any fun q => nmEq q.nm (r.getD i default).nm with
    | true => rw [rv_5 h1 h2] at h; omega
    | false => rw [rv_p h1 h2] at h; exact ⟨rfl, rfl, h⟩
theorem pos_ok {n i : Int} {p : RvT} (h : posE n i p = 0) : ((0 ≤ p.ls ∧ p.ls ≤ 500) ∧ (0 ≤ p.ht ∧ p.ht ≤ 9000)) ∧ (-1 ≤ p.dn ∧ p.dn ≤ n - 1) ∧ ¬ (p.dn = i ∨ (p.dn = -1 ∧ p.ls ≠ 0)) := by
  unfold posE at h
  split at h
  · omega
  · rename_i h1
    split at h
    · omega
    · rename_i h2
      split at h
      · omega
      · rename_i h3
        exact ⟨Decidable.not_not.1 h1, Decidable.not_not.1 h2, h3⟩
theorem chk_1 (h : ¬ (1 ≤ r.length ∧ r.length ≤ 9)) : chk r = (1, 0, 3) := by unfold chk; rw [if_pos h]
theorem chk_2 (h1 : 1 ≤ r.length ∧ r.length ≤ 9) (h : (K.fst (rvE r) (List.range r.length)).2 ≠ 0) : chk r = (2, K.fst (rvE r) (List.range r.length)) := by unfold chk; rw [if_neg (fun h' => h' h1), if_pos h]
theorem chk_3 (h1 : 1 ≤ r.length ∧ r.length ≤ 9) (h2 : (K.fst (rvE r) (List.range r.length)).2 = 0) (h : (mouS r r.length).length = 0) : chk r = (3, 0, 8) := by unfold chk; rw [if_neg (fun h' => h' h1), if_neg (fun h' => h' h2), if_pos h]
theorem chk_4 (h1 : 1 ≤ r.length ∧ r.length ≤ 9) (h2 : (K.fst (rvE r) (List.range r.length)).2 = 0) (h : (mouS r r.length).length > 1) : chk r = (3, (((mouS r r.length).getD 1 0 : Nat) : Int), 2) := by unfold chk; rw [if_neg (fun h' => h' h1), if_neg (fun h' => h' h2), if_neg (by omega), if_pos h]
theorem chk_5 (h1 : 1 ≤ r.length ∧ r.length ≤ 9) (h2 : (K.fst (rvE r) (List.range r.length)).2 = 0) (h3 : (mouS r r.length).length = 1) (hi : i < r.length) (hall : ∀ j, j < i → reaB r j = true) (h : reaB r i = false) : chk r = (3, (i : Int), 9) := by
  unfold chk; rw [if_neg (fun h' => h' h1), if_neg (fun h' => h' h2), if_neg (by omega), if_neg (by omega)]
  have : (List.range r.length).find? (fun i => !reaB r i) = some i := by
    rw [List.find?_range_eq_some]
    exact ⟨by rw [h]; rfl, List.mem_range.2 hi, fun j hj => by rw [hall j hj]; rfl⟩
  rw [this]
theorem chk_0 (h1 : 1 ≤ r.length ∧ r.length ≤ 9) (h2 : (K.fst (rvE r) (List.range r.length)).2 = 0) (h3 : (mouS r r.length).length = 1) (hall : ∀ j, j < r.length → reaB r j = true) : chk r = (0, 0, 0) := by
  unfold chk; rw [if_neg (fun h' => h' h1), if_neg (fun h' => h' h2), if_neg (by omega), if_neg (by omega)]
  have : (List.range r.length).find? (fun i => !reaB r i) = none := by
    rw [List.find?_eq_none]
    intro j hj; rw [hall j (List.mem_range.1 hj)]; decide
  rw [this]
theorem mou_s (h : (r.getD k default).dn = -1) : mouS r (k + 1) = mouS r k ++ [k] := by unfold mouS; rw [List.range_succ, List.filter_append, List.filter_cons_of_pos (p := fun i => decide ((r.getD i default).dn = -1)) (decide_eq_true h), List.filter_nil]
theorem mou_n (h : (r.getD k default).dn ≠ -1) : mouS r (k + 1) = mouS r k := by unfold mouS; rw [List.range_succ, List.filter_append, List.filter_cons_of_neg (p := fun i => decide ((r.getD i default).dn = -1)) (fun h' => h (of_decide_eq_true h')), List.filter_nil, List.append_nil]
theorem mou_len : (mouS r k).length ≤ k := by unfold mouS; exact Nat.le_trans (List.length_filter_le _ _) (by simp)
theorem mou_mono (h : i ≤ k) : ∃ z, mouS r k = mouS r i ++ z := by
  induction k with
  | zero => exact ⟨[], by rw [show i = 0 by omega]; rfl⟩
  | succ k ih =>
    rcases Nat.lt_or_ge k i with h1 | h1
    · exact ⟨[], by rw [show i = k + 1 by omega, List.append_nil]⟩
    · obtain ⟨z, hz⟩ := ih h1
      by_cases hd : (r.getD k default).dn = -1
      · exact ⟨z ++ [k], by rw [mou_s hd, hz, List.append_assoc]⟩
      · exact ⟨z, by rw [mou_n hd, hz]⟩
/-- A second mouth. -/
theorem mou_two (h1 : (mouS r k).length = 1) (hd : (r.getD k default).dn = -1) (hk : k < r.length) : (mouS r r.length).length > 1 ∧ (mouS r r.length).getD 1 0 = k := by
  obtain ⟨z, hz⟩ := mou_mono (r := r) (show k + 1 ≤ r.length by omega)
  rw [mou_s hd] at hz
  obtain ⟨a, ha⟩ := List.length_eq_one_iff.1 h1
  rw [hz, ha]
  simp
theorem fst_0 {f : Nat → Int} {n : Nat} (h : ∀ j, j < n → f j = 0) : (K.fst f (List.range n)).2 = 0 := by
  rw [K.fst_none (fun j hj => ?_)]
  have : j < n := by simpa using hj
  rw [List.getD_eq_getElem?_getD, List.getElem?_range this]; exact h j this
theorem fst_at {f : Nat → Int} {n k : Nat} (hk : k < n) (h : ∀ j, j < k → f j = 0) (h1 : f k ≠ 0) : K.fst f (List.range n) = ((k : Int), f k) := by
  have e : ∀ j, j < n → (List.range n).getD j default = j := fun j hj => by rw [List.getD_eq_getElem?_getD, List.getElem?_range hj]; rfl
  rw [K.fst_found (k := k) (by simpa using hk) (fun j hj => by rw [e j (by omega)]; exact h j hj) (by rw [e k hk]; exact h1), e k hk]
/-- Rivers without an error are good. -/
theorem chk_good (h : (chk r).2.2 = 0) : Good r := by
  unfold chk at h
  split at h
  · simp at h
  · rename_i h1
    have h1 := Decidable.not_not.1 h1
    split at h
    · rename_i h2; exact absurd h h2
    · rename_i h2
      have h2 := Decidable.not_not.1 h2
      split at h
      · simp at h
      · rename_i h3
        split at h
        · simp at h
        · rename_i h4
          cases e : (List.range r.length).find? (fun i => !reaB r i) with
          | some i => rw [e] at h; simp at h
          | none =>
            have hall : ∀ i, i < r.length → rvE r i = 0 := by
              intro i hi
              by_cases h0 : ∃ k, k < r.length ∧ rvE r k ≠ 0
              · exfalso
                have hex : ∃ k, k < r.length ∧ rvE r k ≠ 0 ∧ ∀ j, j < k → rvE r j = 0 := by
                  obtain ⟨k, hk, hne⟩ := h0
                  induction k using Nat.strongRecOn with
                  | _ k ih =>
                    by_cases hs : ∃ j, j < k ∧ rvE r j ≠ 0
                    · obtain ⟨j, hj, hj2⟩ := hs
                      exact ih j hj (by omega) hj2
                    · exact ⟨k, hk, hne, fun j hj => Decidable.not_not.1 fun hn => hs ⟨j, hj, hn⟩⟩
                obtain ⟨k, hk, hne, hj⟩ := hex
                rw [fst_at hk hj hne] at h2
                exact hne h2
              · exact Decidable.not_not.1 fun hn => h0 ⟨i, hi, hn⟩
            have hp := fun i hi => pos_ok (rv_ok (hall i hi)).2.2
            refine ⟨h1, fun i hi => ?_, ?_, fun i hi => ?_⟩
            · obtain ⟨a, b, c⟩ := hp i hi
              exact ⟨a, b, fun hm => Decidable.not_not.1 fun hn => c (.inr ⟨hm, hn⟩)⟩
            · have hl : (mouS r r.length).length = 1 := by omega
              obtain ⟨a, ha⟩ := List.length_eq_one_iff.1 hl
              have hm : ∀ i, i ∈ mouS r r.length ↔ i < r.length ∧ (r.getD i default).dn = -1 := fun i => by
                unfold mouS; rw [List.mem_filter, List.mem_range, decide_eq_true_iff]
              rw [ha] at hm
              have h5 := (hm a).1 (List.mem_singleton.2 rfl)
              exact ⟨a, h5.1, h5.2, fun i hi hd => List.mem_singleton.1 ((hm i).2 ⟨hi, hd⟩)⟩
            · have := List.find?_eq_none.1 e i (List.mem_range.2 hi)
              have h6 : reaB r i = true := by simpa using this
              exact of_decide_eq_true h6
/-- Points without an error lead to points. -/
theorem stps_in (h : ∀ i, i < r.length → -1 ≤ (r.getD i default).dn ∧ (r.getD i default).dn ≤ (r.length : Int) - 1) (hi : i < r.length) : ∀ k, stps r k i < r.length
  | 0 => hi
  | k + 1 => by
    have h1 := stps_in h hi k
    have h2 := h _ h1
    show stp r (stps r k i) < _
    unfold stp
    split
    · exact h1
    · omega
theorem stps_up (h : (r.getD (stps r k i) default).dn ≠ -1) : stps r (k + 1) i = (r.getD (stps r k i) default).dn.toNat := stp_d h
theorem stps_st (h : (r.getD (stps r k i) default).dn = -1) : stps r (k + 1) i = stps r k i := stp_m h
theorem stps_rest (h : (r.getD (stps r k i) default).dn = -1) : ∀ {m : Nat}, k ≤ m → stps r m i = stps r k i := fun {m} hm => by
  have := stps_m h (m - k)
  rw [stps_add] at this
  rw [← this]; congr 1; omega
theorem chk_at (h1 : 1 ≤ r.length ∧ r.length ≤ 9) (hk : k < r.length) (hall : ∀ j, j < k → rvE r j = 0) (h : rvE r k ≠ 0) : chk r = (2, (k : Int), rvE r k) := by
  rw [chk_2 h1 (by rw [fst_at hk hall h]; exact h), fst_at hk hall h]
/-- The names that were met. -/
def kvS (r : List RvT) (k : Nat) : List (Value × Int) := (r.take k).map fun p => (Value.string p.nm, (1 : Int))
theorem kv_s (h : k < r.length) : kvS r (k + 1) = kvS r k ++ [(Value.string (r.getD k default).nm, 1)] := by
  unfold kvS
  rw [List.take_add_one, List.map_append, List.getD_eq_getElem?_getD, List.getElem?_eq_getElem h]; rfl
theorem kv_at {p : Value × Int} (h : p ∈ kvS r k) : ∃ q ∈ r.take k, p = (Value.string q.nm, 1) := by
  unfold kvS at h
  obtain ⟨q, hq, rfl⟩ := List.mem_map.1 h
  exact ⟨q, hq, rfl⟩
theorem kv_dup {s : ByteArray} : (∃ p ∈ kvS r k, p.1 = .string s) ↔ ((r.take k).any fun q => nmEq q.nm s) = true := by
  rw [List.any_eq_true]
  constructor
  · rintro ⟨p, hp, h⟩
    obtain ⟨q, hq, rfl⟩ := kv_at hp
    exact ⟨q, hq, nm_eq.2 (by injection h)⟩
  · rintro ⟨q, hq, h⟩
    exact ⟨_, List.mem_map_of_mem hq, by rw [nm_eq.1 h]⟩
theorem kv_fresh {s : ByteArray} (h : ∀ p ∈ kvS r k, p.1 ≠ .string s) : ((r.take k).any fun q => nmEq q.nm s) = false := by
  cases e : (r.take k).any fun q => nmEq q.nm s with
  | false => rfl
  | true => obtain ⟨p, hp, h2⟩ := kv_dup.2 e; exact absurd h2 (h p hp)
theorem take_at {q : RvT} (h : q ∈ r.take k) (hk : k ≤ r.length) : ∃ j, j < k ∧ q = r.getD j default := by
  obtain ⟨j, hj, e⟩ := List.mem_take_iff_getElem.1 h
  exact ⟨j, by omega, by rw [List.getD_eq_getElem?_getD, List.getElem?_eq_getElem (by omega)]; exact e.symm⟩
theorem kv_nm (hk : k ≤ r.length) (hall : ∀ j, j < k → rvE r j = 0) {p : Value × Int} (h : p ∈ kvS r k) : ∃ s : ByteArray, p = (.string s, 1) ∧ s.size ≤ 16 := by
  obtain ⟨q, hq, rfl⟩ := kv_at h
  obtain ⟨j, hj, rfl⟩ := take_at hq hk
  have h1 := (rv_ok (hall j hj)).1
  unfold nameB at h1
  rw [Bool.and_eq_true] at h1
  have := of_decide_eq_true h1.1
  exact ⟨_, rfl, by omega⟩
theorem nm_size {s : ByteArray} (h1 : nameB s = true) : s.size ≤ 16 := by
  unfold nameB at h1
  rw [Bool.and_eq_true] at h1
  have := of_decide_eq_true h1.1
  omega
theorem kv_nd (hk : k ≤ r.length) (hall : ∀ j, j < k → rvE r j = 0) : ((kvS r k).map (·.1)).Nodup := by
  induction k with
  | zero => simp [kvS]
  | succ k ih =>
    rw [kv_s (by omega), List.map_append]
    refine List.nodup_append.2 ⟨ih (by omega) (fun j hj => hall j (by omega)), by simp, fun a ha c hc he => ?_⟩
    obtain ⟨p, hp, rfl⟩ := List.mem_map.1 ha
    have hc2 : c = Value.string (r.getD k default).nm := by simpa using hc
    have := kv_dup.1 ⟨p, hp, he.trans hc2⟩
    rw [(rv_ok (hall k (by omega))).2.1] at this
    cases this
/-- What asking and counting a name gives. -/
def MetOk (kvs : List (Value × Int)) (s : ByteArray) (p : Int × List (Value × Int)) : Prop :=
  ((∀ q ∈ kvs, q.1 ≠ .string s) ∧ p.1 = 1 ∧ p.2 = kvs ++ [(.string s, 1)]) ∨ ((∃ q ∈ kvs, q.1 = .string s) ∧ p.1 ≥ 2)
theorem met_ok {kvs kvs' : List (Value × Int)} {s : ByteArray} {n m : Int} (hv : ∀ p ∈ kvs, 1 ≤ p.2) (hd : (kvs.map (·.1)).Nodup) (h1 : (n = 0 ∧ ∀ p ∈ kvs, p.1 ≠ .string s) ∨ (.string s, n) ∈ kvs) (h2 : K.PutQ kvs (.string s) (n + 1) kvs')
    (h3 : (m = 0 ∧ ∀ p ∈ kvs', p.1 ≠ .string s) ∨ (.string s, m) ∈ kvs') : MetOk kvs s (m, kvs') := by
  rcases h2 with ⟨hno, rfl⟩ | ⟨j, n', hj, rfl⟩
  · left
    have hn : n = 0 := by
      rcases h1 with h | h
      · exact h.1
      · exact absurd rfl (hno _ h)
    subst hn
    refine ⟨hno, ?_, rfl⟩
    rcases h3 with ⟨_, h3⟩ | h3
    · exact absurd rfl (h3 (.string s, 0 + 1) (by simp))
    · rcases List.mem_append.1 h3 with h | h
      · exact absurd rfl (hno _ h)
      · simp at h; exact h
  · right
    have hmem := List.mem_of_getElem? hj
    have hjl : j < kvs.length := (List.getElem?_eq_some_iff.1 hj).1
    refine ⟨⟨_, hmem, rfl⟩, ?_⟩
    have huniq : ∀ (i : Nat) (x : Int), kvs[i]? = some (.string s, x) → i = j := fun i x hi => by
      have a1 : (kvs.map (·.1))[i]? = some (.string s) := by rw [List.getElem?_map, hi]; rfl
      have a2 : (kvs.map (·.1))[j]? = some (.string s) := by rw [List.getElem?_map, hj]; rfl
      have hil : i < kvs.length := (List.getElem?_eq_some_iff.1 hi).1
      exact (List.getElem?_inj (by simpa using hil) hd).1 (a1.trans a2.symm)
    have hn : n = n' := by
      rcases h1 with h | h
      · exact absurd rfl (h.2 _ hmem)
      · obtain ⟨i, hi⟩ := List.getElem?_of_mem h
        obtain rfl := huniq i _ hi
        rw [hi] at hj; injection hj with hj; injection hj with _ hj
    have hn1 := hv _ hmem
    simp only at hn1
    rcases h3 with ⟨_, h3⟩ | h3
    · refine absurd rfl (h3 (.string s, n + 1) (List.mem_of_getElem? (i := j) ?_))
      rw [List.getElem?_set_self hjl]
    · obtain ⟨i, hi⟩ := List.getElem?_of_mem h3
      by_cases hij : j = i
      · subst hij
        rw [List.getElem?_set_self hjl] at hi
        injection hi with hi; injection hi with _ hi
        show m ≥ 2
        omega
      · rw [List.getElem?_set_ne hij] at hi
        exact absurd (huniq i _ hi).symm hij
end
end Go.Proofs.YtoemnobfnnjopaaDoor
end
section
set_option linter.unusedSimpArgs false
set_option linter.unusedVariables false
namespace Go.Proofs.YtoemnobfnnjopaaDoor
open Go.RowKit Go
open Go.K (setd setn ev nth over cl eI eP eT setM setF)
attribute [local irreducible] K.blk K.row
theorem bs1 (a : Int) : K.Bs Tryd.prog 26 1 [(0, .int .i64 a)] 3 [.int .i64 a] := fun w => by kernel_rfl
theorem bs2 (a b : Int) : K.Bs Tryd.prog 26 2 [(0, .int .i64 a), (1, .int .i64 b)] 3 [.int .i64 a, .int .i64 b] := fun w => by kernel_rfl

set_option maxRecDepth 100000 in
theorem c49 {n a b : Int} (w : World) :
    Calls Tryd.prog 49 [.int .i64 n, .int .i64 a, .int .i64 b].toArray w (K.Gives (.bool (decide (a ≤ n ∧ n ≤ b))) w) := by
  refine K.enter (args := [.int .i64 n, .int .i64 a, .int .i64 b]) Tryd.func49 rfl (n := 12) rfl ?_
  simp only [List.replicate, List.cons_append, List.nil_append]
  refine sr ?_
  refine qa ?_
  refine sn ?_
  refine sr ?_
  iterate 2 refine qm ?_
  refine qp (K.geq rfl rfl) ?_
  refine qm ?_
  refine K.split 10 rfl (fun hg10 => ?_) (fun hg10 => ?_)
  · try replace hg10 := of_decide_eq_true hg10
    iterate 2 refine qm ?_
    refine qp (K.leq rfl rfl) ?_
    refine qp (K.pick_t rfl) ?_
    refine qa ?_
    refine sn ?_
    refine K.ret ?_
    refine K.end_ret (fun w _ => K.res_tmp rfl w) ?_
    exact K.gives_b rfl (by rw [eq_comm, decide_eq_decide.2 (by omega : (a ≤ n ∧ n ≤ b) ↔ n ≤ b)])
  try replace hg10 := of_decide_eq_false hg10
  iterate 3 refine qs ?_
  refine qp (K.pick_f rfl) ?_
  refine qa ?_
  refine sn ?_
  refine K.ret ?_
  refine K.end_ret (fun w _ => K.res_tmp rfl w) ?_
  exact K.gives_b rfl (by rw [eq_comm, decide_eq_false_iff_not]; omega)

set_option maxRecDepth 100000 in
theorem c96 {n a b : Int} (w : World) :
    Calls Tryd.prog 96 [.int .i64 n, .int .i64 a, .int .i64 b].toArray w (K.Gives (.bool (decide (a ≤ n ∧ n ≤ b))) w) := by
  refine K.enter (args := [.int .i64 n, .int .i64 a, .int .i64 b]) Tryd.func96 rfl (n := 12) rfl ?_
  simp only [List.replicate, List.cons_append, List.nil_append]
  refine sr ?_
  refine qa ?_
  refine sn ?_
  refine sr ?_
  iterate 2 refine qm ?_
  refine qp (K.geq rfl rfl) ?_
  refine qm ?_
  refine K.split 10 rfl (fun hg10 => ?_) (fun hg10 => ?_)
  · try replace hg10 := of_decide_eq_true hg10
    iterate 2 refine qm ?_
    refine qp (K.leq rfl rfl) ?_
    refine qp (K.pick_t rfl) ?_
    refine qa ?_
    refine sn ?_
    refine K.ret ?_
    refine K.end_ret (fun w _ => K.res_tmp rfl w) ?_
    exact K.gives_b rfl (by rw [eq_comm, decide_eq_decide.2 (by omega : (a ≤ n ∧ n ≤ b) ↔ n ≤ b)])
  try replace hg10 := of_decide_eq_false hg10
  iterate 3 refine qs ?_
  refine qp (K.pick_f rfl) ?_
  refine qa ?_
  refine sn ?_
  refine K.ret ?_
  refine K.end_ret (fun w _ => K.res_tmp rfl w) ?_
  exact K.gives_b rfl (by rw [eq_comm, decide_eq_false_iff_not]; omega)

set_option maxRecDepth 100000 in
theorem c81 {n lo hi : Int} {p q : Addr} {w : World} (hp : w.cell? p = some (.int .i64 lo)) (hq : w.cell? q = some (.int .i64 hi)) :
    Calls Tryd.prog 81 [.int .i64 n, .pointer (some p), .pointer (some q)].toArray w (K.Gives (.bool (decide (n < lo) || decide (n > hi))) w) := by
  refine K.enter (args := [.int .i64 n, .pointer (some p), .pointer (some q)]) Tryd.func81 rfl (n := 10) rfl ?_
  simp only [List.replicate, List.cons_append, List.nil_append]
  refine sr ?_
  refine qa ?_
  refine sn ?_
  refine sr ?_
  refine qm ?_
  refine K.seq_sil (K.load1 one_3 rfl ((K.PtrL.cell1 hp).any)) rfl ?_
  refine zN ?_
  refine qp (K.lss rfl rfl) ?_
  refine qm ?_
  refine K.split 8 rfl (fun hg8 => ?_) (fun hg8 => ?_)
  · try replace hg8 := of_decide_eq_true hg8
    iterate 3 refine qs ?_
    refine qp (K.pick_t rfl) ?_
    refine qa ?_
    refine sn ?_
    refine K.ret ?_
    refine K.end_ret (fun w _ => K.res_tmp rfl w) ?_
    exact K.gives_b rfl (by simp [hg8])
  try replace hg8 := of_decide_eq_false hg8
  refine qm ?_
  refine K.seq_sil (K.load1 one_3 rfl ((K.PtrL.cell1 hq).any)) rfl ?_
  refine zN ?_
  refine qp (K.gtr rfl rfl) ?_
  refine qp (K.pick_f rfl) ?_
  refine qa ?_
  refine sn ?_
  refine K.ret ?_
  refine K.end_ret (fun w _ => K.res_tmp rfl w) ?_
  exact K.gives_b rfl (by simp [hg8])

set_option maxRecDepth 100000 in
theorem c91 {A : Option Addr} {c f : Nat} {cap : List Value} {xs : List Int} {p : Int → Bool} {w : World} (hR : K.Rd w A 1 K.eI xs) (hn : xs.length ≤ 4611686018427387904) (hcal : K.callable Tryd.prog f = true) (hf : ∀ x ∈ xs, ∀ w1, Below w.heap.size w w1 → Calls Tryd.prog f ([Value.int .i64 x] ++ cap).toArray w1 (K.Gives (.bool (p x)) w1)) :
    Calls Tryd.prog 91 [.slice A xs.length c, .func (.func f) #[] cap.toArray].toArray w (K.Gives (.int .i64 (K.idx p xs)) w) := by
  refine K.enter (args := [.slice A xs.length c, .func (.func f) #[] cap.toArray]) Tryd.func91 rfl (n := 17) rfl ?_
  simp only [List.replicate, List.cons_append, List.nil_append]
  refine sr ?_
  refine qa ?_
  refine sn ?_
  refine K.seq ?_
  refine sr ?_
  refine qm ?_
  refine qp (K.len_sl sl_26 rfl) ?_
  refine qm ?_
  refine sn ?_
  refine K.block ?_
  refine K.loopW [8] [4, 5, 9, 10, 11, 12, 13, 14, 15, 16, 17, 18] (fun vi L => ∃ k : Nat, vi = [.int .i64 (k : Int)] ∧ L = [] ∧ k ≤ xs.length ∧ ∀ j, j < k → p (xs.getD j default) = false) (fun vi => xs.length - (intOf (K.nth vi 0)).toNat) ?_ ?_
  · exact ⟨0, rfl, rfl, Nat.zero_le _, fun j hj => absurd hj (Nat.not_lt_zero j)⟩
  intro vi vr L hJ
  obtain ⟨k, rfl, rfl, hkn, hall⟩ := hJ
  try dsimp only [setd, setn, ev, nth, over, cl, eI, eP, eT, eR, setM, setF, List.map, List.append, List.drop, List.take]
  refine sr ?_
  refine qp (K.lss rfl rfl) ?_
  refine sn ?_
  refine K.seq ?_
  refine K.cond rfl (fun ht9 => ?_) (fun ht9 => ?_)
  · try replace ht9 := of_decide_eq_true ht9
    have hk : k < xs.length := by omega
    refine K.skip ?_
    refine K.norm_then ?_
    refine K.seq ?_
    refine K.block ?_
    refine sr ?_
    refine qm ?_
    refine qa ?_
    refine sn ?_
    refine sr ?_
    iterate 3 refine qm ?_
    refine K.seq_ix (M := []) _ hR.sl sl_26 rfl rfl rfl (by omega) rfl ?_
    intro p14 hp14
    refine zN ?_
    refine K.seq_sil (K.load1 one_3 rfl (hp14.any)) rfl ?_
    refine zN ?_
    refine K.seq_call (K.callv_g (first := []) (cap := cap) rfl hcal (fun F w1 _ hw => hf _ (K.gt_mem hk) w1 hw.1)) rfl ?_
    refine zN ?_
    refine sn ?_
    refine K.cond rfl (fun ht16 => ?_) (fun ht16 => ?_)
    · try replace ht16 := of_decide_eq_true ht16
      refine sr ?_
      refine qm ?_
      refine qa ?_
      refine sn ?_
      refine K.ret ?_
      refine K.ret_block ?_
      refine K.ret_then ?_
      refine K.ret_then ?_
      refine K.ret_block ?_
      refine K.ret_then ?_
      refine K.end_ret (fun w _ => K.res_tmp rfl w) ?_
      exact K.gives_i rfl (K.idx_found hk hall ht16).symm
    try replace ht16 := of_decide_eq_false ht16
    refine K.skip ?_
    refine K.norm_block ?_
    refine K.norm_then ?_
    refine K.region_lit ?_
    refine qp (K.add_i64 rfl rfl (by omega)) ?_
    refine qm ?_
    refine K.seq_nil ?_
    exact K.round_endW [.int .i64 ((k : Int) + 1)] ⟨k + 1, rfl, rfl, by omega, K.lt_succ_case hall ht16⟩ (by simp [K.nth, intOf]; omega) (List.Sublist.refl _) (by kernel_rfl)
  try replace ht9 := of_decide_eq_false ht9
  refine K.exit ?_
  refine K.exit_then ?_
  refine K.exit_then ?_
  refine K.exit_here ?_
  refine K.norm_then ?_
  refine sr ?_
  refine qa ?_
  refine sn ?_
  refine K.ret ?_
  refine K.end_ret (fun w _ => K.res_tmp rfl w) ?_
  exact K.gives_i rfl (K.idx_none (fun j hj => hall j (by omega))).symm

set_option maxRecDepth 100000 in
theorem c69 {A : Option Addr} {c f : Nat} {cap : List Value} {xs : List Int} {p : Int → Bool} {w : World} (hR : K.Rd w A 1 K.eI xs) (hn : xs.length ≤ 4611686018427387904) (hcal : K.callable Tryd.prog f = true) (hf : ∀ x ∈ xs, ∀ w1, Below w.heap.size w w1 → Calls Tryd.prog f ([Value.int .i64 x] ++ cap).toArray w1 (K.Gives (.bool (p x)) w1)) :
    Calls Tryd.prog 69 [.slice A xs.length c, .func (.func f) #[] cap.toArray].toArray w (K.Gives (.bool (xs.any p)) w) := by
  refine K.enter (args := [.slice A xs.length c, .func (.func f) #[] cap.toArray]) Tryd.func69 rfl (n := 7) rfl ?_
  simp only [List.replicate, List.cons_append, List.nil_append]
  refine sr ?_
  refine qa ?_
  refine sn ?_
  refine sr ?_
  iterate 2 refine qm ?_
  refine K.seq_call (K.call_g cal_91 (fun F w hF hw => c91 (p := p) (cap := cap) (hR.pass hw) hn hcal (fun x hx w1 hb => hf x hx w1 (hw.1.trans (hb.mono hw.1.size))))) rfl ?_
  refine zN ?_
  refine qp (K.geq rfl rfl) ?_
  refine qa ?_
  refine sn ?_
  refine K.ret ?_
  refine K.end_ret (fun w _ => K.res_tmp rfl w) ?_
  exact K.gives_b rfl K.idx_ge

set_option maxRecDepth 100000 in
theorem c46 {lo hi : Int} {A : Option Addr} {c : Nat} {xs : List Int} {w : World} (hR : K.Rd w A 1 K.eI xs) (hn : xs.length ≤ 4611686018427387904) :
    Calls Tryd.prog 46 [.int .i64 lo, .int .i64 hi, .slice A xs.length c].toArray w (K.Gives (.bool (outB lo hi xs)) w) := by
  refine K.enter (args := [.int .i64 lo, .int .i64 hi, .slice A xs.length c]) Tryd.func46 rfl (n := 7) rfl ?_
  simp only [List.replicate, List.cons_append, List.nil_append]
  refine sr ?_
  refine K.seq_new (K.box) rfl ?_
  intro b3
  refine zN ?_
  refine K.seq_new (K.box) rfl ?_
  intro b4
  refine zN ?_
  refine qa ?_
  refine sn ?_
  refine sr ?_
  refine qm ?_
  refine K.seq_pure (K.mkFunc) rfl ?_
  refine zN ?_
  refine K.seq_call (K.call_g cal_69 (fun F w hF hw => c69 (cap := [.pointer (some ⟨b3, 0, none⟩), .pointer (some ⟨b4, 0, none⟩)]) (hR.pass hw) hn cal_81 (fun x _ w1 hb => c81 (K.cell_later hw (hF _ (K.m1)) rfl hb) (K.cell_later hw (hF _ (K.m0)) rfl hb)))) rfl ?_
  refine zN ?_
  refine qa ?_
  refine sn ?_
  refine K.ret ?_
  refine K.end_ret (fun w _ => K.res_tmp rfl w) ?_
  exact K.gives rfl

theorem c46_1 {lo hi x : Int} {w0 w : World} {F : List K.Chunk} {b : Nat} (hw : K.St w0 F w) (hm : K.blk b 3 [.int .i64 x] ∈ F) :
    Calls Tryd.prog 46 [.int .i64 lo, .int .i64 hi, .slice (some ⟨b, 0, none⟩) 1 1].toArray w (K.Gives (.bool (decide (¬ (lo ≤ x ∧ x ≤ hi)))) w) := by
  have h := c46 (lo := lo) (hi := hi) (c := 1) (xs := [x]) (K.Rd.lit hw hm (fun _ => rfl) (by decide) rfl) (by simp)
  have e : outB lo hi [x] = decide (¬ (lo ≤ x ∧ x ≤ hi)) := by
    rw [Bool.eq_iff_iff]; simp [outB]
    try omega
  rw [e] at h
  exact h


end Go.Proofs.YtoemnobfnnjopaaDoor
end
section
set_option linter.unusedSimpArgs false
set_option linter.unusedVariables false
namespace Go.Proofs.YtoemnobfnnjopaaDoor
open Go.RowKit Go
open Go.K (setd setn ev nth over cl eI eP eT setM setF)
attribute [local irreducible] K.blk K.row
/-- The table of math/bits lies where it was laid. -/
def Tab (w : World) : Prop := 1 < w.heap.size ∧ K.PtrL w [] ⟨1, 0, none⟩ tab64
theorem Tab.pass {w0 w : World} {F : List K.Chunk} (h : Tab w0) (hw : K.St w0 F w) : Tab w := ⟨K.lt_into h.1 hw, h.2.into h.1 hw⟩
theorem bs0 : K.Bs Tryd.prog 26 0 [] 3 [] := fun w => by kernel_rfl
def uand (a b : Int) : Int := IntKind.u64.wrap (BitVec.ofInt IntKind.u64.bits a &&& BitVec.ofInt IntKind.u64.bits b).toNat
def ushr (a n : Int) : Int := a.fdiv (2 ^ min n.toNat IntKind.u64.bits)
def oc1 (x : Int) : Int := IntKind.u64.wrap (uand (ushr x 1) 6148914691236517205 + uand x 6148914691236517205)
def oc2 (x : Int) : Int := IntKind.u64.wrap (uand (ushr x 2) 3689348814741910323 + uand x 3689348814741910323)
def oc3 (x : Int) : Int := uand (IntKind.u64.wrap (ushr x 4 + x)) 1085102592571150095
def oc4 (n x : Int) : Int := IntKind.u64.wrap (x + ushr x n)
def oc5 (x : Int) : Int := IntKind.i64.wrap (BitVec.ofInt IntKind.i64.bits (IntKind.i64.wrap x) &&& BitVec.ofInt IntKind.i64.bits 127).toNat
def ocC (s : Nat) : Bool := decide (oc5 (oc4 32 (oc4 16 (oc4 8 (oc3 (oc2 (oc1 ((s : Nat) : Int))))))) = (((bitsL ((s : Nat) : Int)).length : Nat) : Int))
theorem oc_0 : (List.range 32).all (fun s => ocC (s + 0)) = true := by decide +kernel
theorem oc_1 : (List.range 32).all (fun s => ocC (s + 32)) = true := by decide +kernel
theorem oc_2 : (List.range 32).all (fun s => ocC (s + 64)) = true := by decide +kernel
theorem oc_3 : (List.range 32).all (fun s => ocC (s + 96)) = true := by decide +kernel
theorem oc_4 : (List.range 32).all (fun s => ocC (s + 128)) = true := by decide +kernel
theorem oc_5 : (List.range 32).all (fun s => ocC (s + 160)) = true := by decide +kernel
theorem oc_6 : (List.range 32).all (fun s => ocC (s + 192)) = true := by decide +kernel
theorem oc_7 : (List.range 32).all (fun s => ocC (s + 224)) = true := by decide +kernel
theorem oc_8 : (List.range 32).all (fun s => ocC (s + 256)) = true := by decide +kernel
theorem oc_9 : (List.range 32).all (fun s => ocC (s + 288)) = true := by decide +kernel
theorem oc_10 : (List.range 32).all (fun s => ocC (s + 320)) = true := by decide +kernel
theorem oc_11 : (List.range 32).all (fun s => ocC (s + 352)) = true := by decide +kernel
theorem oc_12 : (List.range 32).all (fun s => ocC (s + 384)) = true := by decide +kernel
theorem oc_13 : (List.range 32).all (fun s => ocC (s + 416)) = true := by decide +kernel
theorem oc_14 : (List.range 32).all (fun s => ocC (s + 448)) = true := by decide +kernel
theorem oc_15 : (List.range 32).all (fun s => ocC (s + 480)) = true := by decide +kernel
theorem oc_val {x : Int} (hs : 0 ≤ x ∧ x ≤ 511) : oc5 (oc4 32 (oc4 16 (oc4 8 (oc3 (oc2 (oc1 x)))))) = ((bitsL x).length : Int) := by
  obtain ⟨n, rfl⟩ := Int.eq_ofNat_of_zero_le hs.1
  have key : ∀ k m, (List.range 32).all (fun n => ocC (n + m)) = true → m = 32 * k → n / 32 = k → ocC n = true := fun k m hk hm hn => by
    have := List.all_eq_true.1 hk (n % 32) (List.mem_range.2 (by omega))
    rwa [show n % 32 + m = n by omega] at this
  have h : ocC n = true := by
    have hd : n / 32 < 16 := by omega
    generalize e : n / 32 = q at hd
    rcases (show q = 0 ∨ q = 1 ∨ q = 2 ∨ q = 3 ∨ q = 4 ∨ q = 5 ∨ q = 6 ∨ q = 7 ∨ q = 8 ∨ q = 9 ∨ q = 10 ∨ q = 11 ∨ q = 12 ∨ q = 13 ∨ q = 14 ∨ q = 15 by omega) with rfl | rfl | rfl | rfl | rfl | rfl | rfl | rfl | rfl | rfl | rfl | rfl | rfl | rfl | rfl | rfl
    · exact key 0 _ oc_0 rfl e
    · exact key 1 _ oc_1 rfl e
    · exact key 2 _ oc_2 rfl e
    · exact key 3 _ oc_3 rfl e
    · exact key 4 _ oc_4 rfl e
    · exact key 5 _ oc_5 rfl e
    · exact key 6 _ oc_6 rfl e
    · exact key 7 _ oc_7 rfl e
    · exact key 8 _ oc_8 rfl e
    · exact key 9 _ oc_9 rfl e
    · exact key 10 _ oc_10 rfl e
    · exact key 11 _ oc_11 rfl e
    · exact key 12 _ oc_12 rfl e
    · exact key 13 _ oc_13 rfl e
    · exact key 14 _ oc_14 rfl e
    · exact key 15 _ oc_15 rfl e
  exact of_decide_eq_true h
def turnS (ys : List Int) (n : Nat) : Int := if ys.length = 0 then 0 else ys.getD (n % ys.length) default
theorem turn_bd {ys : List Int} {n : Nat} (h : ∀ x ∈ ys, 0 ≤ x ∧ x ≤ 65535) : 0 ≤ turnS ys n ∧ turnS ys n ≤ 65535 := by
  unfold turnS
  split
  · omega
  · exact h _ (K.gt_mem (Nat.mod_lt n (by omega)))

set_option maxRecDepth 100000 in
theorem c98 {x : Int} {w : World} (hT : Tab w) (hx : 1 ≤ x ∧ x ≤ 511) :
    Calls Tryd.prog 98 [.int .u64 x].toArray w (K.Gives (.int .i64 (tzS x)) w) := by
  obtain ⟨hi, hta, htz⟩ := idx_at hx
  refine K.enter (args := [.int .u64 x]) Tryd.func98 rfl (n := 13) rfl ?_
  simp only [List.replicate, List.cons_append, List.nil_append]
  refine sr ?_
  refine qa ?_
  refine sn ?_
  refine K.seq ?_
  refine sr ?_
  refine qm ?_
  refine qp (K.eql rfl rfl) ?_
  refine sn ?_
  refine K.cond_false (by exact congrArg Value.bool (decide_eq_false (by omega))) ?_
  refine K.skip ?_
  refine K.norm_then ?_
  refine sr ?_
  iterate 2 refine qm ?_
  refine qp (K.neg_wrap rfl) ?_
  refine qp (K.and_int rfl rfl) ?_
  refine qp (K.mul_wrap rfl rfl) ?_
  refine qp (K.Pure.eq (K.shr_int rfl rfl (by omega)) (show _ = Value.int .u64 (idxZ x) from rfl)) ?_
  refine K.seq_pure (K.indexAddr_ar ar_128 rfl rfl (by omega) (by omega)) rfl ?_
  refine zN ?_
  refine K.seq_sil (K.load_at one_5 rfl hT.2.any hta) rfl ?_
  refine zN ?_
  refine K.seq_pure (K.Pure.eq (K.conv_int ik_5 ik_3 rfl) (show _ = Value.int .i64 (tzS x) from by rw [IntWalk.i64_in _ (by omega)])) rfl ?_
  refine zN ?_
  refine qa ?_
  refine sn ?_
  refine K.ret ?_
  refine K.end_ret (fun w _ => K.res_tmp rfl w) ?_
  exact K.gives rfl

set_option maxRecDepth 100000 in
theorem c85 {x : Int} {w : World} (hT : Tab w) (hx : 1 ≤ x ∧ x ≤ 511) :
    Calls Tryd.prog 85 [.int .u64 x].toArray w (K.Gives (.int .i64 (tzS x)) w) := by
  refine K.enter (args := [.int .u64 x]) Tryd.func85 rfl (n := 7) rfl ?_
  simp only [List.replicate, List.cons_append, List.nil_append]
  refine sr ?_
  refine qa ?_
  refine sn ?_
  refine K.seq ?_
  refine K.cond_false rfl ?_
  refine K.skip ?_
  refine K.norm_then ?_
  refine sr ?_
  refine qm ?_
  refine K.seq_call (K.call_g cal_98 (fun F w hF hw => c98 (hT.pass hw) hx)) rfl ?_
  refine zN ?_
  refine qa ?_
  refine sn ?_
  refine K.ret ?_
  refine K.end_ret (fun w _ => K.res_tmp rfl w) ?_
  exact K.gives rfl

set_option maxRecDepth 100000 in
theorem c60 {s : Int} {w : World} (hT : Tab w) (hs : 0 ≤ s ∧ s ≤ 511) :
    Calls Tryd.prog 60 [.int .i64 s].toArray w (K.RetS 3 1 K.eI (bitsL s) w) := by
  refine K.enter (args := [.int .i64 s]) Tryd.func60 rfl (n := 15) rfl ?_
  simp only [List.replicate, List.cons_append, List.nil_append]
  refine sr ?_
  refine qa ?_
  refine sn ?_
  refine K.seq ?_
  refine K.block ?_
  refine K.nil_row (e := 3) (size := 1) ?_
  refine K.loopW [0, 2] [3, 4, 5, 6, 7, 8, 9, 10, 11, 12, 13, 14] (fun vi L => ∃ (c1 : Int) (xs : List Int) (Q1 : Option Addr) (q1 : Nat), vi = [.int .i64 c1, .slice Q1 xs.length q1] ∧ L = [K.row (.slice Q1 xs.length q1) 3 1 xs.length (xs.flatMap K.eI)] ∧ (0 ≤ c1 ∧ c1 ≤ 511) ∧ bitsL s = xs ++ bitsL c1) (fun vi => (intOf (K.nth vi 0)).toNat) ?_ ?_
  · exact ⟨s, [], none, 0, rfl, rfl, hs, rfl⟩
  intro vi vr L hJ
  obtain ⟨c1, xs, Q1, q1, rfl, rfl, hc, hxs⟩ := hJ
  try dsimp only [setd, setn, ev, nth, over, cl, eI, eP, eT, eR, setM, setF, List.map, List.append, List.drop, List.take]
  refine K.seq ?_
  refine sr ?_
  refine qm ?_
  refine qp (K.neq rfl rfl) ?_
  refine sn ?_
  refine K.cond rfl (fun ht4 => ?_) (fun ht4 => ?_)
  · try replace ht4 := of_decide_eq_true ht4
    have hb1 := bits_at (x := c1) (by omega)
    have hxl : xs.length ≤ 9 := by have := congrArg List.length hxs; rw [List.length_append] at this; have := bits_len (x := s); omega
    refine K.skip ?_
    refine K.norm_then ?_
    refine K.seq ?_
    refine K.block ?_
    refine K.region_lit ?_
    iterate 2 refine qm ?_
    refine K.seq_pure (K.Pure.eq (K.conv_int ik_3 ik_108 rfl) (show _ = Value.int .u64 c1 from by rw [IntWalk.u64_in _ (by omega)])) rfl ?_
    refine zN ?_
    refine K.seq_call (K.call_g cal_85 (fun F w hF hw => c85 (hT.pass hw) (by omega))) rfl ?_
    refine zN ?_
    refine K.seq_new (K.buildSlice (bs1 _)) rfl ?_
    intro b13
    refine zN ?_
    refine K.seq_upd (K.append el_26 rfl rfl (K.PtrL.own' (K.m0)) rfl rfl (by decide) (by omega) (by omega) (fun _ _ => K.rp1)) rfl ?_
    rintro ⟨g14, c14⟩ _
    refine zN ?_
    refine qa ?_
    refine K.seq_nil ?_
    refine K.norm_block ?_
    refine K.norm_then ?_
    refine K.region_lit ?_
    iterate 2 refine qm ?_
    refine qp (K.sub_i64 rfl rfl (by omega)) ?_
    refine qp (K.Pure.eq (K.and_int rfl rfl) (show _ = Value.int .i64 (andS c1) from rfl)) ?_
    refine qa ?_
    refine K.seq_nil ?_
    have hm1 : (andS c1).toNat < c1.toNat := by omega
    exact K.round_endW (L'' := [K.row (.slice (some ⟨g14, 0, none⟩) (xs.length + 1) c14) 3 1 (xs.length + 1) (xs.flatMap K.eI ++ [.int .i64 (tzS c1)])]) [.int .i64 (andS c1), .slice (some ⟨g14, 0, none⟩) (xs.length + 1) c14] ⟨andS c1, xs ++ [tzS c1], some ⟨g14, 0, none⟩, c14, by rw [List.length_append]; rfl, by rw [List.length_append, List.flatMap_append]; rfl, by omega, by rw [hxs, hb1.2, List.append_assoc]; rfl⟩ hm1 (by repeat (first | exact List.Sublist.refl _ | apply List.Sublist.cons)) (by kernel_rfl)
  try replace ht4 := of_decide_eq_false ht4
  refine K.exit ?_
  refine K.exit_then ?_
  refine K.exit_then ?_
  refine K.exit_here ?_
  refine K.norm_then ?_
  refine sr ?_
  refine qm ?_
  refine qa ?_
  refine sn ?_
  refine K.ret ?_
  refine K.end_ret (fun w _ => K.res_tmp rfl w) ?_
  have h0 : c1 = 0 := Decidable.not_not.1 ht4
  subst h0
  rw [bits_0, List.append_nil] at hxs
  exact K.rets_s K.m0 (by rw [hxs]) (by rw [hxs]) rfl

set_option maxRecDepth 100000 in
theorem c100 {x : Int} (hx : 0 ≤ x ∧ x ≤ 511) (w : World) :
    Calls Tryd.prog 100 [.int .u64 x].toArray w (K.Gives (.int .i64 (bitsL x).length) w) := by
  refine K.enter (args := [.int .u64 x]) Tryd.func100 rfl (n := 34) rfl ?_
  simp only [List.replicate, List.cons_append, List.nil_append]
  refine sr ?_
  refine qa ?_
  refine sn ?_
  refine sr ?_
  refine qm ?_
  refine qp (K.shr_int rfl rfl (by decide)) ?_
  refine qp (K.and_int rfl rfl) ?_
  refine qm ?_
  refine qp (K.and_int rfl rfl) ?_
  refine qp (K.Pure.eq (K.add_wrap rfl rfl) (show _ = .int .u64 (oc1 x) from rfl)) ?_
  refine qa ?_
  refine sn ?_
  refine sr ?_
  refine qm ?_
  refine qp (K.shr_int rfl rfl (by decide)) ?_
  refine qp (K.and_int rfl rfl) ?_
  refine qm ?_
  refine qp (K.and_int rfl rfl) ?_
  refine qp (K.Pure.eq (K.add_wrap rfl rfl) (show _ = .int .u64 (oc2 (oc1 x)) from rfl)) ?_
  refine qa ?_
  refine sn ?_
  refine sr ?_
  refine qm ?_
  refine qp (K.shr_int rfl rfl (by decide)) ?_
  refine qm ?_
  refine qp (K.add_wrap rfl rfl) ?_
  refine qp (K.Pure.eq (K.and_int rfl rfl) (show _ = .int .u64 (oc3 (oc2 (oc1 x))) from rfl)) ?_
  refine qa ?_
  refine sn ?_
  refine sr ?_
  iterate 2 refine qm ?_
  refine qp (K.shr_int rfl rfl (by decide)) ?_
  refine qp (K.Pure.eq (K.add_wrap rfl rfl) (show _ = .int .u64 (oc4 8 (oc3 (oc2 (oc1 x)))) from rfl)) ?_
  refine qa ?_
  refine sn ?_
  refine sr ?_
  iterate 2 refine qm ?_
  refine qp (K.shr_int rfl rfl (by decide)) ?_
  refine qp (K.Pure.eq (K.add_wrap rfl rfl) (show _ = .int .u64 (oc4 16 (oc4 8 (oc3 (oc2 (oc1 x))))) from rfl)) ?_
  refine qa ?_
  refine sn ?_
  refine sr ?_
  iterate 2 refine qm ?_
  refine qp (K.shr_int rfl rfl (by decide)) ?_
  refine qp (K.Pure.eq (K.add_wrap rfl rfl) (show _ = .int .u64 (oc4 32 (oc4 16 (oc4 8 (oc3 (oc2 (oc1 x)))))) from rfl)) ?_
  refine qa ?_
  refine sn ?_
  refine sr ?_
  refine qm ?_
  refine K.seq_pure (K.conv_int ik_119 ik_3 rfl) rfl ?_
  refine zN ?_
  refine qp (K.and_int rfl rfl) ?_
  refine qa ?_
  refine sn ?_
  refine K.ret ?_
  refine K.end_ret (fun w _ => K.res_tmp rfl w) ?_
  exact K.gives_i rfl (oc_val hx)

set_option maxRecDepth 100000 in
theorem c86 {x : Int} (hx : 0 ≤ x ∧ x ≤ 511) (w : World) :
    Calls Tryd.prog 86 [.int .u64 x].toArray w (K.Gives (.int .i64 (bitsL x).length) w) := by
  refine K.enter (args := [.int .u64 x]) Tryd.func86 rfl (n := 7) rfl ?_
  simp only [List.replicate, List.cons_append, List.nil_append]
  refine sr ?_
  refine qa ?_
  refine sn ?_
  refine K.seq ?_
  refine K.cond_false rfl ?_
  refine K.skip ?_
  refine K.norm_then ?_
  refine sr ?_
  refine qm ?_
  refine K.seq_call (K.call_g cal_100 (fun F w hF hw => c100 hx w)) rfl ?_
  refine zN ?_
  refine qa ?_
  refine sn ?_
  refine K.ret ?_
  refine K.end_ret (fun w _ => K.res_tmp rfl w) ?_
  exact K.gives rfl

set_option maxRecDepth 100000 in
theorem c101 {a : Int} (w : World) :
    Calls Tryd.prog 101 [.int .i64 a].toArray w (K.Gives (.bool false) w) := by
  refine K.enter (args := [.int .i64 a]) Tryd.func101 rfl (n := 5) rfl ?_
  simp only [List.replicate, List.cons_append, List.nil_append]
  refine sr ?_
  refine qa ?_
  refine sn ?_
  refine sr ?_
  iterate 2 refine qm ?_
  refine qp (K.neq rfl rfl) ?_
  refine qa ?_
  refine sn ?_
  refine K.ret ?_
  refine K.end_ret (fun w _ => K.res_tmp rfl w) ?_
  exact K.gives_b rfl (by simp)

set_option maxRecDepth 100000 in
theorem c88 {a b : Int} (w : World) :
    Calls Tryd.prog 88 [.int .i64 a, .int .i64 b].toArray w (K.Gives (.int .i64 (cmpS a b)) w) := by
  refine K.enter (args := [.int .i64 a, .int .i64 b]) Tryd.func88 rfl (n := 18) rfl ?_
  simp only [List.replicate, List.cons_append, List.nil_append]
  refine sr ?_
  refine qa ?_
  refine sn ?_
  refine sr ?_
  refine qm ?_
  refine K.seq_call (K.call_g cal_101 (fun F w hF hw => c101 w)) rfl ?_
  refine zN ?_
  refine qa ?_
  refine sn ?_
  refine sr ?_
  refine qm ?_
  refine K.seq_call (K.call_g cal_101 (fun F w hF hw => c101 w)) rfl ?_
  refine zN ?_
  refine qa ?_
  refine sn ?_
  refine K.seq ?_
  refine sr ?_
  refine qm ?_
  refine sn ?_
  refine K.cond rfl (fun ht11 => ?_) (fun ht11 => ?_)
  · try replace ht11 := of_decide_eq_true ht11
    cases ht11
  try replace ht11 := of_decide_eq_false ht11
  refine K.skip ?_
  refine K.norm_then ?_
  refine K.seq ?_
  refine sr ?_
  refine qm ?_
  refine sn ?_
  refine K.cond rfl (fun ht13 => ?_) (fun ht13 => ?_)
  · try replace ht13 := of_decide_eq_true ht13
    cases ht13
  try replace ht13 := of_decide_eq_false ht13
  refine K.skip ?_
  refine K.norm_then ?_
  refine K.seq ?_
  refine sr ?_
  iterate 2 refine qm ?_
  refine qp (K.lss rfl rfl) ?_
  refine sn ?_
  refine K.cond rfl (fun ht16 => ?_) (fun ht16 => ?_)
  · try replace ht16 := of_decide_eq_true ht16
    refine sr ?_
    refine qa ?_
    refine sn ?_
    refine K.ret ?_
    refine K.ret_then ?_
    refine K.end_ret (fun w _ => K.res_tmp rfl w) ?_
    exact K.gives_i rfl (by unfold cmpS; rw [if_pos ht16])
  try replace ht16 := of_decide_eq_false ht16
  refine K.skip ?_
  refine K.norm_then ?_
  refine K.seq ?_
  refine sr ?_
  iterate 2 refine qm ?_
  refine qp (K.gtr rfl rfl) ?_
  refine sn ?_
  refine K.cond rfl (fun ht19 => ?_) (fun ht19 => ?_)
  · try replace ht19 := of_decide_eq_true ht19
    refine sr ?_
    refine qa ?_
    refine sn ?_
    refine K.ret ?_
    refine K.ret_then ?_
    refine K.end_ret (fun w _ => K.res_tmp rfl w) ?_
    exact K.gives_i rfl (by unfold cmpS; rw [if_neg ht16, if_pos ht19])
  try replace ht19 := of_decide_eq_false ht19
  refine K.skip ?_
  refine K.norm_then ?_
  refine sr ?_
  refine qa ?_
  refine sn ?_
  refine K.ret ?_
  refine K.end_ret (fun w _ => K.res_tmp rfl w) ?_
  exact K.gives_i rfl (by unfold cmpS; rw [if_neg ht16, if_neg ht19])

set_option maxRecDepth 100000 in
theorem c64 {A B : Option Addr} {c d : Nat} {xs ys : List Int} {w : World} (hX : K.Rd w A 1 K.eI xs) (hY : K.Rd w B 1 K.eI ys) (hn : xs.length ≤ 4611686018427387904) (hm : ys.length ≤ 4611686018427387904) :
    Calls Tryd.prog 64 [.slice A xs.length c, .slice B ys.length d].toArray w (K.Gives (.int .i64 (cmpL xs ys)) w) := by
  refine K.enter (args := [.slice A xs.length c, .slice B ys.length d]) Tryd.func64 rfl (n := 34) rfl ?_
  simp only [List.replicate, List.cons_append, List.nil_append]
  refine sr ?_
  refine qa ?_
  refine sn ?_
  refine K.seq ?_
  refine sr ?_
  refine qm ?_
  refine qp (K.len_sl sl_26 rfl) ?_
  refine qm ?_
  refine sn ?_
  refine K.block ?_
  refine K.loopW [11] [4, 5, 6, 7, 8, 12, 13, 14, 15, 16, 17, 18, 19, 20, 21, 22, 23, 24, 25, 26, 27, 28, 29, 30] (fun vi L => ∃ k : Nat, vi = [.int .i64 (k : Int)] ∧ L = [] ∧ k ≤ xs.length ∧ k ≤ ys.length ∧ ∀ j, j < k → xs.getD j default = ys.getD j default) (fun vi => xs.length - (intOf (K.nth vi 0)).toNat) ?_ ?_
  · exact ⟨0, rfl, rfl, Nat.zero_le _, Nat.zero_le _, fun j hj => absurd hj (Nat.not_lt_zero j)⟩
  intro vi vr L hJ
  obtain ⟨k, rfl, rfl, hkn, hkm, hall⟩ := hJ
  try dsimp only [setd, setn, ev, nth, over, cl, eI, eP, eT, eR, setM, setF, List.map, List.append, List.drop, List.take]
  refine sr ?_
  refine qp (K.lss rfl rfl) ?_
  refine sn ?_
  refine K.seq ?_
  refine K.cond rfl (fun ht12 => ?_) (fun ht12 => ?_)
  · try replace ht12 := of_decide_eq_true ht12
    have hk : k < xs.length := by omega
    refine K.skip ?_
    refine K.norm_then ?_
    refine K.seq ?_
    refine K.block ?_
    refine sr ?_
    refine qm ?_
    refine K.seq_ix (M := []) _ hX.sl sl_26 rfl rfl rfl (by omega) rfl ?_
    intro p14 hp14
    refine zN ?_
    refine K.seq_sil (K.load1 one_3 rfl (hp14.any)) rfl ?_
    refine zN ?_
    iterate 2 refine qa ?_
    refine sn ?_
    refine K.seq ?_
    refine sr ?_
    iterate 2 refine qm ?_
    refine qp (K.len_sl sl_26 rfl) ?_
    refine qp (K.geq rfl rfl) ?_
    refine sn ?_
    refine K.cond rfl (fun ht19 => ?_) (fun ht19 => ?_)
    · try replace ht19 := of_decide_eq_true ht19
      refine sr ?_
      refine qa ?_
      refine sn ?_
      refine K.ret ?_
      refine K.ret_then ?_
      refine K.ret_block ?_
      refine K.ret_then ?_
      refine K.ret_then ?_
      refine K.ret_block ?_
      refine K.ret_then ?_
      refine K.end_ret (fun w _ => K.res_tmp rfl w) ?_
      exact K.gives_i rfl (cmpL_long hall hk (by omega)).symm
    try replace ht19 := of_decide_eq_false ht19
    have hk2 : k < ys.length := by omega
    refine K.skip ?_
    refine K.norm_then ?_
    refine sr ?_
    iterate 2 refine qm ?_
    refine K.seq_ix (M := []) _ hY.sl sl_26 rfl rfl rfl (by omega) rfl ?_
    intro p22 hp22
    refine zN ?_
    refine K.seq_sil (K.load1 one_3 rfl (hp22.any)) rfl ?_
    refine zN ?_
    refine qa ?_
    refine sn ?_
    refine sr ?_
    iterate 2 refine qm ?_
    refine K.seq_call (K.call_g cal_88 (fun F w hF hw => c88 w)) rfl ?_
    refine zN ?_
    refine qa ?_
    refine sn ?_
    refine sr ?_
    refine qm ?_
    refine qp (K.neq rfl rfl) ?_
    refine sn ?_
    refine K.cond rfl (fun ht28 => ?_) (fun ht28 => ?_)
    · try replace ht28 := of_decide_eq_true ht28
      refine sr ?_
      refine qm ?_
      refine qa ?_
      refine sn ?_
      refine K.ret ?_
      refine K.ret_block ?_
      refine K.ret_then ?_
      refine K.ret_then ?_
      refine K.ret_block ?_
      refine K.ret_then ?_
      refine K.end_ret (fun w _ => K.res_tmp rfl w) ?_
      exact K.gives_i rfl (cmpL_diff hall hk hk2 (by omega)).symm
    try replace ht28 := of_decide_eq_false ht28
    refine K.skip ?_
    refine K.norm_block ?_
    refine K.norm_then ?_
    refine K.region_lit ?_
    refine qp (K.add_i64 rfl rfl (by omega)) ?_
    refine qm ?_
    refine K.seq_nil ?_
    exact K.round_endW [.int .i64 ((k : Int) + 1)] ⟨k + 1, rfl, rfl, by omega, by omega, K.lt_succ_case hall (cmp0 (by omega))⟩ (by simp [K.nth, intOf]; omega) (List.Sublist.refl _) (by kernel_rfl)
  try replace ht12 := of_decide_eq_false ht12
  refine K.exit ?_
  refine K.exit_then ?_
  refine K.exit_then ?_
  refine K.exit_here ?_
  refine K.norm_then ?_
  refine K.seq ?_
  refine sr ?_
  refine qm ?_
  refine qp (K.len_sl sl_26 rfl) ?_
  refine qm ?_
  refine qp (K.len_sl sl_26 rfl) ?_
  refine qp (K.lss rfl rfl) ?_
  refine sn ?_
  refine K.cond rfl (fun ht35 => ?_) (fun ht35 => ?_)
  · try replace ht35 := of_decide_eq_true ht35
    refine sr ?_
    refine qa ?_
    refine sn ?_
    refine K.ret ?_
    refine K.ret_then ?_
    refine K.end_ret (fun w _ => K.res_tmp rfl w) ?_
    exact K.gives_i rfl (cmpL_short hall (by omega) (by omega)).symm
  try replace ht35 := of_decide_eq_false ht35
  refine K.skip ?_
  refine K.norm_then ?_
  refine sr ?_
  refine qa ?_
  refine sn ?_
  refine K.ret ?_
  refine K.end_ret (fun w _ => K.res_tmp rfl w) ?_
  exact K.gives_i rfl (cmpL_same hall (by omega) (by omega)).symm

set_option maxRecDepth 100000 in
theorem c18 {A B : Option Addr} {c d : Nat} {xs ys : List Int} {w : World} (hX : K.Rd w A 1 K.eI xs) (hY : K.Rd w B 1 K.eI ys) (hn : xs.length ≤ 1000000) (hm : ys.length ≤ 1000000) :
    Calls Tryd.prog 18 [.slice A xs.length c, .slice B ys.length d].toArray w (K.Gives (.bool (decide (xs = ys))) w) := by
  refine K.enter (args := [.slice A xs.length c, .slice B ys.length d]) Tryd.func18 rfl (n := 24) rfl ?_
  simp only [List.replicate, List.cons_append, List.nil_append]
  refine sr ?_
  refine qa ?_
  refine sn ?_
  refine K.seq ?_
  refine sr ?_
  refine qm ?_
  refine qp (K.len_sl sl_26 rfl) ?_
  refine qm ?_
  refine qp (K.len_sl sl_26 rfl) ?_
  refine qp (K.neq rfl rfl) ?_
  refine sn ?_
  refine K.cond rfl (fun ht10 => ?_) (fun ht10 => ?_)
  · try replace ht10 := of_decide_eq_true ht10
    refine sr ?_
    refine qa ?_
    refine sn ?_
    refine K.ret ?_
    refine K.ret_then ?_
    refine K.end_ret (fun w _ => K.res_tmp rfl w) ?_
    exact K.gives_b rfl (by rw [eq_comm, decide_eq_false_iff_not]; intro h; subst h; omega)
  try replace ht10 := of_decide_eq_false ht10
  have hlen : xs.length = ys.length := by omega
  refine K.skip ?_
  refine K.norm_then ?_
  refine K.seq ?_
  refine sr ?_
  refine qa ?_
  refine sn ?_
  refine K.block ?_
  refine K.loopW [5] [4, 11, 12, 13, 14, 15, 16, 17, 18, 19, 20, 21, 22, 23, 24, 25] (fun vi L => ∃ k : Nat, vi = [.int .i64 (k : Int)] ∧ L = [] ∧ k ≤ xs.length ∧ ∀ j, j < k → xs.getD j default = ys.getD j default) (fun vi => xs.length - (intOf (K.nth vi 0)).toNat) ?_ ?_
  · exact ⟨0, rfl, rfl, Nat.zero_le _, fun j hj => absurd hj (Nat.not_lt_zero j)⟩
  intro vi vr L hJ
  obtain ⟨k, rfl, rfl, hkn, hall⟩ := hJ
  try dsimp only [setd, setn, ev, nth, over, cl, eI, eP, eT, eR, setM, setF, List.map, List.append, List.drop, List.take]
  refine K.seq ?_
  refine sr ?_
  iterate 2 refine qm ?_
  refine qp (K.len_sl sl_26 rfl) ?_
  refine qp (K.lss rfl rfl) ?_
  refine sn ?_
  refine K.cond rfl (fun ht14 => ?_) (fun ht14 => ?_)
  · try replace ht14 := of_decide_eq_true ht14
    have hk : k < xs.length := by omega
    refine K.skip ?_
    refine K.norm_then ?_
    refine K.seq ?_
    refine K.block ?_
    refine K.seq ?_
    refine K.draw_L [] Tryd_mixed ?_
    refine K.d_pure 0 rfl (K.move) (by kernel_rfl) rfl ?_
    refine zn ?_
    refine K.d_pure 1 rfl (K.move) (by kernel_rfl) rfl ?_
    refine zn ?_
    refine K.d_ix (M := []) 2 k rfl hX.sl sl_26 rfl rfl rfl (by omega) (by kernel_rfl) rfl ?_
    intro p19 hp19
    refine zN ?_
    refine K.d_mem 3 rfl (K.load1 one_3 rfl hp19.any) (fun _ h => h) (by kernel_rfl) (by kernel_rfl) rfl ?_
    refine zN ?_
    refine K.d_pure 4 rfl (K.move) (by kernel_rfl) rfl ?_
    refine zn ?_
    refine K.d_pure 5 rfl (K.move) (by kernel_rfl) rfl ?_
    refine zn ?_
    refine K.d_ix (M := []) 6 k rfl hY.sl sl_26 rfl rfl rfl (by omega) (by kernel_rfl) rfl ?_
    intro p23 hp23
    refine zN ?_
    refine K.d_mem 7 rfl (K.load1 one_3 rfl hp23.any) (fun _ h => h) (by kernel_rfl) (by kernel_rfl) rfl ?_
    refine zN ?_
    refine K.d_pure 8 rfl (K.neq rfl rfl) (by kernel_rfl) rfl ?_
    refine zn ?_
    refine K.d_done (by kernel_rfl) ?_
    refine K.norm_then ?_
    refine K.cond rfl (fun ht25 => ?_) (fun ht25 => ?_)
    · try replace ht25 := of_decide_eq_true ht25
      refine sr ?_
      refine qa ?_
      refine sn ?_
      refine K.ret ?_
      refine K.ret_block ?_
      refine K.ret_then ?_
      refine K.ret_then ?_
      refine K.ret_block ?_
      refine K.ret_then ?_
      refine K.end_ret (fun w _ => K.res_tmp rfl w) ?_
      exact K.gives_b rfl (by rw [eq_comm, decide_eq_false_iff_not]; intro h; rw [h] at ht25; exact ht25 rfl)
    try replace ht25 := of_decide_eq_false ht25
    refine K.skip ?_
    refine K.norm_block ?_
    refine K.norm_then ?_
    refine K.region_lit ?_
    refine qm ?_
    refine qp (K.add_i64 rfl rfl (by omega)) ?_
    refine qa ?_
    refine K.seq_nil ?_
    exact K.round_endW [.int .i64 ((k : Int) + 1)] ⟨k + 1, rfl, rfl, by omega, K.lt_succ_case hall (Decidable.not_not.1 ht25)⟩ (by simp [K.nth, intOf]; omega) (List.Sublist.refl _) (by kernel_rfl)
  try replace ht14 := of_decide_eq_false ht14
  refine K.exit ?_
  refine K.exit_then ?_
  refine K.exit_then ?_
  refine K.exit_here ?_
  refine K.norm_then ?_
  refine sr ?_
  refine qa ?_
  refine sn ?_
  refine K.ret ?_
  refine K.end_ret (fun w _ => K.res_tmp rfl w) ?_
  exact K.gives_b rfl (by rw [eq_comm, decide_eq_true_iff]; exact list_ext hlen (fun j hj => hall j (by omega)))

set_option maxRecDepth 100000 in
theorem c38 {A : Option Addr} {c : Nat} {xs : List Int} {n : Int} {w : World} (hX : K.Rd w A 1 K.eI xs) (hn : xs.length ≤ 1000000) :
    Calls Tryd.prog 38 [.slice A xs.length c, .int .i64 n].toArray w (K.Gives (.bool (decide (n ∈ xs))) w) := by
  refine K.enter (args := [.slice A xs.length c, .int .i64 n]) Tryd.func38 rfl (n := 16) rfl ?_
  simp only [List.replicate, List.cons_append, List.nil_append]
  refine sr ?_
  refine qa ?_
  refine sn ?_
  refine K.seq ?_
  refine sr ?_
  refine qa ?_
  refine sn ?_
  refine K.block ?_
  refine K.loopW [5] [4, 6, 7, 8, 9, 10, 11, 12, 13, 14, 15, 16, 17] (fun vi L => ∃ k : Nat, vi = [.int .i64 (k : Int)] ∧ L = [] ∧ k ≤ xs.length ∧ ∀ j, j < k → xs.getD j default ≠ n) (fun vi => xs.length - (intOf (K.nth vi 0)).toNat) ?_ ?_
  · exact ⟨0, rfl, rfl, Nat.zero_le _, fun j hj => absurd hj (Nat.not_lt_zero j)⟩
  intro vi vr L hJ
  obtain ⟨k, rfl, rfl, hkn, hall⟩ := hJ
  try dsimp only [setd, setn, ev, nth, over, cl, eI, eP, eT, eR, setM, setF, List.map, List.append, List.drop, List.take]
  refine K.seq ?_
  refine sr ?_
  iterate 2 refine qm ?_
  refine qp (K.len_sl sl_26 rfl) ?_
  refine qp (K.lss rfl rfl) ?_
  refine sn ?_
  refine K.cond rfl (fun ht9 => ?_) (fun ht9 => ?_)
  · try replace ht9 := of_decide_eq_true ht9
    have hk : k < xs.length := by omega
    refine K.skip ?_
    refine K.norm_then ?_
    refine K.seq ?_
    refine K.block ?_
    refine sr ?_
    iterate 2 refine qm ?_
    refine K.seq_ix (M := []) _ hX.sl sl_26 rfl rfl rfl (by omega) rfl ?_
    intro p14 hp14
    refine zN ?_
    refine K.seq_sil (K.load1 one_3 rfl (hp14.any)) rfl ?_
    refine zN ?_
    refine qm ?_
    refine qp (K.eql rfl rfl) ?_
    refine sn ?_
    refine K.cond rfl (fun ht17 => ?_) (fun ht17 => ?_)
    · try replace ht17 := of_decide_eq_true ht17
      refine sr ?_
      refine qa ?_
      refine sn ?_
      refine K.ret ?_
      refine K.ret_block ?_
      refine K.ret_then ?_
      refine K.ret_then ?_
      refine K.ret_block ?_
      refine K.ret_then ?_
      refine K.end_ret (fun w _ => K.res_tmp rfl w) ?_
      have hin : n ∈ xs := by rw [← ht17]; exact K.gt_mem hk
      exact K.gives (by rw [decide_eq_true hin]; rfl)
    try replace ht17 := of_decide_eq_false ht17
    refine K.skip ?_
    refine K.norm_block ?_
    refine K.norm_then ?_
    refine K.region_lit ?_
    refine qm ?_
    refine qp (K.add_i64 rfl rfl (by omega)) ?_
    refine qa ?_
    refine K.seq_nil ?_
    exact K.round_endW (L'' := []) [.int .i64 ((k : Int) + 1)] ⟨k + 1, rfl, rfl, hk, fun j hj => by rcases Nat.lt_or_ge j k with h | h; exact hall j h; rw [show j = k by omega]; exact ht17⟩ (by simp [K.nth, intOf]; omega) (by repeat (first | exact List.Sublist.refl _ | apply List.Sublist.cons)) (by kernel_rfl)
  try replace ht9 := of_decide_eq_false ht9
  refine K.exit ?_
  refine K.exit_then ?_
  refine K.exit_then ?_
  refine K.exit_here ?_
  refine K.norm_then ?_
  refine sr ?_
  refine qa ?_
  refine sn ?_
  refine K.ret ?_
  refine K.end_ret (fun w _ => K.res_tmp rfl w) ?_
  have hno : n ∉ xs := mem_of_none (fun j hj => hall j (by omega))
  exact K.gives (by rw [decide_eq_false hno]; rfl)

set_option maxRecDepth 100000 in
theorem c45 {Y : Option Addr} {cy n : Nat} {ys : List Int} {w : World} (hY : K.Rd w Y 1 eH ys) (hyb : ∀ x ∈ ys, 0 ≤ x ∧ x ≤ 65535) (hyl : ys.length ≤ 140737488351232) (hn : n ≤ 1000) :
    Calls Tryd.prog 45 [.slice Y ys.length cy, .int .i64 (n : Int)].toArray w (K.Gives (.int .i64 (turnS ys n)) w) := by
  refine K.enter (args := [.slice Y ys.length cy, .int .i64 (n : Int)]) Tryd.func45 rfl (n := 14) rfl ?_
  simp only [List.replicate, List.cons_append, List.nil_append]
  refine sr ?_
  refine qa ?_
  refine sn ?_
  refine K.seq ?_
  refine sr ?_
  refine qm ?_
  refine qp (K.len_sl sl_39 rfl) ?_
  refine qp (K.eql rfl rfl) ?_
  refine sn ?_
  refine K.cond rfl (fun ht7 => ?_) (fun ht7 => ?_)
  · try replace ht7 := of_decide_eq_true ht7
    refine sr ?_
    refine qa ?_
    refine sn ?_
    refine K.ret ?_
    refine K.ret_then ?_
    refine K.end_ret (fun w _ => K.res_tmp rfl w) ?_
    exact K.gives_i rfl (by unfold turnS; rw [if_pos (by omega)])
  try replace ht7 := of_decide_eq_false ht7
  have hpos : 0 < ys.length := by omega
  have hlt := Nat.mod_lt n hpos
  have hx := hyb _ (K.gt_mem hlt)
  refine K.skip ?_
  refine K.norm_then ?_
  refine sr ?_
  iterate 3 refine qm ?_
  refine qp (K.len_sl sl_39 rfl) ?_
  refine qp (K.Pure.eq (K.rem_i64 rfl rfl (by omega) (by omega)) (show _ = Value.int .i64 ((n % ys.length : Nat) : Int) from by rw [Int.natCast_emod])) ?_
  refine K.seq_ix (M := []) (n % ys.length) hY.sl sl_39 rfl rfl rfl (by omega) rfl ?_
  intro p13 hp13
  refine zN ?_
  refine K.seq_sil (K.load1 one_40 rfl (hp13.any)) rfl ?_
  refine zN ?_
  refine K.seq_pure (K.Pure.eq (K.conv_int ik_40 ik_3 rfl) (show _ = Value.int .i64 (ys.getD (n % ys.length) default) from by rw [IntWalk.i64_in _ (by omega)])) rfl ?_
  refine zN ?_
  refine qa ?_
  refine sn ?_
  refine K.ret ?_
  refine K.end_ret (fun w _ => K.res_tmp rfl w) ?_
  exact K.gives_i rfl (by unfold turnS; rw [if_neg (by omega)])


set_option maxRecDepth 100000 in
theorem c67 {Q : Option Addr} {q : Nat} {xs : List Int} {w : World} (hL : K.Rd w Q 1 K.eI xs) (hx : xs.length ≤ 1000000) :
    Calls Tryd.prog 67 [.slice Q xs.length q].toArray w (K.RetS 3 1 K.eI xs w) := by
  refine K.enter (args := [.slice Q xs.length q]) Tryd.func67 rfl (n := 7) rfl ?_
  simp only [List.replicate, List.cons_append, List.nil_append]
  refine sr ?_
  refine qa ?_
  refine sn ?_
  refine K.seq ?_
  refine sr ?_
  refine qm ?_
  refine qp (K.eql_slnil sl_26 rfl) ?_
  refine sn ?_
  refine K.cond rfl (fun ht4 => ?_) (fun ht4 => ?_)
  · try replace ht4 := of_decide_eq_true ht4
    refine sr ?_
    refine qa ?_
    refine sn ?_
    refine K.ret ?_
    refine K.ret_then ?_
    refine K.end_ret (fun w _ => K.res_tmp rfl w) ?_
    have hx0 : xs = [] := by
      cases Q with
      | none => exact hL.isNil
      | some a => cases ht4
    exact K.rets_s0 hx0 rfl
  try replace ht4 := of_decide_eq_false ht4
  refine K.skip ?_
  refine K.norm_then ?_
  refine sr ?_
  refine K.seq_new (K.buildSlice (bs0)) rfl ?_
  intro b5
  refine zN ?_
  refine qm ?_
  refine K.blk_row0 (size := 1) ?_
  refine K.seq_upd (K.appendS el_26 rfl rfl hL.sl (fun _ => rfl) (K.oneI _) (by omega) (by omega) (fun _ _ => K.rp0)) rfl ?_
  rintro ⟨A7, c7⟩ _
  refine zN ?_
  refine qa ?_
  refine sn ?_
  refine K.ret ?_
  refine K.end_ret (fun w _ => K.res_tmp rfl w) ?_
  exact K.rets_s K.m0 (by rw [Nat.zero_add]) (by rw [List.nil_append]) (by rw [Nat.zero_add]; rfl)

end Go.Proofs.YtoemnobfnnjopaaDoor
end
section
set_option linter.unusedSimpArgs false
set_option linter.unusedVariables false
namespace Go.Proofs.YtoemnobfnnjopaaDoor
open Go.ChangeShapes Go.WideShapes Go.ChangeAt Go.RowKit
theorem own0 : ownKnob Tryd.prog.godebug = none := by kernel_rfl
theorem laidOut0 : laidOutB Tryd.prog = true := by kernel_rfl
abbrev LAID : List (String × DataW Unit) := [("math/bits.deBruijn32tab", Rows.laid_math_bits_deBruijn32tab), ("math/bits.deBruijn64tab", Rows.laid_math_bits_deBruijn64tab)]
theorem laid64 : (Rows.laid_math_bits_deBruijn64tab : DataW Unit) = .agg (tabZ.map fun n => .lit (.int .u8 n)) := rfl
set_option maxRecDepth 100000 in
theorem tab_of {W : World} (h : laidMetH Tryd.prog LAID W) : Tab W := by
  rw [MakeChecks.laidMetH_plain _ _ _ (by kernel_rfl)] at h
  obtain ⟨ps, ⟨g0, t0, cs0, f0, p0, q0, hg0, ht0, hv0, hd0, ⟨g1, t1, cs1, f1, p1, q1, hg1, ht1, hv1, hd1, _, _⟩, _⟩, _, _⟩ := h
  obtain rfl := Option.some.inj ((show Tryd.prog.globalNamed "math/bits.deBruijn64tab" = some 1 by kernel_rfl).symm.trans hg1)
  have ht2 : (Tryd.prog.globals[1]?).map (·.type) = some 128 := by kernel_rfl
  obtain rfl := Option.some.inj (ht2.symm.trans ht1)
  obtain ⟨xs, m, hls, ex, hbk, hl, hel⟩ := DataW.trod_array Tryd.underlying128 hd1
  have c5 : Tryd.prog.cellsOf 5 = 1 := by kernel_rfl
  have hcell : ∀ r, r < 64 → W.cell? ⟨1, r, none⟩ = some (.int .u8 (tabZ.getD r 0)) := by
    intro r hr
    have hE := hel r hr
    rw [c5, Nat.mul_one, List.getElem?_eq_getElem (by omega)] at hE
    obtain ⟨z, e1, e2, _⟩ := DataW.trod_int Tryd.underlying5 hE
    have hlen : tabZ.length = 64 := by kernel_rfl
    rw [laid64] at ex
    have e3 : (xs.map (·.1)) = tabZ.map fun n => .lit (.int .u8 n) := (DataW.agg.inj (Prod.mk.inj ex).1).symm
    have e4 : (xs.map (·.1))[r]? = (tabZ.map fun n => (DataW.lit (.int .u8 n) : DataW Unit))[r]? := by rw [e3]
    rw [List.getElem?_map, List.getElem?_map, List.getElem?_eq_getElem (by omega : r < xs.length), List.getElem?_eq_getElem (by omega : r < tabZ.length), e2] at e4
    have hz : z = tabZ.getD r 0 := by
      simp only [Option.map_some, Option.some.injEq, DataW.lit.injEq, Lit.int.injEq, true_and] at e4
      rw [e4, List.getD, List.getElem?_eq_getElem (by omega : r < tabZ.length)]; rfl
    rw [World.var?_cell hg1 hv1 r, ← hz]
    have : cs1.toList[r]? = some (.int .u8 z) := by
      have h0 : ((cs1.toList.drop r).take 1)[0]? = some (.int .u8 z) := by rw [e1]; rfl
      simpa using h0
    simpa using this
  have hb : 1 < W.heap.size := World.block_lt_of_cell? W _ (hcell 0 (by decide))
  refine ⟨hb, K.PtrL.old hb fun j u hu => ?_⟩
  have hj : j < 64 := by have := (List.getElem?_eq_some_iff.1 hu).1; rwa [show tab64.length = 64 by kernel_rfl] at this
  rw [show (⟨1, 0, none⟩ : Addr).add j = ⟨1, j, none⟩ by unfold Addr.add; split <;> simp_all, hcell j hj]
  unfold tab64 at hu
  rw [List.getElem?_map, List.getElem?_eq_getElem (by rw [show tabZ.length = 64 by kernel_rfl]; exact hj)] at hu
  rw [List.getD, List.getElem?_eq_getElem (by rw [show tabZ.length = 64 by kernel_rfl]; exact hj)]
  exact hu

end Go.Proofs.YtoemnobfnnjopaaDoor
end
section
set_option linter.unusedSimpArgs false
set_option linter.unusedVariables false
namespace Go.Proofs.YtoemnobfnnjopaaDoor
open Go.ChangeShapes Go.WideShapes Go.Deep Go.RowKit Go.Joins
section
variable {H : Type} {enc : TypeId × Value → H} {P : Program} {w : World} {base : Nat} {spare : Nat → Bool} {held : Bool}
theorem open_slice_fields {t e : TypeId} {fs : Array Field} {fuel : Nat} {cs : List Value} {x : DataW H × List MemPlace} (ht : P.underlying t = some (.slice e)) (he : P.underlying e = some (.struct fs))
    (hone : oneCellFields P fs = true) (hC : P.cellsOf e = fs.size) (h : DataW.trod enc P w base spare held fuel t cs = some x) :
    (cs = [.slice none 0 0] ∧ x = (.nil, [])) ∨
    ∃ (a : Addr) (len cap m : Nat) (D : Nat → DataW H) (Pl : Nat → List MemPlace), cs = [.slice (some a) len cap] ∧ base ≤ a.block ∧ len ≤ cap ∧ cap ≤ maxLen ∧ m = (if spare a.block then cap else len) ∧
      x = (.slice ((List.range len).map D) ((List.range (m - len)).map fun j => D (len + j)), MemPlace.row a (m * fs.size) ++ (List.range m).flatMap Pl) ∧
      ∀ i, i < m → ∃ (ys : List (DataW H × List MemPlace)) (n : Nat), D i = .agg (ys.map (·.1)) ∧ Pl i = ys.flatMap (·.2) ∧ ys.length = fs.size ∧
        ∀ (j : Nat) (f : Field), fs[j]? = some f → ∃ (v : Value) (y : DataW H × List MemPlace), w.cell? (a.add (i * fs.size + j)) = some v ∧ ys[j]? = some y ∧ DataW.trod enc P w base spare held n f.type [v] = some y := by
  rcases open_slice ht h with h0 | ⟨a, len, cap, m, n, D, Pl, hcs, hb, hl, hm, hmm, hx, hi⟩
  · exact .inl h0
  · refine .inr ⟨a, len, cap, m, D, Pl, hcs, hb, hl, hm, hmm, by rw [hC] at hx; exact hx, fun i him => ?_⟩
    obtain ⟨cs', hc, ht'⟩ := hi i him
    rw [hC] at hc
    obtain ⟨ys, n', hn', hy, hlen, hyl, hf⟩ := DataW.trod_struct he ht'
    obtain ⟨_, hcl, hat⟩ := World.cells?_some hc
    simp only [Prod.mk.injEq] at hy
    refine ⟨ys, n', hy.1, hy.2, hyl, fun j f hj => ?_⟩
    obtain ⟨ho, hk⟩ := hone_of hone j f hj
    have hjl : j < fs.size := (Array.getElem?_eq_some_iff.1 hj).1
    have hcell := hat j hjl
    have hv : cs'[j]? = some (cs'[j]'(by omega)) := List.getElem?_eq_getElem (by omega)
    have h1 := hf j f hj
    rw [ho, hk] at h1
    have hone' : (cs'.drop j).take 1 = [cs'[j]'(by omega)] := by
      rw [List.drop_eq_getElem_cons (by omega)]
      rfl
    rw [hone'] at h1
    have hys : ys[j]? = some (ys[j]'(by omega)) := List.getElem?_eq_getElem (by omega)
    refine ⟨_, _, ?_, hys, h1.trans hys⟩
    rw [← Go.Deep.add_add, hcell, hv]
theorem list_of {E : Type} [Inhabited E] {Q : Nat → E → Prop} : ∀ {n : Nat}, (∀ i, i < n → ∃ x, Q i x) → ∃ xs : List E, xs.length = n ∧ ∀ i x, xs[i]? = some x → Q i x
  | 0, _ => ⟨[], rfl, fun i x h => by simp at h⟩
  | n + 1, h => by
    obtain ⟨xs, hl, hq⟩ := list_of (n := n) (Q := Q) (fun i hi => h i (by omega))
    obtain ⟨x, hx⟩ := h n (by omega)
    refine ⟨xs ++ [x], by simp [hl], fun i y hy => ?_⟩
    rw [List.getElem?_append] at hy
    split at hy
    · exact hq i y hy
    · rename_i h1
      have : i = n := by
        rcases Nat.lt_or_ge (i - xs.length) 1 with h2 | h2
        · omega
        · rw [List.getElem?_eq_none (by simpa using h2)] at hy; cases hy
      subst this
      rw [hl, Nat.sub_self] at hy
      simp at hy
      subst hy; exact hx
/-- A slice that came in: what it is, and how long its datum. -/
def SlD {E : Type} (w : World) (size : Nat) (e : E → List Value) (v : Value) (d : DataW H) (A : Option Addr) (c : Nat) (xs : List E) : Prop :=
  v = .slice A xs.length c ∧ K.Rd w A size e xs ∧ (d = .nil ∧ xs = [] ∨ ∃ el rest, d = .slice el rest ∧ el.length = xs.length)
theorem trod_one {t e : TypeId} {v : Value} {d : DataW H} {p : List MemPlace} {b0 : Nat} (ht : P.underlying t = some (.slice e)) (hv : Value.okWide P w .any b0 t v) (h : DataW.Trod enc P w base spare held t v d p) : ∃ fuel, DataW.trod enc P w base spare held fuel t [v] = some (d, p) := by
  obtain ⟨a, n, c, rfl⟩ := okWide_slice ht hv
  obtain ⟨fuel, hf⟩ := h
  exact ⟨fuel, by simpa [Value.cells] using hf⟩
theorem slice_points {t e : TypeId} {f0 f1 f2 f3 : Field} {fuel : Nat} {v : Value} {y : DataW H × List MemPlace} (ht : P.underlying t = some (.slice e)) (he : P.underlying e = some (.struct #[f0, f1, f2, f3])) (hone : oneCellFields P #[f0, f1, f2, f3] = true) (hC : P.cellsOf e = 4)
    (h0 : P.underlying f0.type = some .string) (h1 : P.underlying f1.type = some (.int .i64)) (h2 : P.underlying f2.type = some (.int .i64)) (h3 : P.underlying f3.type = some (.int .i64)) (h : DataW.trod enc P w base spare held fuel t [v] = some y) :
    ∃ A c xs, SlD w 4 eR v y.1 A c xs := by
  rcases open_slice_fields ht he hone hC h with ⟨hcs, hx⟩ | ⟨a, len, cap, m, D, Pl, hcs, _, hl, hm, hmm, hx, hi⟩
  · simp at hcs; subst hcs
    exact ⟨none, 0, [], rfl, K.Rd.nil, .inl ⟨by rw [hx], rfl⟩⟩
  · simp at hcs; subst hcs
    have hlm : len ≤ m := by rw [hmm]; split <;> omega
    obtain ⟨xs, hxl, hq⟩ := list_of (n := len) (Q := fun i (x : RvT) => w.cell? (a.add (i * 4)) = some (.string x.nm) ∧ w.cell? (a.add (i * 4 + 1)) = some (.int .i64 x.dn) ∧ w.cell? (a.add (i * 4 + 2)) = some (.int .i64 x.ls) ∧ w.cell? (a.add (i * 4 + 3)) = some (.int .i64 x.ht)) (fun i hil => by
      obtain ⟨ys, n, _, _, _, hf⟩ := hi i (by omega)
      obtain ⟨v0, y0, hc0, _, ht0⟩ := hf 0 f0 rfl
      obtain ⟨v1, y1, hc1, _, ht1⟩ := hf 1 f1 rfl
      obtain ⟨v2, y2, hc2, _, ht2⟩ := hf 2 f2 rfl
      obtain ⟨v3, y3, hc3, _, ht3⟩ := hf 3 f3 rfl
      obtain ⟨a0, e0, _, _⟩ := DataW.trod_string h0 ht0
      obtain ⟨a1, e1, _, _⟩ := DataW.trod_int h1 ht1
      obtain ⟨a2, e2, _, _⟩ := DataW.trod_int h2 ht2
      obtain ⟨a3, e3, _, _⟩ := DataW.trod_int h3 ht3
      simp at e0 e1 e2 e3; subst e0 e1 e2 e3
      exact ⟨⟨a0, a1, a2, a3⟩, hc0, hc1, hc2, hc3⟩)
    refine ⟨some a, cap, xs, by rw [hxl], fun k x hk => ?_, .inr ⟨_, _, by rw [hx], by simp [hxl]⟩⟩
    obtain ⟨q0, q1, q2, q3⟩ := hq k x hk
    refine ⟨a, rfl, ?_, fun j u hu => ?_⟩
    · have := World.block_lt_of_cell? w _ q0
      rwa [K.addr_block] at this
    · match j with
      | 0 => simp [eR] at hu; subst hu; rw [K.addr_add0]; exact q0
      | 1 => simp [eR] at hu; subst hu; rw [Go.Deep.add_add]; exact q1
      | 2 => simp [eR] at hu; subst hu; rw [Go.Deep.add_add]; exact q2
      | 3 => simp [eR] at hu; subst hu; rw [Go.Deep.add_add]; exact q3
      | j + 4 => simp [eR] at hu
end
section
variable {H : Type} {w : World} {n c : Nat} {v : Value} {d : DataW H} {A : Option Addr}
theorem sld_len {E : Type} {e : E → List Value} {xs : List E} {t et b : Nat} (h : SlD w n e v d A c xs) (ht : Tryd.prog.underlying t = some (.slice et)) (hb : Tryd.prog.bytesOf et = b) (h8 : 8 ≤ b) (hs : ∀ n ∈ d.weights Tryd.prog t, n ≤ reachBytes) : xs.length ≤ 17592186043904 := by
  rcases h.2.2 with ⟨_, rfl⟩ | ⟨el, rest, rfl, hl⟩
  · simp
  · have h1 := hs ((el.length + rest.length) * b) (by simp [DataW.weights, ht, hb])
    have h2 : (el.length + rest.length) * 8 ≤ (el.length + rest.length) * b := Nat.mul_le_mul_left _ h8
    have h3 : reachBytes ≤ 140737488351232 := by decide
    omega
end
section
variable {H : Type} {enc : TypeId × Value → H} {w : World} {base : Nat} {spare : Nat → Bool} {held : Bool}
set_option maxRecDepth 100000 in
/-- The points of a river that came in. -/
theorem open_rivers {b0 : Nat} {v : Value} {d : DataW H} {p : List MemPlace} (hv : Value.okWide Tryd.prog w .any b0 22 v) (h : DataW.Trod enc Tryd.prog w base spare held 22 v d p) (hs : ∀ n ∈ d.weights Tryd.prog 22, n ≤ reachBytes) :
    ∃ (A : Option Addr) (c : Nat) (r : List RvT), v = .slice A r.length c ∧ K.Rd w A 4 eR r ∧ r.length ≤ 17592186043904 := by
  obtain ⟨fuel, hf⟩ := trod_one Tryd.underlying22 hv h
  obtain ⟨A, c, xs, s3⟩ := slice_points (v := v) Tryd.underlying22 Tryd.underlying44 (by kernel_rfl) (by kernel_rfl) Tryd.underlying9 Tryd.underlying3 Tryd.underlying3 Tryd.underlying3 hf
  have l3 := sld_len s3 Tryd.underlying22 (b := 40) (by kernel_rfl) (by omega) hs
  obtain ⟨rfl, r3, _⟩ := s3
  exact ⟨A, c, xs, rfl, r3, l3⟩
end
end Go.Proofs.YtoemnobfnnjopaaDoor
end
section
set_option linter.unusedSimpArgs false
set_option linter.unusedVariables false
namespace Go.K
open Go.RowKit
section
variable {P : Program} {w0 : World} {L : List Chunk} {l : List Value} {d : Option Tmp} {ty : TypeId} {ps : String} {af : Array Edge} {g : Option (Nat × Bool)} {xt yt : TypeId} {x y : Operand} {a b : Bool}
end
end Go.K

namespace Go.K
open Go.RowKit
theorem flat_cut {E : Type} {e : E → List Value} {size : Nat} {rest : List Value} (hl : ∀ x, (e x).length = size) : ∀ {xs : List E} {k : Nat}, k ≤ xs.length → (xs.flatMap e ++ rest).take (k * size) = (xs.take k).flatMap e ∧ (xs.flatMap e ++ rest).drop (k * size) = (xs.drop k).flatMap e ++ rest
  | [], 0, _ => by simp
  | [], k + 1, h => by simp at h
  | x :: xs, 0, _ => by simp
  | x :: xs, k + 1, h => by
    have ih := flat_cut (rest := rest) hl (xs := xs) (k := k) (by simpa using h)
    have e1 : (k + 1) * size = (e x).length + k * size := by rw [hl, Nat.add_mul]; omega
    rw [List.flatMap_cons, List.append_assoc, e1]
    refine ⟨?_, ?_⟩
    · rw [List.take_append, List.take_of_length_le (by omega), show (e x).length + k * size - (e x).length = k * size by omega, ih.1]; simp
    · rw [List.drop_append, List.drop_of_length_le (by omega), show (e x).length + k * size - (e x).length = k * size by omega, ih.2]; simp
theorem set_cut {E : Type} {e : E → List Value} {xs : List E} {k : Nat} {x : E} {size : Nat} {rest : List Value} (hl : ∀ x, (e x).length = size) (hk : k < xs.length) : over (xs.flatMap e ++ rest) (0 + k * size) (e x) = (xs.set k x).flatMap e ++ rest := by
  have hlen : (xs.flatMap e).length = xs.length * size := flat_len hl xs
  have hfit : 0 + k * size + (e x).length ≤ (xs.flatMap e ++ rest).length := by
    rw [hl, List.length_append, hlen]
    have : (k + 1) * size ≤ xs.length * size := Nat.mul_le_mul_right _ hk
    rw [Nat.add_mul] at this; omega
  have h := List.toArray_inj (over_eq (e x) (xs.flatMap e ++ rest) (0 + k * size) hfit)
  rw [h, hl, Nat.zero_add, (flat_cut hl (by omega)).1, show k * size + size = (k + 1) * size by rw [Nat.add_mul]; omega, (flat_cut hl (by omega)).2, List.set_eq_take_append_cons_drop, if_pos hk, List.flatMap_append, List.flatMap_cons]
  simp
theorem over_len : ∀ (us xs : List Value) (j : Nat), (over xs j us).length = xs.length
  | [], _, _ => rfl
  | u :: us, xs, j => by rw [over, over_len us, setn_eq, List.length_set]
theorem over_app : ∀ (us xs rest : List Value) (j : Nat), j + us.length ≤ xs.length → over (xs ++ rest) j us = over xs j us ++ rest
  | [], _, _, _, _ => rfl
  | u :: us, xs, rest, j, h => by
    simp only [List.length_cons] at h
    rw [over, over, setn_eq, setn_eq, List.set_append_left _ _ (by omega)]
    exact over_app us _ rest (j + 1) (by rw [List.length_set]; omega)
section
variable {P : Program} {w0 : World} {L L' : List Chunk} {l : List Value} {d : Option Tmp} {ty : TypeId} {ps : String} {af : Array Edge} {g : Option (Nat × Bool)}
/-- A part of an owned row is stored. -/
theorem store_row {t k b j n c size : Nat} {e : TypeId} {x y : Operand} {xs : List Value} (hn : sz P t = some k) (hx : ev l x = .pointer (some ⟨b, j, none⟩)) (hlen : (cl (ev l y)).length = k) (hfit : j + k ≤ xs.length)
    (h1 : (cl (ev l y)).all Value.oneCell' = true) (hr : Rep (row (.slice (some ⟨b, 0, none⟩) n c) e size n xs) (row (.slice (some ⟨b, 0, none⟩) n c) e size n (over xs j (cl (ev l y)))) L L') :
    Upd P w0 L ⟨d, .store t x y, ty, ps, af, g⟩ l (fun _ : Unit => True) (fun _ => undef) (fun _ => L') := fun w hw => by
  have ho : w.ownsRow 0 e size (.slice (some ⟨b, 0, none⟩) n c) n xs := (hw.2.1 _ hr.mem).1
  obtain ⟨hl, hd⟩ := ho
  rcases hd with ⟨hv, _⟩ | ⟨g', cap, ⟨cs⟩, hv, hb0, hh, h2, h3, h4, ht⟩
  · cases hv
  injection hv with e1 _ e3
  have e1' : b = g' := by injection e1 with e1; injection e1
  subst e1' e3
  have hcs : cs = xs ++ cs.drop (n * size) := by
    have : cs.take (n * size) = xs := ht
    rw [← this, List.take_append_drop]
  have hcl : xs.length ≤ cs.length := by rw [hcs, List.length_append]; omega
  have hst := run_storeCells_at P b j e (cl (ev l y)) 0 cs.toArray w hh (by simp; omega) (by simpa using h1)
  simp only [Nat.add_zero] at hst
  rw [← over_eq _ _ _ (by omega)] at hst
  refine OpT.of_skip (w' := w.setRow b (over cs j (cl (ev l y))).toArray) ?_ ⟨(), trivial, rfl, hw.upd hr (grownBy_setRow w b _) (fun k hk => by cases hk; rfl) ?_ (fun k hk => .inl hk)⟩
  · unfold sz at hn
    cases hi : P.info? t with
    | none => simp [hi] at hn
    | some q =>
      have hs : q.size = k := by simpa [hi] using hn
      have hcs : (ev l y).cells.size = k := by rw [← hlen, ← cells_cl]; simp
      simp [execOp, hx, Instr.storeAt, Instr.sureAddr, storeVar, sizeOf, typeInfo, hi, hs, hcs, cells_cl, hst]
  · refine ⟨by rw [over_len, hl], .inr ⟨b, c, (over cs j (cl (ev l y))).toArray, rfl, hb0, setRow_heap w b cs.toArray _ e (0, 0) hh, h2, h3, ?_, ?_⟩⟩
    · show (over cs j (cl (ev l y))).length = _
      rw [over_len]; exact h4
    · show (over cs j (cl (ev l y))).take (n * size) = _
      rw [hcs, over_app _ _ _ _ (by omega), ← hl, ← over_len (cl (ev l y)) xs j, List.take_left]
end
theorem set_cut0 {E : Type} {e : E → List Value} {xs : List E} {k : Nat} {x : E} {size : Nat} (hl : ∀ x, (e x).length = size) (hk : k < xs.length) : over (xs.flatMap e) (0 + k * size) (e x) = (xs.set k x).flatMap e := by
  have h := set_cut (rest := []) (x := x) hl hk
  simpa using h
theorem rpe {c c' c'' : Chunk} {L L' : List Chunk} (hr : Rep c c' L L') (h : c' = c'') : Rep c c'' L L' := h ▸ hr
section
variable {P : Program} {l : List Value} {d : Option Tmp} {ty : TypeId} {ps : String} {af : Array Edge} {g : Option (Nat × Bool)} {xt yt : TypeId} {x y : Operand}
end
end Go.K

namespace Go.K
open Go.RowKit
section
variable {w0 : World} {L : List Chunk} {G : World → Prop}
theorem use_innS {F : Nat → Prop} {vs : List Value} {zs : List (List Int)} {i : Nat} (hm : inn F vs zs ∈ L) (hi : i < zs.length) (k : ∀ A c, vs.getD i default = .slice A (zs.getD i default).length c → Sl w0 [inn F vs zs] A 1 eI (zs.getD i default) → Hold w0 L G) : Hold w0 L G :=
  use_inn hm hi fun A c hv w hw => by
    refine k A c hv ?_ w hw
    have hrd := Rd.inn hw hm hi hv
    intro j u hu
    obtain ⟨a, ha, _, _⟩ := hrd j u hu
    refine ⟨a, ha, fun F' w' hF hw' m x hx => ?_⟩
    obtain ⟨a', ha', _, hc'⟩ := Rd.inn hw' (hF _ (List.mem_singleton.2 rfl)) hi hv j u hu
    obtain rfl : a = a' := Option.some.inj (ha.symm.trans ha')
    exact hc' m x hx
end
end Go.K
end
section
set_option linter.unusedSimpArgs false
set_option linter.unusedVariables false
namespace Go.K
open Go.RowKit
theorem d_row0 {P : Program} {w0 : World} {L A : List Chunk} {ops : Array Oper} {Q : Exit → Act → World → Prop} {l : List Value} {fuel : Nat} {bl : List Nat} {listed : Array Bool} {b t size : Nat} (k : DHold P w0 ops Q A bl fuel listed l (row (.slice (some ⟨b, 0, none⟩) 0 0) t size 0 [] :: L)) : DHold P w0 ops Q A bl fuel listed l (blk b t [] :: L) :=
  fun w hw => blk_row0 (G := fun w => wpAnyU P ops (noPanic Q) (Keeps w0 A) (fun j => bl.contains j) fuel listed (fr l) w) k w hw
end Go.K
end
section
set_option linter.unusedSimpArgs false
set_option linter.unusedVariables false
namespace Go.Proofs.YtoemnobfnnjopaaDoor
open Go
/-- The heights of points. -/
def ownS (r : List RvT) : List Int := r.map (·.ht)
theorem own_at {r : List RvT} {i : Nat} (h : i < r.length) : (ownS r).getD i default = (r.getD i default).ht := by
  unfold ownS
  rw [List.getD_eq_getElem?_getD, List.getElem?_map, List.getD_eq_getElem?_getD, List.getElem?_eq_getElem h]; rfl
theorem own_len {r : List RvT} : (ownS r).length = r.length := by unfold ownS; rw [List.length_map]
/-- Water does not run on from a point. -/
def badB (r : List RvT) (h : List Int) (i : Nat) : Bool := decide ((r.getD i default).dn ≠ -1) && decide (h.getD i default < h.getD (r.getD i default).dn.toNat default + (r.getD i default).ls)
def badS (r : List RvT) (h : List Int) : List Int := selN (badB r h) r.length
/-- Heights run down. -/
def runB (r : List RvT) (h : List Int) : Bool := decide (h.length = r.length) && (List.range h.length).all (fun i => decide (0 ≤ h.getD i default ∧ h.getD i default ≤ 9000)) && (badS r h).isEmpty
structure Runs (r : List RvT) (h : List Int) : Prop where
  l : h.length = r.length
  b : ∀ i, i < r.length → 0 ≤ h.getD i default ∧ h.getD i default ≤ 9000
  d : ∀ i, i < r.length → (r.getD i default).dn ≠ -1 → h.getD (r.getD i default).dn.toNat default + (r.getD i default).ls ≤ h.getD i default
theorem bad_iff {r : List RvT} {h : List Int} {i : Nat} : badB r h i = true ↔ (r.getD i default).dn ≠ -1 ∧ h.getD i default < h.getD (r.getD i default).dn.toNat default + (r.getD i default).ls := by
  unfold badB; rw [Bool.and_eq_true, decide_eq_true_eq, decide_eq_true_eq]
theorem bad_no {r : List RvT} {h : List Int} {i : Nat} : badB r h i = false ↔ (r.getD i default).dn = -1 ∨ h.getD (r.getD i default).dn.toNat default + (r.getD i default).ls ≤ h.getD i default := by
  rw [← Bool.not_eq_true, bad_iff]
  constructor
  · intro hn
    by_cases h1 : (r.getD i default).dn = -1
    · exact .inl h1
    · exact .inr (Int.not_lt.1 fun h2 => hn ⟨h1, h2⟩)
  · rintro (h1 | h1) ⟨h2, h3⟩
    · exact h2 h1
    · omega
theorem sel_nil {p : Nat → Bool} {n : Nat} : selN p n = [] ↔ ∀ i, i < n → p i = false := by
  constructor
  · intro h i hi
    cases hp : p i with
    | false => rfl
    | true =>
      have : (i : Int) ∈ selN p n := mem_sel.2 ⟨i, hi, hp, rfl⟩
      rw [h] at this; simp at this
  · intro h
    rw [List.eq_nil_iff_forall_not_mem]
    intro x hx
    obtain ⟨i, hi, hp, _⟩ := mem_sel.1 hx
    rw [h i hi] at hp; cases hp
theorem runs_iff {r : List RvT} {h : List Int} : runB r h = true ↔ Runs r h := by
  unfold runB
  rw [Bool.and_eq_true, Bool.and_eq_true, decide_eq_true_eq, List.all_eq_true, List.isEmpty_iff]
  unfold badS
  rw [sel_nil]
  constructor
  · rintro ⟨⟨h1, h2⟩, h3⟩
    refine ⟨h1, fun i hi => of_decide_eq_true (h2 i (List.mem_range.2 (by omega))), fun i hi hd => ?_⟩
    rcases bad_no.1 (h3 i hi) with h4 | h4
    · exact absurd h4 hd
    · exact h4
  · intro g
    refine ⟨⟨g.l, fun i hi => decide_eq_true (g.b i (by have := List.mem_range.1 hi; rw [g.l] at this; exact this))⟩, fun i hi => bad_no.2 ?_⟩
    by_cases hd : (r.getD i default).dn = -1
    · exact .inl hd
    · exact .inr (g.d i hi hd)
def stopB (r : List RvT) (a j : Nat) : Bool := badB r (ownS r) (stps r j a) || decide ((r.getD (stps r j a) default).dn = -1)
def stopN (r : List RvT) (a : Nat) : Nat := ((List.range (r.length + 1)).find? (stopB r a)).getD 0
def stepL (r : List RvT) (a k : Nat) : List Int := (List.range k).map fun j => ((stps r j a : Nat) : Int)
def pouredS (r : List RvT) (a : Nat) : List Int := stepL r a (stopN r a + 1)
theorem stop_of {r : List RvT} {a d : Nat} (hd : d ≤ r.length) (h1 : stopB r a d = true) (h2 : ∀ j, j < d → stopB r a j = false) : stopN r a = d := by
  unfold stopN
  have : (List.range (r.length + 1)).find? (stopB r a) = some d := by
    rw [List.find?_range_eq_some]
    exact ⟨h1, List.mem_range.2 (by omega), fun j hj => by rw [h2 j hj]; rfl⟩
  rw [this]; rfl
theorem step_s {r : List RvT} {a k : Nat} : stepL r a (k + 1) = stepL r a k ++ [((stps r k a : Nat) : Int)] := by
  unfold stepL; rw [List.range_succ, List.map_append]; rfl
theorem step_len {r : List RvT} {a k : Nat} : (stepL r a k).length = k := by unfold stepL; rw [List.length_map, List.length_range]
section
variable {r : List RvT} {a i k j p : Nat} {h : List Int}
theorem poured_bad (g : Good r) (ha : a < r.length) (hk : k ≤ dep r a) (h1 : ∀ j, j < k → badB r (ownS r) (stps r j a) = false) (h2 : badB r (ownS r) (stps r k a) = true) : pouredS r a = stepL r a (k + 1) := by
  have hd := dep_is g ha
  unfold pouredS
  rw [stop_of (d := k) (by omega) (by unfold stopB; rw [h2]; rfl) (fun j hj => by unfold stopB; rw [h1 j hj, decide_eq_false (hd.2.2 j (by omega))]; rfl)]
theorem poured_all (g : Good r) (ha : a < r.length) (h1 : ∀ j, j ≤ dep r a → badB r (ownS r) (stps r j a) = false) : pouredS r a = stepL r a (dep r a + 1) := by
  have hd := dep_is g ha
  unfold pouredS
  rw [stop_of (d := dep r a) (by omega) (by unfold stopB; rw [decide_eq_true hd.2.1, Bool.or_true]) (fun j hj => by unfold stopB; rw [h1 j (by omega), decide_eq_false (hd.2.2 j hj)]; rfl)]
def fillF (r : List RvT) (h : List Int) (i n : Nat) : Int := (List.range n).foldl (fun m k => if 0 ≤ drp r i k then max m (h.getD k default + drp r i k) else m) (h.getD i default)
def fillS (r : List RvT) (h : List Int) : List Int := (List.range r.length).map fun i => fillF r h i r.length
def carveF (r : List RvT) (h : List Int) (i n : Nat) : Int := (List.range n).foldl (fun m k => if 0 ≤ drp r k i then min m (h.getD k default - drp r k i) else m) (h.getD i default)
def carveS (r : List RvT) (h : List Int) : List Int := (List.range r.length).map fun i => carveF r h i r.length
theorem fill_s {n : Nat} : fillF r h i (n + 1) = if 0 ≤ drp r i n then max (fillF r h i n) (h.getD n default + drp r i n) else fillF r h i n := by
  unfold fillF; rw [List.range_succ, List.foldl_append]; rfl
theorem carve_s {n : Nat} : carveF r h i (n + 1) = if 0 ≤ drp r n i then min (carveF r h i n) (h.getD n default - drp r n i) else carveF r h i n := by
  unfold carveF; rw [List.range_succ, List.foldl_append]; rfl
theorem map_at {f : Nat → Int} {n : Nat} (hi : i < n) : ((List.range n).map f).getD i default = f i := by
  rw [List.getD_eq_getElem?_getD, List.getElem?_map, List.getElem?_range hi]; rfl
theorem fill_at (hi : i < r.length) : (fillS r h).getD i default = fillF r h i r.length := map_at hi
theorem carve_at (hi : i < r.length) : (carveS r h).getD i default = carveF r h i r.length := map_at hi
theorem fill_len : (fillS r h).length = r.length := by unfold fillS; rw [List.length_map, List.length_range]
theorem carve_len : (carveS r h).length = r.length := by unfold carveS; rw [List.length_map, List.length_range]
theorem fill_ge0 : ∀ n, h.getD i default ≤ fillF r h i n
  | 0 => Int.le_refl _
  | n + 1 => by have := fill_ge0 n; rw [fill_s]; split <;> omega
theorem fill_ge : ∀ n, k < n → 0 ≤ drp r i k → h.getD k default + drp r i k ≤ fillF r h i n
  | 0, hk, _ => absurd hk (Nat.not_lt_zero _)
  | n + 1, hk, hd => by
    rw [fill_s]
    rcases Nat.lt_or_ge k n with h1 | h1
    · have := fill_ge n h1 hd
      split <;> omega
    · have e : n = k := by omega
      subst e
      rw [if_pos hd]; omega
theorem fill_le {x : Int} (h0 : h.getD i default ≤ x) (h1 : ∀ k, 0 ≤ drp r i k → h.getD k default + drp r i k ≤ x) : ∀ n, fillF r h i n ≤ x
  | 0 => h0
  | n + 1 => by
    have := fill_le h0 h1 n
    rw [fill_s]
    split
    · rename_i hd
      have := h1 n hd
      omega
    · omega
theorem carve_le0 : ∀ n, carveF r h i n ≤ h.getD i default
  | 0 => Int.le_refl _
  | n + 1 => by have := carve_le0 n; rw [carve_s]; split <;> omega
theorem carve_le : ∀ n, k < n → 0 ≤ drp r k i → carveF r h i n ≤ h.getD k default - drp r k i
  | 0, hk, _ => absurd hk (Nat.not_lt_zero _)
  | n + 1, hk, hd => by
    rw [carve_s]
    rcases Nat.lt_or_ge k n with h1 | h1
    · have := carve_le n h1 hd
      split <;> omega
    · have e : n = k := by omega
      subst e
      rw [if_pos hd]; omega
theorem carve_ge {x : Int} (h0 : x ≤ h.getD i default) : ∀ n, (∀ k, k < n → 0 ≤ drp r k i → x ≤ h.getD k default - drp r k i) → x ≤ carveF r h i n
  | 0, _ => h0
  | n + 1, h1 => by
    have := carve_ge h0 n (fun k hk => h1 k (by omega))
    rw [carve_s]
    split
    · rename_i hd
      have := h1 n (by omega) hd
      omega
    · omega
theorem drp_0 (g : Good r) (hi : i < r.length) : drp r i i = 0 := by rw [drp_bl g hi bl_refl]; omega
theorem drp_lt (g : Good r) (hi : i < r.length) (h : 0 ≤ drp r i k) : k < r.length := bl_lt g hi ((drp_ge g hi).1 h)
theorem drp_dn (g : Good r) (hi : i < r.length) (hd : (r.getD i default).dn ≠ -1) : drp r i (r.getD i default).dn.toNat = (r.getD i default).ls := by
  rw [drp_bl g hi (bl_down hd), DM_d g hi hd]; omega
theorem dn_lt (g : Good r) (hi : i < r.length) (hd : (r.getD i default).dn ≠ -1) : (r.getD i default).dn.toNat < r.length := by
  have := stp_lt g hi; rw [stp_d hd] at this; exact this
/-- Heights that run down fall along the way. -/
theorem Runs.fall (g : Good r) (R : Runs r h) (hi : i < r.length) (hb : bl r i k) : h.getD k default + (DM r i - DM r k) ≤ h.getD i default := by
  obtain ⟨j, rfl⟩ := hb
  induction j with
  | zero => show h.getD i default + _ ≤ _; simp only [stps]; omega
  | succ j ih =>
    have hl := stps_lt g hi j
    by_cases hd : (r.getD (stps r j i) default).dn = -1
    · rw [stps_st hd]; exact ih
    · have h1 := R.d _ hl hd
      have h2 := DM_d g hl hd
      rw [stps_up hd]; omega
theorem fill_runs (g : Good r) (hl : h.length = r.length) (h0 : ∀ i, i < r.length → 0 ≤ h.getD i default) (h1 : ∀ i, i < r.length → fillF r h i r.length ≤ 9000) : Runs r (fillS r h) := by
  refine ⟨fill_len, fun i hi => ?_, fun i hi hd => ?_⟩
  · rw [fill_at hi]
    have := fill_ge0 (r := r) (h := h) (i := i) r.length
    have := h0 i hi; have := h1 i hi; omega
  · have hlt := dn_lt g hi hd
    rw [fill_at hi, fill_at hlt]
    have e := DM_d g hi hd
    have := fill_le (r := r) (h := h) (i := (r.getD i default).dn.toNat) (x := fillF r h i r.length - (r.getD i default).ls) ?_ ?_ r.length
    · omega
    · have := fill_ge (r := r) (h := h) (i := i) (k := (r.getD i default).dn.toNat) r.length hlt (by rw [drp_dn g hi hd]; have := g.p i hi; omega)
      rw [drp_dn g hi hd] at this; omega
    · intro k hk
      have hb := (drp_ge g hlt).1 hk
      have hb2 := bl_tr (bl_down hd) hb
      have := fill_ge (r := r) (h := h) (i := i) (k := k) r.length (bl_lt g hi hb2) ((drp_ge g hi).2 hb2)
      rw [drp_bl g hi hb2] at this
      rw [drp_bl g hlt hb]; omega
theorem carve_runs (g : Good r) (hl : h.length = r.length) (h0 : ∀ i, i < r.length → h.getD i default ≤ 9000) (h1 : ∀ i, i < r.length → 0 ≤ carveF r h i r.length) : Runs r (carveS r h) := by
  refine ⟨carve_len, fun i hi => ?_, fun i hi hd => ?_⟩
  · rw [carve_at hi]
    have := carve_le0 (r := r) (h := h) (i := i) r.length
    have := h0 i hi; have := h1 i hi; omega
  · have hlt := dn_lt g hi hd
    rw [carve_at hi, carve_at hlt]
    have e := DM_d g hi hd
    have := carve_ge (r := r) (h := h) (i := i) (x := carveF r h (r.getD i default).dn.toNat r.length + (r.getD i default).ls) ?_ r.length ?_
    · omega
    · have := carve_le (r := r) (h := h) (i := (r.getD i default).dn.toNat) (k := i) r.length hi (by rw [drp_dn g hi hd]; have := g.p i hi; omega)
      rw [drp_dn g hi hd] at this; omega
    · intro k hkl hk
      have hb := (drp_ge g hkl).1 hk
      have hb2 := bl_tr hb (bl_down hd)
      have := carve_le (r := r) (h := h) (i := (r.getD i default).dn.toNat) (k := k) r.length hkl ((drp_ge g hkl).2 hb2)
      rw [drp_bl g hkl hb2] at this
      rw [drp_bl g hkl hb]; omega
/-- The points down from one, and the drops to them. -/
def belS (r : List RvT) (i : Nat) : List (Int × Int) := (List.range (dep r i + 1)).map fun j => (((stps r j i : Nat) : Int), DM r i - DM r (stps r j i))
theorem bel_len : (belS r i).length = dep r i + 1 := by unfold belS; rw [List.length_map, List.length_range]
theorem bel_at (hk : k ≤ dep r i) : (belS r i)[k]? = some (((stps r k i : Nat) : Int), DM r i - DM r (stps r k i)) := by
  unfold belS; rw [List.getElem?_map, List.getElem?_range (by omega)]; rfl
theorem bel_some {x : Int × Int} (hx : (belS r i)[k]? = some x) : k ≤ dep r i ∧ x = (((stps r k i : Nat) : Int), DM r i - DM r (stps r k i)) := by
  have hk : k < (belS r i).length := (List.getElem?_eq_some_iff.1 hx).1
  rw [bel_len] at hk
  rw [bel_at (by omega)] at hx
  exact ⟨by omega, (Option.some.inj hx).symm⟩
theorem stps_inj (g : Good r) (hi : i < r.length) (hj : j ≤ dep r i) (hk : k ≤ dep r i) (e : stps r j i = stps r k i) : j = k := by
  have h1 := dep_stps g hi j
  have h2 := dep_stps g hi k
  rw [e, h2] at h1; omega
def fillI (r : List RvT) (i : Nat) : Nat → Int
  | 0 => 0
  | k + 1 => max (fillI r i k) ((r.getD (stps r k i) default).ht + (DM r i - DM r (stps r k i)))
theorem fillI_bd (g : Good r) (hi : i < r.length) : ∀ k, 0 ≤ fillI r i k ∧ fillI r i k ≤ 13500
  | 0 => by unfold fillI; omega
  | k + 1 => by
    have := fillI_bd g hi k
    have h1 := g.p _ (stps_lt g hi k)
    have h2 := DM_le g hi
    have h3 := DM_le g (stps_lt g hi k)
    unfold fillI; omega
theorem fillI_ge : ∀ k, j < k → (r.getD (stps r j i) default).ht + (DM r i - DM r (stps r j i)) ≤ fillI r i k
  | 0, hk => absurd hk (Nat.not_lt_zero _)
  | k + 1, hk => by
    unfold fillI
    rcases Nat.lt_or_ge j k with h1 | h1
    · have := fillI_ge k h1; omega
    · have e : k = j := by omega
      subst e; omega
theorem fillI_le {x : Int} (h0 : 0 ≤ x) : ∀ k, (∀ j, j < k → (r.getD (stps r j i) default).ht + (DM r i - DM r (stps r j i)) ≤ x) → fillI r i k ≤ x
  | 0, _ => h0
  | k + 1, h1 => by
    have := fillI_le h0 k (fun j hj => h1 j (by omega))
    have := h1 k (by omega)
    unfold fillI; omega
theorem fillI_eq (g : Good r) (hi : i < r.length) : fillI r i (dep r i + 1) = fillF r (ownS r) i r.length := by
  have hp := g.p i hi
  have h0 := fill_ge0 (r := r) (h := ownS r) (i := i) r.length
  rw [own_at hi] at h0
  refine Int.le_antisymm (fillI_le (by omega) _ (fun j hj => ?_)) (fill_le ?_ (fun k hk => ?_) _)
  · have hb : bl r i (stps r j i) := ⟨j, rfl⟩
    have hl := stps_lt g hi j
    have := fill_ge (r := r) (h := ownS r) (i := i) (k := stps r j i) r.length hl ((drp_ge g hi).2 hb)
    rw [drp_bl g hi hb, own_at hl] at this; omega
  · have := fillI_ge (r := r) (i := i) (j := 0) (dep r i + 1) (by omega)
    rw [own_at hi]
    simp only [stps] at this
    omega
  · have hb := (drp_ge g hi).1 hk
    obtain ⟨j, hj, rfl⟩ := (bl_fin g hi).1 hb
    rw [drp_bl g hi hb, own_at (stps_lt g hi j)]
    exact fillI_ge _ (by omega)
/-- What is left of the greatest height above points, after some of them. -/
def cutG (r : List RvT) (p : Nat) : Nat → Int
  | 0 => 9000
  | i + 1 => if 0 ≤ drp r i p then min (cutG r p i) ((r.getD i default).ht - drp r i p) else cutG r p i
theorem cut_le9 : ∀ i, cutG r p i ≤ 9000
  | 0 => Int.le_refl _
  | i + 1 => by have := cut_le9 i; unfold cutG; split <;> omega
theorem cut_ge (g : Good r) : ∀ i, i ≤ r.length → -4500 ≤ cutG r p i
  | 0, _ => by unfold cutG; omega
  | i + 1, hi => by
    have := cut_ge g i (by omega)
    have := g.p i (by omega)
    have := drp_bd g (show i < r.length by omega) (k := p)
    unfold cutG; split <;> omega
theorem cut_mono : ∀ i j, cutG r p (i + j) ≤ cutG r p i
  | i, 0 => Int.le_refl _
  | i, j + 1 => by
    have := cut_mono i j
    show cutG r p (i + j + 1) ≤ _
    rw [cutG]; split <;> omega
theorem cut_eq (g : Good r) (hp : p < r.length) : cutG r p r.length = carveF r (ownS r) p r.length := by
  have h1 : ∀ n, n ≤ r.length → cutG r p n = min 9000 (cutG r p n) ∧ carveF r (ownS r) p n = min ((r.getD p default).ht) (cutG r p n) := by
    intro n
    induction n with
    | zero => intro _; have := g.p p hp; unfold carveF cutG; simp only [List.range_zero, List.foldl_nil]; rw [own_at hp]; omega
    | succ n ih =>
      intro hn
      have h := ih (by omega)
      have h9 := cut_le9 (r := r) (p := p) (n + 1)
      refine ⟨by omega, ?_⟩
      rw [carve_s, own_at (by omega), cutG]
      split <;> omega
  have h2 : ∀ n, p < n → cutG r p n ≤ (r.getD p default).ht := by
    intro n
    induction n with
    | zero => intro h; exact absurd h (Nat.not_lt_zero _)
    | succ n ih =>
      intro h
      rw [cutG]
      rcases Nat.lt_or_ge p n with h3 | h3
      · have := ih h3; split <;> omega
      · have e : n = p := by omega
        subst e
        rw [drp_0 g hp, if_pos (Int.le_refl 0)]; omega
  have := h1 r.length (Nat.le_refl _)
  have := h2 r.length hp
  omega
/-- The list, after i points and k steps down from the next one. -/
def cutL (r : List RvT) (i k : Nat) : List Int := (List.range r.length).map fun (p : Nat) => if (stepL r i k).contains ((p : Nat) : Int) then cutG r p (i + 1) else cutG r p i
theorem cutL_len : (cutL r i k).length = r.length := by unfold cutL; rw [List.length_map, List.length_range]
theorem mem_step {x : Nat} : (x : Int) ∈ stepL r i k ↔ ∃ j, j < k ∧ stps r j i = x := by
  unfold stepL
  rw [List.mem_map]
  constructor
  · rintro ⟨j, hj, e⟩
    exact ⟨j, List.mem_range.1 hj, by omega⟩
  · rintro ⟨j, hj, e⟩
    exact ⟨j, List.mem_range.2 hj, by rw [e]⟩
theorem cutL_at {x : Nat} (hx : x < r.length) : (cutL r i k).getD x default = if (stepL r i k).contains (x : Int) then cutG r x (i + 1) else cutG r x i := map_at hx
theorem cutL_0 : cutL r i 0 = (List.range r.length).map fun p => cutG r p i := by
  unfold cutL; apply List.map_congr_left; intro p _; simp [stepL]
theorem cutL_all (g : Good r) (hi : i < r.length) : cutL r i (dep r i + 1) = cutL r (i + 1) 0 := by
  rw [cutL_0]
  unfold cutL; apply List.map_congr_left; intro p _
  by_cases h : (p : Int) ∈ stepL r i (dep r i + 1)
  · rw [if_pos (by simpa using h)]
  · rw [if_neg (by simpa using h)]
    rw [cutG, if_neg]
    intro hd
    obtain ⟨j, hj, e⟩ := (bl_fin g hi).1 ((drp_ge g hi).1 hd)
    exact h (mem_step.2 ⟨j, by omega, e⟩)
/-- The next step. -/
theorem cutL_cur (g : Good r) (hi : i < r.length) (hk : k ≤ dep r i) : (cutL r i k).getD (stps r k i) default = cutG r (stps r k i) i := by
  rw [cutL_at (stps_lt g hi k), if_neg]
  intro h
  obtain ⟨j, hj, e⟩ := mem_step.1 (by simpa using h)
  have := stps_inj g hi (by omega) hk e
  omega
theorem cut_next (g : Good r) (hi : i < r.length) : cutG r (stps r k i) (i + 1) = min (cutG r (stps r k i) i) ((r.getD i default).ht - (DM r i - DM r (stps r k i))) := by
  have hb : bl r i (stps r k i) := ⟨k, rfl⟩
  rw [cutG, if_pos ((drp_ge g hi).2 hb), drp_bl g hi hb]
theorem cutL_set (g : Good r) (hi : i < r.length) (hk : k ≤ dep r i) : (cutL r i k).set (stps r k i) (cutG r (stps r k i) (i + 1)) = cutL r i (k + 1) := by
  refine list_ext (by rw [List.length_set, cutL_len, cutL_len]) (fun j hj => ?_)
  rw [List.length_set, cutL_len] at hj
  have hs := stps_lt g hi k
  rw [cutL_at hj]
  by_cases e : stps r k i = j
  · subst e
    rw [if_pos (by simp only [List.contains_iff_mem]; exact mem_step.2 ⟨k, by omega, rfl⟩)]
    simp [List.getD_eq_getElem?_getD, List.getElem?_set, cutL_len, hs]
  · have e1 : ((cutL r i k).set (stps r k i) (cutG r (stps r k i) (i + 1))).getD j default = (cutL r i k).getD j default := by
      simp [List.getD_eq_getElem?_getD, List.getElem?_set, e]
    rw [e1, cutL_at hj, step_s]
    congr 1
    simp only [List.contains_iff_mem, List.mem_append, List.mem_singleton, eq_iff_iff]
    constructor
    · exact .inl
    · rintro (h | h)
      · exact h
      · omega
def fillE (r : List RvT) : Int := if (chk r).2.2 ≠ 0 then (chk r).2.2 else if runB r (fillS r (ownS r)) = true then 0 else 9
def fillL (r : List RvT) : List Int := if fillE r = 0 then fillS r (ownS r) else []
def carveE (r : List RvT) : Int := if (chk r).2.2 ≠ 0 then (chk r).2.2 else if runB r (carveS r (ownS r)) = true then 0 else 9
def carveL (r : List RvT) : List Int := if carveE r = 0 then carveS r (ownS r) else []
theorem own_bd (g : Good r) (hi : i < r.length) : 0 ≤ (ownS r).getD i default ∧ (ownS r).getD i default ≤ 9000 := by
  rw [own_at hi]; have := g.p i hi; omega
theorem fillE_9 (g : Good r) (hc : (chk r).2.2 = 0) (hi : i < r.length) (h : 9000 < fillI r i (dep r i + 1)) : fillE r = 9 := by
  unfold fillE
  rw [if_neg (by omega), if_neg]
  intro hr
  have := (runs_iff.1 hr).b i hi
  rw [fill_at hi, ← fillI_eq g hi] at this; omega
theorem fillE_0 (g : Good r) (hc : (chk r).2.2 = 0) (h : ∀ i, i < r.length → fillI r i (dep r i + 1) ≤ 9000) : fillE r = 0 := by
  unfold fillE
  rw [if_neg (by omega), if_pos]
  exact runs_iff.2 (fill_runs g own_len (fun i hi => (own_bd g hi).1) (fun i hi => by rw [← fillI_eq g hi]; exact h i hi))
theorem carveE_9 (g : Good r) (hc : (chk r).2.2 = 0) (hi : i < r.length) (h : cutG r (stps r k i) (i + 1) < 0) : carveE r = 9 := by
  have hs := stps_lt g hi k
  unfold carveE
  rw [if_neg (by omega), if_neg]
  intro hr
  have := (runs_iff.1 hr).b _ hs
  rw [carve_at hs, ← cut_eq g hs] at this
  have h2 := cut_mono (r := r) (p := stps r k i) (i + 1) (r.length - (i + 1))
  rw [show i + 1 + (r.length - (i + 1)) = r.length by omega] at h2
  omega
theorem carveE_0 (g : Good r) (hc : (chk r).2.2 = 0) (h : ∀ i, i < r.length → ∀ k, k ≤ dep r i → 0 ≤ cutG r (stps r k i) (i + 1)) : carveE r = 0 := by
  unfold carveE
  rw [if_neg (by omega), if_pos]
  refine runs_iff.2 (carve_runs g own_len (fun i hi => (own_bd g hi).2) (fun p hp => ?_))
  have : ∀ n, n ≤ r.length → 0 ≤ cutG r p n := by
    intro n
    induction n with
    | zero => intro _; unfold cutG; omega
    | succ n ih =>
      intro hn
      have h1 := ih (by omega)
      by_cases hd : 0 ≤ drp r n p
      · obtain ⟨j, hj, e⟩ := (bl_fin g (show n < r.length by omega)).1 ((drp_ge g (by omega)).1 hd)
        have := h n (by omega) j hj
        rw [e] at this; exact this
      · rw [cutG, if_neg hd]; exact h1
  rw [← cut_eq g hp]; exact this _ (Nat.le_refl _)
theorem cutL_fin (g : Good r) : cutL r r.length 0 = carveS r (ownS r) := by
  rw [cutL_0]; unfold carveS
  apply List.map_congr_left
  intro p hp
  exact cut_eq g (List.mem_range.1 hp)
end
/-- What Bad returns. -/
def badL (r : List RvT) : List Int := if (chk r).2.2 ≠ 0 then [] else badS r (ownS r)
/-- What Poured returns. -/
def pouE (r : List RvT) (a : Int) : Int := if (chk r).2.2 ≠ 0 then (chk r).2.2 else if 0 ≤ a ∧ a ≤ (r.length : Int) - 1 then 0 else 4
def pouL (r : List RvT) (a : Int) : List Int := if pouE r a = 0 then pouredS r a.toNat else []
end Go.Proofs.YtoemnobfnnjopaaDoor

namespace Go.Proofs.YtoemnobfnnjopaaDoor
open Go
/-- A table of nine rows. -/
def dcell (f : Nat → Nat → Int) : List Value := (List.range 81).map fun j => .int .i64 (f (j / 9) (j % 9))
theorem dcell_len {f : Nat → Nat → Int} : (dcell f).length = 81 := by unfold dcell; rw [List.length_map, List.length_range]
theorem dcell_at {f : Nat → Nat → Int} {j : Nat} (hj : j < 81) : (dcell f)[j]? = some (.int .i64 (f (j / 9) (j % 9))) := by
  unfold dcell; rw [List.getElem?_map, List.getElem?_range hj]; rfl
theorem riv_at {f : Nat → Nat → Int} {S : Value} {i k : Nat} (hi : i < 9) (hk : k < 9) : (S :: dcell f)[0 + 1 + i * 9 + k * 1]? = some (.int .i64 (f i k)) := by
  rw [show 0 + 1 + i * 9 + k * 1 = (i * 9 + k) + 1 by omega, List.getElem?_cons_succ, dcell_at (by omega), show (i * 9 + k) / 9 = i by omega, show (i * 9 + k) % 9 = k by omega]
theorem dcell_ext {f h : Nat → Nat → Int} (e : ∀ a b, a < 9 → b < 9 → f a b = h a b) : dcell f = dcell h := by
  unfold dcell; apply List.map_congr_left; intro j hj
  have := List.mem_range.1 hj
  rw [e _ _ (by omega) (by omega)]
theorem riv_set {f h : Nat → Nat → Int} {S : Value} {i k : Nat} {v : Int} (hi : i < 9) (hk : k < 9) (e : ∀ a b, a < 9 → b < 9 → h a b = if a = i ∧ b = k then v else f a b) : K.setn (S :: dcell f) (0 + 1 + i * 9 + k * 1) (.int .i64 v) = S :: dcell h := by
  rw [K.setn_eq, show 0 + 1 + i * 9 + k * 1 = (i * 9 + k) + 1 by omega, List.set_cons_succ]
  congr 1
  apply List.ext_getElem?
  intro j
  rw [List.getElem?_set, dcell_len]
  by_cases hj : j < 81
  · rw [dcell_at hj, dcell_at hj, e _ _ (by omega) (by omega)]
    by_cases h1 : i * 9 + k = j
    · rw [if_pos h1, if_pos (by omega), if_pos ⟨by omega, by omega⟩]
    · rw [if_neg h1, if_neg (by omega)]
  · rw [List.getElem?_eq_none (l := dcell h) (by rw [dcell_len]; omega), List.getElem?_eq_none (l := dcell f) (by rw [dcell_len]; omega)]
    split
    · rename_i h1
      rw [if_neg (by omega)]
    · rfl
/-- The drop from one point to another, or 0 where there are no points. -/
def drT (r : List RvT) (a b : Nat) : Int := if a < r.length ∧ b < r.length then drp r a b else 0
/-- With i rows done, and k fields of the next one set to none. -/
def dA (r : List RvT) (i k a b : Nat) : Int := if a < i then (if b < r.length then drp r a b else 0) else if a = i ∧ b < k then -1 else 0
/-- With m steps down from it done. -/
def dB (r : List RvT) (i m a b : Nat) : Int := if a < i then (if b < r.length then drp r a b else 0) else if a = i ∧ b < r.length then (if (stepL r i m).contains ((b : Nat) : Int) then DM r i - DM r b else -1) else 0
section
variable {r : List RvT} {i k m a b : Nat}
theorem dA_0 : dcell (dA r 0 0) = dcell (fun _ _ => 0) := dcell_ext fun a b _ _ => by unfold dA; rw [if_neg (by omega), if_neg (by omega)]
theorem dA_next {S : Value} (hi : i < 9) (hk : k < 9) : K.setn (S :: dcell (dA r i k)) (0 + 1 + i * 9 + k * 1) (.int .i64 (-1)) = S :: dcell (dA r i (k + 1)) := riv_set hi hk fun a b _ _ => by
  unfold dA
  by_cases h1 : a < i
  · rw [if_pos h1, if_pos h1, if_neg (show ¬ (a = i ∧ b = k) by omega)]
  · rw [if_neg h1, if_neg h1]
    by_cases h2 : a = i ∧ b = k
    · rw [if_pos h2, if_pos (by omega)]
    · rw [if_neg h2]
      by_cases h3 : a = i ∧ b < k
      · rw [if_pos h3, if_pos (by omega)]
      · rw [if_neg h3, if_neg (by omega)]
theorem dB_0 : dcell (dA r i r.length) = dcell (dB r i 0) := dcell_ext fun a b _ _ => by
  unfold dA dB stepL
  simp
theorem dB_next {S : Value} (g : Good r) (hi : i < r.length) (hm : m ≤ dep r i) : K.setn (S :: dcell (dB r i m)) (0 + 1 + i * 9 + stps r m i * 1) (.int .i64 (DM r i - DM r (stps r m i))) = S :: dcell (dB r i (m + 1)) := by
  have hs := stps_lt g hi m
  have hn := g.n
  refine riv_set (by omega) (by omega) fun a b _ _ => ?_
  unfold dB
  by_cases h1 : a < i
  · rw [if_pos h1, if_pos h1, if_neg (show ¬ (a = i ∧ b = stps r m i) by omega)]
  · rw [if_neg h1, if_neg h1]
    by_cases h2 : a = i ∧ b = stps r m i
    · rw [if_pos h2, if_pos (by omega), if_pos (by simp only [List.contains_iff_mem]; exact mem_step.2 ⟨m, by omega, h2.2.symm⟩), h2.2]
    · rw [if_neg h2]
      by_cases h3 : a = i ∧ b < r.length
      · rw [if_pos h3, if_pos h3]
        have e : (stepL r i (m + 1)).contains ((b : Nat) : Int) = (stepL r i m).contains ((b : Nat) : Int) := by
          rw [Bool.eq_iff_iff]
          simp only [List.contains_iff_mem, step_s, List.mem_append, List.mem_singleton]
          constructor
          · rintro (h | h)
            · exact h
            · omega
          · exact .inl
        rw [e]
      · rw [if_neg h3, if_neg h3]
theorem dB_all (g : Good r) (hi : i < r.length) : dcell (dB r i (dep r i + 1)) = dcell (dA r (i + 1) 0) := dcell_ext fun a b _ _ => by
  unfold dB dA
  by_cases h1 : a < i
  · rw [if_pos h1, if_pos (show a < i + 1 by omega)]
  · rw [if_neg h1]
    by_cases h2 : a = i
    · subst h2
      rw [if_pos (show a < a + 1 by omega)]
      by_cases h3 : b < r.length
      · rw [if_pos ⟨rfl, h3⟩, if_pos h3]
        by_cases h4 : bl r a b
        · obtain ⟨j, hj, e⟩ := (bl_fin g hi).1 h4
          rw [drp_bl g hi h4, if_pos (by simp only [List.contains_iff_mem]; exact mem_step.2 ⟨j, by omega, e⟩)]
        · rw [drp_no g hi h4, if_neg]
          simp only [List.contains_iff_mem]
          intro h5
          obtain ⟨j, _, e⟩ := mem_step.1 h5
          exact h4 ⟨j, e⟩
      · rw [if_neg (by omega), if_neg h3]
    · rw [if_neg (by omega), if_neg (by omega), if_neg (by omega)]
theorem dA_all : dcell (dA r r.length 0) = dcell (drT r) := dcell_ext fun a b _ _ => by
  unfold dA drT
  by_cases h1 : a < r.length
  · rw [if_pos h1]
    by_cases h2 : b < r.length
    · rw [if_pos h2, if_pos ⟨h1, h2⟩]
    · rw [if_neg h2, if_neg (by omega)]
  · rw [if_neg h1, if_neg (by omega), if_neg (by omega)]
theorem drT_in (hi : a < r.length) (hk : b < r.length) : drT r a b = drp r a b := if_pos ⟨hi, hk⟩
end
def outAt (r : List RvT) (i k : Nat) : Bool := decide (drp r i k > (r.getD i default).ht) || decide (drp r k i > 9000 - (r.getD i default).ht)
def outS (r : List RvT) (i : Nat) : Bool := (List.range r.length).any (outAt r i)
def conS (r : List RvT) (i k : Nat) : Bool := if drp r i k = -1 then decide (drp r k i ≠ -1) && decide ((r.getD k default).ht - (r.getD i default).ht < drp r k i) else decide ((r.getD i default).ht - (r.getD k default).ht < drp r i k)
/-- The first k points do not stand against i. -/
def corAt (r : List RvT) (s i k : Nat) : Bool := s.testBit k || !conS r i k
def corIn (r : List RvT) (s i : Nat) : Bool := s.testBit i || (!outS r i && (List.range i).all (corAt r s i))
def corS (r : List RvT) (s : Nat) : Bool := (List.range r.length).all (corIn r s)
section
variable {r : List RvT} {s i k : Nat}
theorem out_t (hk : k < r.length) (h : drp r i k > (r.getD i default).ht ∨ drp r k i > 9000 - (r.getD i default).ht) : outS r i = true := by
  unfold outS
  rw [List.any_eq_true]
  refine ⟨k, List.mem_range.2 hk, ?_⟩
  unfold outAt
  rcases h with h | h
  · rw [decide_eq_true h]; rfl
  · rw [decide_eq_true h, Bool.or_true]
theorem out_f (h : ∀ k, k < r.length → ¬ (drp r i k > (r.getD i default).ht) ∧ ¬ (drp r k i > 9000 - (r.getD i default).ht)) : outS r i = false := by
  unfold outS
  rw [List.any_eq_false]
  intro k hk
  obtain ⟨h1, h2⟩ := h k (List.mem_range.1 hk)
  unfold outAt
  rw [decide_eq_false h1, decide_eq_false h2]; simp
theorem cor_f (hi : i < r.length) (h1 : s.testBit i = false) (h : outS r i = true) : corS r s = false := by
  unfold corS
  rw [List.all_eq_false]
  exact ⟨i, List.mem_range.2 hi, by unfold corIn; rw [h1, h]; simp⟩
theorem cor_f2 (hi : i < r.length) (hk : k < i) (h1 : s.testBit i = false) (h2 : s.testBit k = false) (h : conS r i k = true) : corS r s = false := by
  unfold corS
  rw [List.all_eq_false]
  refine ⟨i, List.mem_range.2 hi, ?_⟩
  have : (List.range i).all (corAt r s i) = false := by
    rw [List.all_eq_false]
    exact ⟨k, List.mem_range.2 hk, by unfold corAt; rw [h2, h]; simp⟩
  unfold corIn
  rw [h1, this]; simp
theorem cor_in1 (h : s.testBit i = true) : corIn r s i = true := by unfold corIn; rw [h]; rfl
theorem cor_in2 (h : outS r i = false) (h2 : ∀ k, k < i → corAt r s i k = true) : corIn r s i = true := by
  have : (List.range i).all (corAt r s i) = true := List.all_eq_true.2 fun k hk => h2 k (List.mem_range.1 hk)
  unfold corIn
  rw [h, this]; simp
theorem cor_t (h : ∀ i, i < r.length → corIn r s i = true) : corS r s = true := List.all_eq_true.2 fun i hi => h i (List.mem_range.1 hi)
end
end Go.Proofs.YtoemnobfnnjopaaDoor
end
section
set_option linter.unusedSimpArgs false
set_option linter.unusedVariables false
namespace Go.Proofs.YtoemnobfnnjopaaDoor
open Go
theorem shl_val {n : Nat} (hn : n ≤ 9) : IntKind.i64.wrap (1 * 2 ^ min (Int.toNat (n : Int)) IntKind.i64.bits) = ((2 ^ n : Nat) : Int) := by
  have : n = 0 ∨ n = 1 ∨ n = 2 ∨ n = 3 ∨ n = 4 ∨ n = 5 ∨ n = 6 ∨ n = 7 ∨ n = 8 ∨ n = 9 := by omega
  rcases this with h | h | h | h | h | h | h | h | h | h <;> subst h <;> decide
theorem pow_bd {n : Nat} (hn : n ≤ 9) : 1 ≤ 2 ^ n ∧ 2 ^ n ≤ 512 := by
  have : n = 0 ∨ n = 1 ∨ n = 2 ∨ n = 3 ∨ n = 4 ∨ n = 5 ∨ n = 6 ∨ n = 7 ∨ n = 8 ∨ n = 9 := by omega
  rcases this with h | h | h | h | h | h | h | h | h | h <;> subst h <;> decide
theorem ofn {n : Nat} (h : n < 2 ^ 63) : (BitVec.ofInt IntKind.i64.bits (n : Int)).toNat = n := by
  show (BitVec.ofInt 64 (n : Int)).toNat = n
  rw [BitVec.toNat_ofInt]
  have : ((n : Int) % ((2 ^ 64 : Nat) : Int)) = ((n % 2 ^ 64 : Nat) : Int) := by rw [Int.natCast_emod]
  rw [this, Int.toNat_natCast]
  exact Nat.mod_eq_of_lt (by omega)
theorem and_nat {a b : Nat} (ha : a < 2 ^ 63) (hb : b < 2 ^ 63) : IntKind.i64.wrap (BitVec.ofInt IntKind.i64.bits (a : Int) &&& BitVec.ofInt IntKind.i64.bits (b : Int)).toNat = ((a &&& b : Nat) : Int) := by
  rw [BitVec.toNat_and, ofn ha, ofn hb]
  have := Nat.and_le_left (n := a) (m := b)
  exact IntWalk.i64_in _ (by omega)
theorem or_nat {a b : Nat} (ha : a < 2 ^ 62) (hb : b < 2 ^ 62) : IntKind.i64.wrap (BitVec.ofInt IntKind.i64.bits (a : Int) ||| BitVec.ofInt IntKind.i64.bits (b : Int)).toNat = ((a ||| b : Nat) : Int) := by
  rw [BitVec.toNat_or, ofn (by omega), ofn (by omega)]
  have := Nat.or_lt_two_pow ha hb
  exact IntWalk.i64_in _ (by omega)
theorem fdiv_nat {a b : Nat} : ((a : Int).fdiv (b : Int)) = ((a / b : Nat) : Int) := by
  rw [Int.fdiv_eq_ediv_of_nonneg _ (Int.natCast_nonneg b)]; rfl
theorem bit_val {s i : Nat} (hs : s < 512) (hi : i < 9) : IntKind.i64.wrap (BitVec.ofInt IntKind.i64.bits (((s : Nat) : Int).fdiv (2 ^ min (Int.toNat ((i : Nat) : Int)) IntKind.i64.bits)) &&& BitVec.ofInt IntKind.i64.bits 1).toNat = if s.testBit i then 1 else 0 := by
  rw [Int.toNat_natCast, Nat.min_eq_left (show i ≤ IntKind.i64.bits by show i ≤ 64; omega)]
  have e : ((2 : Int) ^ i) = ((2 ^ i : Nat) : Int) := by rw [Int.natCast_pow]; rfl
  have hd : s / 2 ^ i ≤ s := Nat.div_le_self _ _
  have h1 := and_nat (a := s / 2 ^ i) (b := 1) (by omega) (by omega)
  rw [e, fdiv_nat, show (1 : Int) = ((1 : Nat) : Int) from rfl, h1, Nat.and_one_is_mod, Nat.testBit_eq_decide_div_mod_eq]
  by_cases h : s / 2 ^ i % 2 = 1
  · rw [h]; rfl
  · rw [show s / 2 ^ i % 2 = 0 by omega]; rfl
/-- How many points a set has. -/
def pcS (s : Nat) : Nat := (bitsL (s : Int)).length
/-- The least number of points of a correction among the first sets, and those that have as many. -/
def corF (r : List RvT) : Nat → Nat × List Int
  | 0 => (r.length, [])
  | s + 1 => if pcS s > (corF r s).1 ∨ corS r s = false then corF r s else if pcS s < (corF r s).1 then (pcS s, [(s : Int)]) else ((corF r s).1, (corF r s).2 ++ [(s : Int)])
def corL (r : List RvT) : List Int := (corF r (2 ^ r.length)).2
/-- The first one of some sets, in the order of their lists. -/
def fstS (l : List Int) : Nat → Int
  | 0 => 0
  | k + 1 => if k = 0 ∨ cmpL (bitsL (l.getD k default)) (bitsL (fstS l k)) < 0 then l.getD k default else fstS l k
def allF (n : Nat) (l : List Int) : Nat → Nat
  | 0 => 2 ^ n - 1
  | k + 1 => allF n l k &&& (l.getD k default).toNat
def somF (l : List Int) : Nat → Nat
  | 0 => 0
  | k + 1 => somF l k ||| (l.getD k default).toNat
section
variable {r : List RvT} {s k n : Nat} {l : List Int}
theorem corF_skip (h : pcS s > (corF r s).1 ∨ corS r s = false) : corF r (s + 1) = corF r s := by rw [corF, if_pos h]
theorem corF_new (h1 : ¬ pcS s > (corF r s).1) (h2 : corS r s = true) (h : pcS s < (corF r s).1) : corF r (s + 1) = (pcS s, [(s : Int)]) := by
  rw [corF, if_neg (by rintro (h3 | h3); exact h1 h3; rw [h2] at h3; cases h3), if_pos h]
theorem corF_more (h1 : ¬ pcS s > (corF r s).1) (h2 : corS r s = true) (h : ¬ pcS s < (corF r s).1) : corF r (s + 1) = ((corF r s).1, (corF r s).2 ++ [(s : Int)]) := by
  rw [corF, if_neg (by rintro (h3 | h3); exact h1 h3; rw [h2] at h3; cases h3), if_neg h]
theorem corF_le : ∀ s, (corF r s).1 ≤ r.length ∧ (corF r s).2.length ≤ s
  | 0 => ⟨Nat.le_refl _, Nat.le_refl _⟩
  | s + 1 => by
    have := corF_le s
    rw [corF]
    split
    · omega
    · split
      · simp only [List.length_singleton]; omega
      · simp only [List.length_append, List.length_singleton]; omega
theorem corF_mem : ∀ s, ∀ x ∈ (corF r s).2, 0 ≤ x ∧ x < s
  | 0, x, hx => by simp [corF] at hx
  | s + 1, x, hx => by
    have := corF_mem s
    rw [corF] at hx
    split at hx
    · have := this x hx; omega
    · split at hx
      · simp at hx; omega
      · simp at hx
        rcases hx with hx | hx
        · have := this x hx; omega
        · omega
theorem corL_mem (g : Good r) {x : Int} (h : x ∈ corL r) : 0 ≤ x ∧ x ≤ 511 := by
  have := corF_mem _ x h
  have := pow_bd g.n.2
  omega
theorem corL_len (g : Good r) : (corL r).length ≤ 512 := by
  have := (corF_le (r := r) (2 ^ r.length)).2
  have := pow_bd g.n.2
  unfold corL; omega
theorem corL_at (g : Good r) (hk : k < (corL r).length) : 0 ≤ (corL r).getD k default ∧ (corL r).getD k default ≤ 511 := corL_mem g (K.gt_mem hk)
theorem fst_bd (h : ∀ x ∈ l, 0 ≤ x ∧ x ≤ 511) : ∀ k, k ≤ l.length → 0 ≤ fstS l k ∧ fstS l k ≤ 511
  | 0, _ => by unfold fstS; omega
  | k + 1, hk => by
    have h1 := fst_bd h k (by omega)
    have h2 := h _ (K.gt_mem (show k < l.length by omega))
    unfold fstS
    split <;> omega
theorem all_bd (hn : n ≤ 9) : ∀ k, allF n l k ≤ 511
  | 0 => by have := pow_bd hn; unfold allF; omega
  | k + 1 => by
    have := all_bd hn k
    unfold allF
    have := Nat.and_le_left (n := allF n l k) (m := (l.getD k default).toNat)
    omega
theorem som_bd (h : ∀ x ∈ l, 0 ≤ x ∧ x ≤ 511) : ∀ k, k ≤ l.length → somF l k ≤ 511
  | 0, _ => by unfold somF; omega
  | k + 1, hk => by
    have h1 := som_bd h k (by omega)
    have h2 := h _ (K.gt_mem (show k < l.length by omega))
    unfold somF
    have : somF l k ||| (l.getD k default).toNat < 2 ^ 9 := Nat.or_lt_two_pow (by omega) (by omega)
    omega
end
def fewL (r : List RvT) : List Int := if (chk r).2.2 ≠ 0 then [] else bitsL (fstS (corL r) (corL r).length)
def mustL (r : List RvT) : List Int := if (chk r).2.2 ≠ 0 then [] else bitsL (allF r.length (corL r) (corL r).length : Nat)
def mayL (r : List RvT) : List Int := if (chk r).2.2 ≠ 0 then [] else bitsL (somF (corL r) (corL r).length : Nat)
end Go.Proofs.YtoemnobfnnjopaaDoor

namespace Go.Proofs.YtoemnobfnnjopaaDoor
open Go
abbrev StP := List Int × Int
/-- The chains, with an empty one behind them if it is asked for. -/
def chX (cs : List Int) (n : Nat) : List Int := if n = cs.length then cs ++ [0] else cs
def okP (r : List RvT) (i : Nat) (ch : Int) : Bool := !((bitsL ch).any fun k => !conS r i k.toNat)
/-- With the point in chain n. -/
def setX (cs : List Int) (n i : Nat) : List Int := (chX cs n).set n ((((chX cs n).getD n default).toNat ||| 2 ^ i : Nat) : Int)
def loopP (rec : List Int → List Int → StP → StP) (r : List RvT) (cs l : List Int) (st : StP) : Nat → StP
  | 0 => st
  | n + 1 => if okP r l.length ((chX cs n).getD n default) then rec (setX cs n l.length) (l ++ [(n : Int)]) (loopP rec r cs l st n) else loopP rec r cs l st n
def fillP (r : List RvT) : Nat → List Int → List Int → StP → StP
  | 0, cs, l, st => if st.2 ≤ cs.length then st else (l, cs.length)
  | f + 1, cs, l, st => if st.2 ≤ cs.length then st else if outS r l.length = true then fillP r f cs (l ++ [-1]) st else loopP (fillP r f) r cs l st (cs.length + 1)
/-- Chains of the first i points. -/
structure CsOk (cs : List Int) (i : Nat) : Prop where
  l : cs.length ≤ i
  b : ∀ x ∈ cs, 1 ≤ x ∧ x < 2 ^ i
section
variable {r : List RvT} {cs l : List Int} {st : StP} {n i f : Nat}
theorem fillP_cut (h : st.2 ≤ cs.length) : ∀ f, fillP r f cs l st = st
  | 0 => by rw [fillP, if_pos h]
  | f + 1 => by rw [fillP, if_pos h]
theorem fillP_end (h : ¬ st.2 ≤ cs.length) : fillP r 0 cs l st = (l, (cs.length : Int)) := by rw [fillP, if_neg h]
theorem fillP_out (h : ¬ st.2 ≤ cs.length) (ho : outS r l.length = true) : fillP r (f + 1) cs l st = fillP r f cs (l ++ [-1]) st := by rw [fillP, if_neg h, if_pos ho]
theorem fillP_loop (h : ¬ st.2 ≤ cs.length) (ho : outS r l.length = false) : fillP r (f + 1) cs l st = loopP (fillP r f) r cs l st (cs.length + 1) := by rw [fillP, if_neg h, if_neg (by rw [ho]; decide)]
theorem loopP_yes {rec : List Int → List Int → StP → StP} (h : okP r l.length ((chX cs n).getD n default) = true) : loopP rec r cs l st (n + 1) = rec (setX cs n l.length) (l ++ [(n : Int)]) (loopP rec r cs l st n) := by rw [loopP, if_pos h]
theorem loopP_no {rec : List Int → List Int → StP → StP} (h : okP r l.length ((chX cs n).getD n default) = false) : loopP rec r cs l st (n + 1) = loopP rec r cs l st n := by rw [loopP, if_neg (by rw [h]; decide)]
theorem pow_cast : ((2 ^ i : Nat) : Int) = 2 ^ i := by rw [Int.natCast_pow]; rfl
theorem CsOk.up (h : CsOk cs i) : CsOk cs (i + 1) := ⟨by have := h.l; omega, fun x hx => by have := h.b x hx; rw [Int.pow_succ]; omega⟩
theorem CsOk.nil : CsOk [] i := ⟨Nat.zero_le _, by simp⟩
theorem chX_len (hn : n ≤ cs.length) : (chX cs n).length = if n = cs.length then cs.length + 1 else cs.length := by
  unfold chX; split
  · rw [List.length_append]; rfl
  · rfl
theorem chX_lt (hn : n ≤ cs.length) : n < (chX cs n).length := by rw [chX_len hn]; split <;> omega
theorem chX_le (hn : n ≤ cs.length) : (chX cs n).length ≤ cs.length + 1 := by rw [chX_len hn]; split <;> omega
theorem chX_at (hn : n < cs.length) : (chX cs n).getD n default = cs.getD n default := by unfold chX; rw [if_neg (by omega)]
theorem chX_new (hn : n = cs.length) : (chX cs n).getD n default = 0 := by
  unfold chX; rw [if_pos hn, hn]
  simp [List.getD_eq_getElem?_getD]
theorem chX_bd (h : CsOk cs i) (hn : n ≤ cs.length) : 0 ≤ (chX cs n).getD n default ∧ (chX cs n).getD n default < 2 ^ i := by
  have h2 : (0 : Int) < 2 ^ i := by rw [← pow_cast]; have := Nat.two_pow_pos i; omega
  rcases Nat.lt_or_ge n cs.length with h1 | h1
  · rw [chX_at h1]; have := h.b _ (K.gt_mem h1); omega
  · rw [chX_new (by omega)]; omega
/-- Empty just if it is the new one. -/
theorem chX_zero (h : CsOk cs i) (hn : n ≤ cs.length) : (chX cs n).getD n default = 0 ↔ n = cs.length := by
  constructor
  · intro e
    rcases Nat.lt_or_ge n cs.length with h1 | h1
    · rw [chX_at h1] at e; have := h.b _ (K.gt_mem h1); omega
    · omega
  · exact chX_new
theorem chX_old (hn : n < cs.length) : chX cs n = cs := by unfold chX; rw [if_neg (by omega)]
theorem setX_len : (setX cs n i).length = (chX cs n).length := by unfold setX; rw [List.length_set]
/-- The point is added to its chain. -/
theorem or_pow {a : Nat} (h : a < 2 ^ i) : a ||| 2 ^ i = a + 2 ^ i := by
  have := Nat.two_pow_add_eq_or_of_lt h 1
  rw [Nat.mul_one] at this
  rw [Nat.or_comm, ← this]; omega
theorem ch_nat (h : CsOk cs i) (hn : n ≤ cs.length) : ((chX cs n).getD n default).toNat < 2 ^ i := by
  have := chX_bd h hn
  have e := pow_cast (i := i)
  omega
theorem setX_new (hn : n = cs.length) : setX cs n i = cs ++ [((2 ^ i : Nat) : Int)] := by
  unfold setX
  rw [chX_new hn]
  unfold chX
  rw [if_pos hn, hn, List.set_append_right _ _ (Nat.le_refl _), Nat.sub_self]
  simp
theorem setX_old (hn : n < cs.length) : setX cs n i = cs.set n (((cs.getD n default).toNat ||| 2 ^ i : Nat) : Int) := by
  unfold setX
  rw [chX_at hn, chX_old hn]
theorem setX_ok (h : CsOk cs i) (hn : n ≤ cs.length) : CsOk (setX cs n i) (i + 1) := by
  have hp := pow_cast (i := i)
  have h2 := Nat.two_pow_pos i
  refine ⟨?_, fun x hx => ?_⟩
  · rw [setX_len]; have := chX_le hn; have := h.l; omega
  · rcases Nat.lt_or_ge n cs.length with h1 | h1
    · rw [setX_old h1] at hx
      rcases List.mem_or_eq_of_mem_set hx with hx | hx
      · have := h.b x hx; rw [Int.pow_succ]; omega
      · have h3 := ch_nat h hn
        rw [chX_at h1] at h3
        rw [hx, or_pow h3, Int.pow_succ, ← hp]
        omega
    · rw [setX_new (by omega)] at hx
      rcases List.mem_append.1 hx with hx | hx
      · have := h.b x hx; rw [Int.pow_succ]; omega
      · simp only [List.mem_singleton] at hx
        rw [hx, Int.pow_succ, ← hp]; omega
theorem setX_at (hn : n ≤ cs.length) : (setX cs n i).getD n default = ((((chX cs n).getD n default).toNat ||| 2 ^ i : Nat) : Int) := by
  have := chX_lt hn
  unfold setX
  simp [List.getD_eq_getElem?_getD, List.getElem?_set, this]
theorem setX_back (hn : n ≤ cs.length) : (setX cs n i).set n ((chX cs n).getD n default) = chX cs n := by
  have := chX_lt hn
  unfold setX
  rw [List.set_set]
  apply List.ext_getElem?
  intro j
  rw [List.getElem?_set]
  split
  · rename_i e
    subst e
    first
      | (rw [if_pos this, List.getD_eq_getElem?_getD, List.getElem?_eq_getElem this]; rfl)
      | (rw [List.getD_eq_getElem?_getD, List.getElem?_eq_getElem this]; rfl)
  · rfl
/-- The points of a chain come before. -/
theorem ch_bits {ch : Int} (h0 : 0 ≤ ch) (h : ch < 2 ^ i) {x : Int} (hx : x ∈ bitsL ch) : 0 ≤ x ∧ x < i := by
  unfold bitsL at hx
  obtain ⟨j, _, hb, rfl⟩ := mem_sel.1 hx
  refine ⟨by omega, ?_⟩
  by_cases hj : j < i
  · omega
  · have hp := pow_cast (i := i)
    have : ch.toNat < 2 ^ i := by omega
    have h2 : 2 ^ i ≤ 2 ^ j := Nat.pow_le_pow_right (by decide) (by omega)
    rw [Nat.testBit_lt_two_pow (by omega)] at hb
    cases hb
end
def anC (i c : Nat) : Bool := decide (c < 2 ^ i) == false || decide (IntKind.i64.wrap (BitVec.ofInt IntKind.i64.bits (((c ||| 2 ^ i : Nat) : Nat) : Int) &&& ~~~BitVec.ofInt IntKind.i64.bits ((2 ^ i : Nat) : Int)).toNat = (c : Int))
theorem an_0 : (List.range 9).all (fun i => (List.range 128).all fun c => anC i (c + 0)) = true := by decide +kernel
theorem an_1 : (List.range 9).all (fun i => (List.range 128).all fun c => anC i (c + 128)) = true := by decide +kernel
theorem an_2 : (List.range 9).all (fun i => (List.range 128).all fun c => anC i (c + 256)) = true := by decide +kernel
theorem an_3 : (List.range 9).all (fun i => (List.range 128).all fun c => anC i (c + 384)) = true := by decide +kernel
theorem andnot_val {i c : Nat} (hi : i < 9) (hc : c < 2 ^ i) : IntKind.i64.wrap (BitVec.ofInt IntKind.i64.bits (((c ||| 2 ^ i : Nat) : Nat) : Int) &&& ~~~BitVec.ofInt IntKind.i64.bits ((2 ^ i : Nat) : Int)).toNat = (c : Int) := by
  have h9 : c < 512 := by
    have : 2 ^ i ≤ 2 ^ 9 := Nat.pow_le_pow_right (by decide) (by omega)
    omega
  have key : ∀ m, (List.range 9).all (fun i => (List.range 128).all fun c => anC i (c + m)) = true → m ≤ c → c < m + 128 → anC i c = true := fun m h h1 h2 => by
    have := List.all_eq_true.1 (List.all_eq_true.1 h i (List.mem_range.2 hi)) (c - m) (List.mem_range.2 (by omega))
    rwa [show c - m + m = c by omega] at this
  have h : anC i c = true := by
    rcases (show c < 128 ∨ (128 ≤ c ∧ c < 256) ∨ (256 ≤ c ∧ c < 384) ∨ 384 ≤ c by omega) with h | h | h | h
    · exact key 0 an_0 (by omega) (by omega)
    · exact key 128 an_1 (by omega) (by omega)
    · exact key 256 an_2 (by omega) (by omega)
    · exact key 384 an_3 (by omega) (by omega)
  unfold anC at h
  rw [decide_eq_true hc] at h
  simpa using h
def prfS (r : List RvT) : StP := fillP r r.length [] [] ([], (r.length : Int) + 1)
def prfL (r : List RvT) : List Int := if (chk r).2.2 ≠ 0 then [] else (prfS r).1
end Go.Proofs.YtoemnobfnnjopaaDoor
end
section
set_option linter.unusedSimpArgs false
set_option linter.unusedVariables false
namespace Go.Proofs.YtoemnobfnnjopaaDoor
open Go
def neverS : Int := 1099511627776
/-- The mouth. -/
def mthS (r : List RvT) : Nat := ((List.range r.length).find? fun i => decide ((r.getD i default).dn = -1)).getD 0
def lev3 (r : List RvT) (i : Nat) : List Int := [(r.getD i default).ht - DM r i, 9000 - DM r i, 0]
def levU (r : List RvT) : Nat → List Int
  | 0 => []
  | i + 1 => levU r i ++ lev3 r i
def sortS (l : List Int) : List Int := l.mergeSort fun x y => decide (x ≤ y)
def levS (r : List RvT) : List Int := sortS (levU r r.length)
/-- A level is not for a point. -/
def skipB (r : List RvT) (fx : List Int) (a : Nat) (low l : Int) : Bool := decide (l < low) || (decide (¬ (0 ≤ l + DM r a ∧ l + DM r a ≤ 9000)) || (decide (a < fx.length) && decide (fx.getD a default ≠ l + DM r a)))
def ownC (r : List RvT) (a : Nat) (l : Int) : Int := max (l + DM r a - (r.getD a default).ht) ((r.getD a default).ht - (l + DM r a))
def sumF (rec : Nat → Int → Int) (r : List RvT) (a : Nat) (l : Int) : Nat → Int
  | 0 => ownC r a l
  | k + 1 => if (r.getD k default).dn = (a : Int) then sumF rec r a l k + rec k l else sumF rec r a l k
def minF (rec : Nat → Int → Int) (r : List RvT) (lv fx : List Int) (a : Nat) (low : Int) : Nat → Int
  | 0 => neverS
  | j + 1 => if skipB r fx a low (lv.getD j default) = true then minF rec r lv fx a low j else min (minF rec r lv fx a low j) (sumF rec r a (lv.getD j default) r.length)
/-- The least change of a point and all above it, if it is at least at some level. -/
def costF (r : List RvT) (lv fx : List Int) : Nat → Nat → Int → Int
  | 0 => fun _ _ => neverS
  | f + 1 => fun a low => minF (costF r lv fx f) r lv fx a low lv.length
def askS (r : List RvT) (lv fx : List Int) : Int := costF r lv fx (r.length + 1) (mthS r) (-9000)
/-- The heights of the first points. -/
def hgtF (r : List RvT) (ch : Int) : Nat → List Int
  | 0 => []
  | i + 1 => hgtF r ch i ++ [((levS r).find? fun l => decide (askS r (levS r) (hgtF r ch i ++ [l + DM r i]) = ch)).getD ((levS r).getD ((levS r).length - 1) default) + DM r i]
def chgS (r : List RvT) : Int := askS r (levS r) []
def lstC (r : List RvT) : Int := if (chk r).2.2 ≠ 0 then 0 else chgS r
def lstL (r : List RvT) : List Int := if (chk r).2.2 ≠ 0 then [] else hgtF r (chgS r) r.length
section
variable {r : List RvT} {lv fx : List Int} {rec : Nat → Int → Int} {a i j k f : Nat} {l low : Int}
theorem mth_is (g : Good r) : mthS r < r.length ∧ (r.getD (mthS r) default).dn = -1 ∧ ∀ i, i < r.length → (r.getD i default).dn = -1 → i = mthS r := by
  obtain ⟨k, hk, hd, hu⟩ := g.m
  have e : mthS r = k := by
    unfold mthS
    have : (List.range r.length).find? (fun i => decide ((r.getD i default).dn = -1)) = some k := by
      rw [List.find?_range_eq_some]
      exact ⟨decide_eq_true hd, List.mem_range.2 hk, fun j hj => by
        have : (r.getD j default).dn ≠ -1 := fun h => by have := hu j (by omega) h; omega
        rw [decide_eq_false this]; rfl⟩
    rw [this]; rfl
  rw [e]; exact ⟨hk, hd, hu⟩
/-- The mouth is below all. -/
theorem bl_mth (g : Good r) (hi : i < r.length) : bl r i (mthS r) := by
  have h := dep_is g hi
  have := (mth_is g).2.2 _ (stps_lt g hi (dep r i)) h.2.1
  exact ⟨dep r i, this⟩
theorem drp_mth (g : Good r) (hi : i < r.length) : drp r i (mthS r) = DM r i := by
  rw [drp_bl g hi (bl_mth g hi), DM_m (mth_is g).2.1]; omega
theorem levU_len : ∀ i, (levU r i).length = 3 * i
  | 0 => rfl
  | i + 1 => by rw [levU, List.length_append, levU_len i]; show 3 * i + 3 = _; omega
theorem levU_mem (g : Good r) : ∀ i, i ≤ r.length → ∀ x ∈ levU r i, -4500 ≤ x ∧ x ≤ 9000
  | 0, _, x, hx => by simp [levU] at hx
  | i + 1, hi, x, hx => by
    rw [levU, List.mem_append] at hx
    have h1 := g.p i (by omega)
    have h2 := DM_le g (show i < r.length by omega)
    rcases hx with hx | hx
    · exact levU_mem g i (by omega) x hx
    · simp only [lev3, List.mem_cons, List.not_mem_nil, or_false] at hx
      omega
theorem sort_perm {l : List Int} : (sortS l).Perm l := List.mergeSort_perm _ _
theorem levS_len : (levS r).length = 3 * r.length := by unfold levS; rw [sort_perm.length_eq, levU_len]
theorem levS_mem (g : Good r) {x : Int} (h : x ∈ levS r) : -4500 ≤ x ∧ x ≤ 9000 := levU_mem g _ (Nat.le_refl _) x (sort_perm.mem_iff.1 h)
theorem levS_at (g : Good r) (hj : j < (levS r).length) : -4500 ≤ (levS r).getD j default ∧ (levS r).getD j default ≤ 9000 := levS_mem g (K.gt_mem hj)
theorem minF_skip (h : skipB r fx a low (lv.getD j default) = true) : minF rec r lv fx a low (j + 1) = minF rec r lv fx a low j := by rw [minF, if_pos h]
theorem minF_more (h : skipB r fx a low (lv.getD j default) = false) : minF rec r lv fx a low (j + 1) = min (minF rec r lv fx a low j) (sumF rec r a (lv.getD j default) r.length) := by rw [minF, if_neg (by rw [h]; decide)]
theorem sumF_yes (h : (r.getD k default).dn = (a : Int)) : sumF rec r a l (k + 1) = sumF rec r a l k + rec k l := by rw [sumF, if_pos h]
theorem sumF_no (h : (r.getD k default).dn ≠ (a : Int)) : sumF rec r a l (k + 1) = sumF rec r a l k := by rw [sumF, if_neg h]
theorem skip_no (h : skipB r fx a low l = false) : ¬ l < low ∧ (0 ≤ l + DM r a ∧ l + DM r a ≤ 9000) ∧ (a < fx.length → fx.getD a default = l + DM r a) := by
  unfold skipB at h
  rw [Bool.or_eq_false_iff, Bool.or_eq_false_iff, decide_eq_false_iff_not, decide_eq_false_iff_not, Bool.and_eq_false_iff, decide_eq_false_iff_not, decide_eq_false_iff_not] at h
  obtain ⟨h1, h2, h3⟩ := h
  refine ⟨h1, Decidable.not_not.1 h2, fun h4 => ?_⟩
  rcases h3 with h3 | h3
  · exact absurd h4 h3
  · exact Decidable.not_not.1 h3
theorem skip_n (h1 : ¬ l < low) (h2 : 0 ≤ l + DM r a ∧ l + DM r a ≤ 9000) (h3 : a < fx.length → fx.getD a default = l + DM r a) : skipB r fx a low l = false := by
  unfold skipB
  rw [decide_eq_false h1, decide_eq_false (fun h => h h2)]
  by_cases h4 : a < fx.length
  · rw [decide_eq_true h4, decide_eq_false (fun h => h (h3 h4))]; rfl
  · rw [decide_eq_false h4]; rfl
theorem skip_y (h : l < low ∨ ¬ (0 ≤ l + DM r a ∧ l + DM r a ≤ 9000) ∨ (a < fx.length ∧ fx.getD a default ≠ l + DM r a)) : skipB r fx a low l = true := by
  unfold skipB
  rcases h with h | h | ⟨h1, h2⟩
  · rw [decide_eq_true h]; rfl
  · rw [decide_eq_true h]; simp
  · rw [decide_eq_true h1, decide_eq_true h2]; simp
theorem ownC_bd (g : Good r) (ha : a < r.length) (h : 0 ≤ l + DM r a ∧ l + DM r a ≤ 9000) : 0 ≤ ownC r a l ∧ ownC r a l ≤ 9000 := by
  have := g.p a ha
  unfold ownC; omega
/-- A cost of no point is never asked. -/
def recB (r : List RvT) (rec : Nat → Int → Int) : Prop := ∀ k, k < r.length → ∀ l, 0 ≤ rec k l ∧ rec k l ≤ neverS
theorem sumF_bd' (hr : recB r rec) (h0 : 0 ≤ ownC r a l ∧ ownC r a l ≤ 9000) : ∀ k, k ≤ r.length → 0 ≤ sumF rec r a l k ∧ sumF rec r a l k ≤ 9000 + k * neverS
  | 0, _ => by simp only [sumF]; omega
  | k + 1, hk => by
    have h1 := sumF_bd' hr h0 k (by omega)
    have h2 := hr k (by omega) l
    rw [sumF]
    have e : ((k + 1 : Nat) : Int) * neverS = (k : Int) * neverS + neverS := by push_cast; rw [Int.add_mul, Int.one_mul]
    rw [e]
    have : 0 ≤ neverS := by decide
    split <;> omega
theorem minF_bd' (g : Good r) (ha : a < r.length) (hr : recB r rec) : ∀ j, 0 ≤ minF rec r lv fx a low j ∧ minF rec r lv fx a low j ≤ neverS
  | 0 => by simp only [minF]; exact ⟨by decide, Int.le_refl _⟩
  | j + 1 => by
    have h1 := minF_bd' g ha hr j
    rw [minF]
    split
    · exact h1
    · rename_i h
      have h2 := skip_no (Bool.eq_false_iff.2 h)
      have h3 := sumF_bd' hr (ownC_bd g ha h2.2.1) r.length (Nat.le_refl _)
      omega
theorem cost_bd (g : Good r) : ∀ f, recB r (costF r lv fx f)
  | 0 => fun k _ l => ⟨by show (0 : Int) ≤ neverS; decide, Int.le_refl _⟩
  | f + 1 => fun k hk l => minF_bd' g hk (cost_bd g f) _
end
/-- What is kept of costs. -/
def spotV (a l : Int) : Value := .agg #[.int .i64 a, .int .i64 l]
def KnOk (r : List RvT) (lv fx : List Int) (kvs : List (Value × Int)) : Prop := ∀ p ∈ kvs, ∃ (a : Nat) (l : Int), p.1 = spotV a l ∧ a < r.length ∧ (-9000 ≤ l ∧ l ≤ 9000) ∧ p.2 = costF r lv fx (r.length + 1 - dep r a) a l
theorem kn_nil {r : List RvT} {lv fx : List Int} : KnOk r lv fx [] := by intro p hp; simp at hp
theorem spot_inj {a a' l l' : Int} (h : spotV a l = spotV a' l') : a = a' ∧ l = l' := by
  unfold spotV at h
  injection h with h
  have h2 := congrArg Array.toList h
  simp only [List.cons.injEq] at h2
  obtain ⟨h3, h4, _⟩ := h2
  injection h3 with _ h3
  injection h4 with _ h4
  exact ⟨h3, h4⟩
theorem kn_at {r : List RvT} {lv fx : List Int} {kvs : List (Value × Int)} {a : Nat} {l n : Int} (h : KnOk r lv fx kvs) (hm : (spotV a l, n) ∈ kvs) : n = costF r lv fx (r.length + 1 - dep r a) a l := by
  obtain ⟨a', l', e, _, _, hv⟩ := h _ hm
  obtain ⟨h1, h2⟩ := spot_inj e
  have : a = a' := by omega
  subst this; subst h2
  exact hv
theorem kn_put {r : List RvT} {lv fx : List Int} {kvs kvs' : List (Value × Int)} {a : Nat} {l : Int} (h : KnOk r lv fx kvs) (ha : a < r.length) (hl : -9000 ≤ l ∧ l ≤ 9000) (hp : K.PutQ kvs (spotV a l) (costF r lv fx (r.length + 1 - dep r a) a l) kvs') : KnOk r lv fx kvs' := by
  intro p hpm
  rcases hp with ⟨_, rfl⟩ | ⟨j, n, _, rfl⟩
  · rcases List.mem_append.1 hpm with h2 | h2
    · exact h p h2
    · simp at h2; subst h2; exact ⟨a, l, rfl, ha, hl, rfl⟩
  · rcases List.mem_or_eq_of_mem_set hpm with h2 | h2
    · exact h p h2
    · subst h2; exact ⟨a, l, rfl, ha, hl, rfl⟩
theorem find_at {p : Int → Bool} {l : List Int} {j : Nat} (hj : j < l.length) (h0 : ∀ k, k < j → p (l.getD k default) = false) (h1 : p (l.getD j default) = true) : l.find? p = some (l.getD j default) := by
  rw [List.find?_eq_some_iff_getElem]
  have e : l.getD j default = l[j] := by rw [List.getD_eq_getElem?_getD, List.getElem?_eq_getElem hj]; rfl
  refine ⟨h1, j, hj, e.symm, fun k hk => ?_⟩
  have e2 : l.getD k default = l[k] := by rw [List.getD_eq_getElem?_getD, List.getElem?_eq_getElem (by omega)]; rfl
  rw [← e2, h0 k hk]; rfl
theorem find_no {p : Int → Bool} {l : List Int} (h0 : ∀ k, k < l.length → p (l.getD k default) = false) : l.find? p = none := by
  rw [List.find?_eq_none]
  intro x hx
  obtain ⟨k, hk, rfl⟩ := List.mem_iff_getElem.1 hx
  have e2 : l.getD k default = l[k] := by rw [List.getD_eq_getElem?_getD, List.getElem?_eq_getElem hk]; rfl
  rw [← e2, h0 k hk]; decide
section
variable {r : List RvT} {ch : Int} {i j : Nat}
theorem hgt_len : ∀ i, (hgtF r ch i).length = i
  | 0 => rfl
  | i + 1 => by rw [hgtF, List.length_append, hgt_len i]; rfl
/-- The fixed heights of a try. -/
def tryL (r : List RvT) (ch : Int) (i j : Nat) : List Int := hgtF r ch i ++ [(levS r).getD j default + DM r i]
theorem try_len : (tryL r ch i j).length = i + 1 := by unfold tryL; rw [List.length_append, hgt_len]; rfl
theorem hgt_found (hj : j < (levS r).length) (h0 : ∀ k, k < j → askS r (levS r) (tryL r ch i k) ≠ ch) (h1 : askS r (levS r) (tryL r ch i j) = ch) : hgtF r ch (i + 1) = tryL r ch i j := by
  rw [hgtF, find_at (p := fun l => decide (askS r (levS r) (hgtF r ch i ++ [l + DM r i]) = ch)) hj (fun k hk => decide_eq_false (h0 k hk)) (decide_eq_true h1)]
  rfl
theorem hgt_last (hn : 0 < (levS r).length) (h0 : ∀ k, k < (levS r).length → askS r (levS r) (tryL r ch i k) ≠ ch) : hgtF r ch (i + 1) = tryL r ch i ((levS r).length - 1) := by
  rw [hgtF, find_no (p := fun l => decide (askS r (levS r) (hgtF r ch i ++ [l + DM r i]) = ch)) (fun k hk => decide_eq_false (h0 k hk))]
  rfl
end
end Go.Proofs.YtoemnobfnnjopaaDoor
end
section
set_option linter.unusedSimpArgs false
set_option linter.unusedVariables false
namespace Go.Proofs.YtoemnobfnnjopaaDoor
open Go
theorem dep_lt {r : List RvT} {i : Nat} (g : Good r) (hi : i < r.length) : dep r i < r.length := by
  have h1 : ((List.range (dep r i + 1)).map fun k => stps r k i).Nodup := by
    unfold List.Nodup
    rw [List.pairwise_map]
    refine List.Pairwise.imp_of_mem (R := fun a b => a ≠ b) ?_ (List.nodup_range (n := dep r i + 1))
    intro a b ha hb hab e
    exact hab (stps_inj g hi (by have := List.mem_range.1 ha; omega) (by have := List.mem_range.1 hb; omega) e)
  have h2 := h1.length_le_of_subset (l₂ := List.range r.length) (fun x hx => by
    obtain ⟨k, _, rfl⟩ := List.mem_map.1 hx
    exact List.mem_range.2 (stps_lt g hi k))
  rw [List.length_map, List.length_range, List.length_range] at h2
  omega
end Go.Proofs.YtoemnobfnnjopaaDoor

namespace Go.Proofs.YtoemnobfnnjopaaDoor
open Go
/-- So much is left for a point, by the first k points above it. -/
def mostF (r : List RvT) (i : Nat) : Nat → Int
  | 0 => 9000
  | k + 1 => min (mostF r i k) (9000 - max 0 (drp r k i))
def AF (r : List RvT) (t : Nat → Int) : Nat → Nat → Int
  | 0, _ => 0
  | f + 1, i => min (mostF r i r.length) ((if (r.getD i default).dn = -1 then 0 else AF r t f (r.getD i default).dn.toNat + (r.getD i default).ls) + t i)
def anyV (r : List RvT) (t : Nat → Int) (i : Nat) : Int := AF r t r.length i
def lowV (r : List RvT) (t : Nat → Int) (i : Nat) : Int := if (r.getD i default).dn = -1 then 0 else anyV r t (r.getD i default).dn.toNat + (r.getD i default).ls
def anyS (r : List RvT) (t : Nat → Int) : List Int := (List.range r.length).map (anyV r t)
/-- Those that are done. -/
def hsD (r : List RvT) (t : Nat → Int) (D : List Bool) : List Int := (List.range r.length).map fun i => if D.getD i default = true then anyV r t i else 0
section
variable {r : List RvT} {t : Nat → Int} {i k : Nat} {D : List Bool}
theorem AF_eq (g : Good r) : ∀ f f' i, i < r.length → dep r i < f → dep r i < f' → AF r t f i = AF r t f' i
  | 0, _, _, _, h, _ => absurd h (Nat.not_lt_zero _)
  | _, 0, _, _, _, h => absurd h (Nat.not_lt_zero _)
  | f + 1, f' + 1, i, hi, h, h' => by
    rw [AF, AF]
    by_cases hd : (r.getD i default).dn = -1
    · rw [if_pos hd, if_pos hd]
    · have := dep_d g hi hd
      rw [if_neg hd, if_neg hd, AF_eq g f f' _ (dn_lt g hi hd) (by omega) (by omega)]
theorem any_eq (g : Good r) (hi : i < r.length) : anyV r t i = min (mostF r i r.length) (lowV r t i + t i) := by
  have hd := dep_lt g hi
  have e : anyV r t i = AF r t (r.length + 1) i := AF_eq g _ _ _ hi hd (by omega)
  rw [e, AF]
  unfold lowV anyV
  rfl
theorem most_bd (g : Good r) : ∀ n, n ≤ r.length → 4500 ≤ mostF r i n ∧ mostF r i n ≤ 9000
  | 0, _ => by unfold mostF; omega
  | n + 1, h => by
    have := most_bd g n (by omega)
    have := drp_bd (k := i) g (show n < r.length by omega)
    unfold mostF; omega
theorem most_le : ∀ n, k < n → mostF r i n ≤ 9000 - max 0 (drp r k i)
  | 0, h => absurd h (Nat.not_lt_zero _)
  | n + 1, h => by
    unfold mostF
    rcases Nat.lt_or_ge k n with h1 | h1
    · have := most_le n h1; omega
    · rw [show k = n by omega]; omega
theorem most_ge {x : Int} (h0 : x ≤ 9000) : ∀ n, (∀ k, k < n → x ≤ 9000 - max 0 (drp r k i)) → x ≤ mostF r i n
  | 0, _ => h0
  | n + 1, h => by
    have := most_ge h0 n (fun k hk => h k (by omega))
    have := h n (by omega)
    unfold mostF; omega
theorem any_bd (g : Good r) (ht : ∀ i, 0 ≤ t i) : ∀ i, i < r.length → 0 ≤ anyV r t i ∧ anyV r t i ≤ 9000 := by
  refine down_ind g (fun i hi hm => ?_) (fun i hi hm hlt ih => ?_)
  · have h1 := any_eq (t := t) g hi
    have h2 := most_bd (i := i) g r.length (Nat.le_refl _)
    have h3 : lowV r t i = 0 := by unfold lowV; rw [if_pos hm]
    have := ht i
    omega
  · have h1 := any_eq (t := t) g hi
    have h2 := most_bd (i := i) g r.length (Nat.le_refl _)
    have h3 : lowV r t i = anyV r t (r.getD i default).dn.toNat + (r.getD i default).ls := by unfold lowV; rw [if_neg hm]
    have := ht i
    have := g.p i hi
    omega
theorem low_bd (g : Good r) (ht : ∀ i, 0 ≤ t i) (hi : i < r.length) : 0 ≤ lowV r t i ∧ lowV r t i ≤ 9500 := by
  unfold lowV
  split
  · omega
  · rename_i hm
    have := any_bd g ht _ (dn_lt g hi hm)
    have := g.p i hi
    omega
theorem any_at (hi : i < r.length) : (anyS r t).getD i default = anyV r t i := map_at hi
theorem any_len : (anyS r t).length = r.length := by unfold anyS; rw [List.length_map, List.length_range]
/-- They run down. -/
theorem any_runs (g : Good r) (ht : ∀ i, 0 ≤ t i) : Runs r (anyS r t) := by
  refine ⟨any_len, fun i hi => ?_, fun i hi hd => ?_⟩
  · rw [any_at hi]; exact any_bd g ht i hi
  · have hl := dn_lt g hi hd
    rw [any_at hi, any_at hl]
    have h1 := any_eq (t := t) g hi
    have h1d := any_eq (t := t) g hl
    have h3 : lowV r t i = anyV r t (r.getD i default).dn.toNat + (r.getD i default).ls := by unfold lowV; rw [if_neg hd]
    have := ht i
    have hp := g.p i hi
    have hm : mostF r (r.getD i default).dn.toNat r.length + (r.getD i default).ls ≤ mostF r i r.length := by
      have hb : ∀ k, k < r.length → 0 ≤ drp r k i → mostF r (r.getD i default).dn.toNat r.length ≤ 9000 - (drp r k i + (r.getD i default).ls) := fun k hk hk2 => by
        have b1 := (drp_ge g hk).1 hk2
        have b2 := bl_tr b1 (bl_down hd)
        have := most_le (r := r) (i := (r.getD i default).dn.toNat) r.length hk
        rw [drp_bl g hk b2] at this
        have := DM_d g hi hd
        rw [drp_bl g hk b1]
        omega
      have h0 := hb i hi (by rw [drp_0 g hi]; omega)
      rw [drp_0 g hi] at h0
      refine most_ge (by omega) _ (fun k hk => ?_)
      rcases Int.lt_or_le (drp r k i) 0 with h | h
      · omega
      · have := hb k hk h; omega
    omega
theorem hsD_len : (hsD r t D).length = r.length := by unfold hsD; rw [List.length_map, List.length_range]
theorem hsD_at (hi : i < r.length) : (hsD r t D).getD i default = if D.getD i default = true then anyV r t i else 0 := map_at hi
theorem hsD_0 : hsD r t (List.replicate r.length false) = List.replicate r.length 0 := by
  unfold hsD
  apply List.ext_getElem (by simp)
  intro j h1 h2
  have hj : j < r.length := by simpa using h1
  simp [List.getElem_replicate, List.getD_eq_getElem?_getD, hj]
theorem hsD_set (hi : i < r.length) (hl : D.length = r.length) : (hsD r t D).set i (anyV r t i) = hsD r t (D.set i true) := by
  refine list_ext (by rw [List.length_set, hsD_len, hsD_len]) (fun j hj => ?_)
  rw [List.length_set, hsD_len] at hj
  rw [hsD_at hj]
  by_cases e : i = j
  · subst e
    simp [List.getD_eq_getElem?_getD, List.getElem?_set, hsD_len, hl, hi]
  · have e1 : ((hsD r t D).set i (anyV r t i)).getD j default = (hsD r t D).getD j default := by
      simp [List.getD_eq_getElem?_getD, List.getElem?_set, e]
    have e2 : (D.set i true).getD j default = D.getD j default := by
      simp [List.getD_eq_getElem?_getD, List.getElem?_set, e]
    rw [e1, e2, hsD_at hj]
theorem hsD_all (h : ∀ j, j < r.length → D.getD j default = true) : hsD r t D = anyS r t := by
  unfold hsD anyS
  apply List.map_congr_left
  intro j hj
  rw [if_pos (h j (List.mem_range.1 hj))]
theorem set_get (hl : D.length = r.length) (hi : i < r.length) : (D.set i true).getD i default = true := by
  simp [List.getD_eq_getElem?_getD, List.getElem?_set, hl, hi]
theorem set_old {j : Nat} (h : D.getD j default = true) : (D.set i true).getD j default = true := by
  by_cases e : i = j
  · subst e
    rw [List.getD_eq_getElem?_getD, List.getElem?_set]
    by_cases hi : i < D.length
    · simp [hi]
    · rw [List.getD_eq_getElem?_getD, List.getElem?_eq_none (by omega)] at h; exact absurd h (by decide)
  · rw [List.getD_eq_getElem?_getD, List.getElem?_set, if_neg e, ← List.getD_eq_getElem?_getD]; exact h
end
end Go.Proofs.YtoemnobfnnjopaaDoor

namespace Go.Proofs.YtoemnobfnnjopaaDoor
open Go
/-- The same points, with the same ways down. -/
structure Like (r s : List RvT) : Prop where
  l : s.length = r.length
  d : ∀ i, (s.getD i default).dn = (r.getD i default).dn
  n : ∀ i, (s.getD i default).nm = (r.getD i default).nm
/-- And as steep. -/
structure Same (r s : List RvT) : Prop extends Like r s where
  s : ∀ i, (s.getD i default).ls = (r.getD i default).ls
section
variable {r s : List RvT} {i k : Nat}
theorem Like.stp (h : Like r s) : stp s i = stp r i := by unfold Go.Proofs.YtoemnobfnnjopaaDoor.stp; rw [h.d]
theorem Like.stps (h : Like r s) : ∀ k i, stps s k i = stps r k i
  | 0, _ => rfl
  | k + 1, i => by rw [Go.Proofs.YtoemnobfnnjopaaDoor.stps, h.stps k i, h.stp]; rfl
theorem Like.dep (h : Like r s) : dep s i = dep r i := by
  have e : (fun k => decide ((s.getD (Go.Proofs.YtoemnobfnnjopaaDoor.stps s k i) default).dn = -1)) = fun k => decide ((r.getD (Go.Proofs.YtoemnobfnnjopaaDoor.stps r k i) default).dn = -1) := by
    funext k; rw [h.stps, h.d]
  unfold Go.Proofs.YtoemnobfnnjopaaDoor.dep
  rw [h.l, e]
theorem Like.bl (h : Like r s) : bl s i k ↔ bl r i k := by
  unfold Go.Proofs.YtoemnobfnnjopaaDoor.bl
  constructor
  · rintro ⟨j, e⟩; exact ⟨j, by rw [← h.stps]; exact e⟩
  · rintro ⟨j, e⟩; exact ⟨j, by rw [h.stps]; exact e⟩
theorem Like.blB (h : Like r s) : blB s i k = blB r i k := by
  have e : (fun j => Go.Proofs.YtoemnobfnnjopaaDoor.stps s j i == k) = fun j => Go.Proofs.YtoemnobfnnjopaaDoor.stps r j i == k := by
    funext j; rw [h.stps]
  unfold Go.Proofs.YtoemnobfnnjopaaDoor.blB
  rw [h.l, e]
theorem Same.DF (h : Same r s) : ∀ f i, DF s f i = DF r f i
  | 0, _ => rfl
  | f + 1, i => by rw [Go.Proofs.YtoemnobfnnjopaaDoor.DF, Go.Proofs.YtoemnobfnnjopaaDoor.DF, h.d, h.s, h.DF f]
theorem Same.DM (h : Same r s) : DM s i = DM r i := by unfold Go.Proofs.YtoemnobfnnjopaaDoor.DM; rw [h.l, h.DF]
theorem Same.drp (h : Same r s) : drp s i k = drp r i k := by unfold Go.Proofs.YtoemnobfnnjopaaDoor.drp; rw [h.blB, h.DM, h.DM]
theorem Same.badB (h : Same r s) {l : List Int} : badB s l i = badB r l i := by unfold Go.Proofs.YtoemnobfnnjopaaDoor.badB; rw [h.d, h.s]
theorem Same.badS (h : Same r s) {l : List Int} : badS s l = badS r l := by
  unfold Go.Proofs.YtoemnobfnnjopaaDoor.badS; rw [h.l]; exact selN_congr fun i _ => h.badB
end
section
variable {r : List RvT} {l : List Int} {i k : Nat}
theorem set_at {E : Type} [Inhabited E] {xs : List E} {x : E} {i j : Nat} (hi : i < xs.length) : (xs.set i x).getD j default = if i = j then x else xs.getD j default := by
  rw [List.getD_eq_getElem?_getD, List.getElem?_set]
  by_cases e : i = j
  · subst e; rw [if_pos rfl, if_pos rfl, if_pos hi]; rfl
  · rw [if_neg e, if_neg e, ← List.getD_eq_getElem?_getD]
end
end Go.Proofs.YtoemnobfnnjopaaDoor

namespace Go.Proofs.YtoemnobfnnjopaaDoor
open Go
/-- The one or the other. -/
def two {E : Type} (n : Nat) (a b : E) : E := if n = 0 then a else b
section
variable {r : List RvT} {h : List Int} {i k a : Nat}
end
end Go.Proofs.YtoemnobfnnjopaaDoor
end
section
set_option linter.unusedSimpArgs false
set_option linter.unusedVariables false
namespace Go.Proofs.YtoemnobfnnjopaaDoor
open Go
section
variable {p q : Nat → Bool} {n m a : Nat}
theorem sel_le : ∀ {n : Nat}, (∀ i, i < n → p i = true → q i = true) → (selN p n).length ≤ (selN q n).length
  | 0, _ => Nat.le_refl _
  | n + 1, h => by
    have := sel_le (n := n) (fun i hi => h i (by omega))
    have h1 := h n (by omega)
    rw [selN_succ, selN_succ, List.length_append, List.length_append]
    by_cases h2 : p n = true
    · rw [if_pos h2, if_pos (h1 h2)]; simp only [List.length_singleton]; omega
    · rw [if_neg h2]; simp only [List.length_nil]; omega
theorem sel_cut (h : ∀ i, n ≤ i → p i = false) : ∀ {m : Nat}, n ≤ m → selN p m = selN p n
  | 0, hm => by rw [show n = 0 by omega]
  | m + 1, hm => by
    rcases Nat.lt_or_ge m n with h1 | h1
    · rw [show n = m + 1 by omega]
    · rw [selN_no (h m h1), sel_cut h h1]
/-- A set of points, from what is asked of each. -/
def mskN (p : Nat → Bool) : Nat → Nat
  | 0 => 0
  | n + 1 => mskN p n ||| (if p n then 2 ^ n else 0)
theorem msk_lt : ∀ n, mskN p n < 2 ^ n
  | 0 => by simp [mskN]
  | n + 1 => by
    have h1 := msk_lt n
    have h2 : 2 ^ (n + 1) = 2 ^ n + 2 ^ n := by rw [Nat.pow_succ]; omega
    have h3 := Nat.two_pow_pos n
    unfold mskN
    refine Nat.or_lt_two_pow (by omega) ?_
    split <;> omega
theorem msk_bit : ∀ n i, (mskN p n).testBit i = (decide (i < n) && p i)
  | 0, i => by simp [mskN]
  | n + 1, i => by
    unfold mskN
    rw [Nat.testBit_or, msk_bit n i]
    by_cases h1 : i < n
    · have : (if p n = true then 2 ^ n else 0).testBit i = false := by
        split
        · rw [Nat.testBit_two_pow]; exact decide_eq_false (by omega)
        · exact Nat.zero_testBit i
      rw [this, decide_eq_true h1, decide_eq_true (show i < n + 1 by omega), Bool.or_false]
    · rw [decide_eq_false h1, Bool.false_and, Bool.false_or]
      by_cases h2 : i = n
      · subst h2
        rw [decide_eq_true (show i < i + 1 by omega), Bool.true_and]
        cases h3 : p i with
        | true => rw [if_pos rfl, Nat.testBit_two_pow]; exact decide_eq_true rfl
        | false => rw [if_neg (by decide)]; exact Nat.zero_testBit i
      · rw [decide_eq_false (show ¬ i < n + 1 by omega), Bool.false_and]
        split
        · rw [Nat.testBit_two_pow]; exact decide_eq_false (by omega)
        · exact Nat.zero_testBit i
end
section
variable {r s : List RvT} {h : List Int} {i k t n : Nat}
theorem pc_bits {t : Nat} : pcS t = (selN (fun i => t.testBit i) 9).length := by unfold pcS bitsL; rw [Int.toNat_natCast]
theorem pc_le (hn : n ≤ 9) (ht : t < 2 ^ n) : pcS t ≤ n := by
  rw [pc_bits, sel_cut (n := n) (fun i hi => ?_) hn]
  · exact selN_len
  · exact Nat.testBit_lt_two_pow (Nat.lt_of_lt_of_le ht (Nat.pow_le_pow_right (by decide) hi))
theorem con_f (g : Good r) (hi : i < r.length) (hk : k < r.length) (h1 : bl r i k → DM r i - DM r k ≤ (r.getD i default).ht - (r.getD k default).ht) (h2 : bl r k i → DM r k - DM r i ≤ (r.getD k default).ht - (r.getD i default).ht) : conS r i k = false := by
  unfold conS
  by_cases hb : bl r i k
  · have e := drp_bl g hi hb
    have := (drp_ge g hi).2 hb
    have := h1 hb
    rw [if_neg (by omega)]
    exact decide_eq_false (by omega)
  · rw [if_pos (drp_no g hi hb)]
    by_cases hb2 : bl r k i
    · have e := drp_bl g hk hb2
      have := h2 hb2
      rw [decide_eq_false (show ¬ ((r.getD k default).ht - (r.getD i default).ht < drp r k i) by omega), Bool.and_false]
    · rw [drp_no g hk hb2]; rfl
theorem con_n1 (g : Good r) (hi : i < r.length) (h : conS r i k = false) (hb : bl r i k) : DM r i - DM r k ≤ (r.getD i default).ht - (r.getD k default).ht := by
  have := (drp_ge g hi).2 hb
  unfold conS at h
  rw [if_neg (by omega)] at h
  have := of_decide_eq_false h
  rw [drp_bl g hi hb] at this; omega
theorem con_n2 (g : Good r) (hi : i < r.length) (hk : k < r.length) (hne : i ≠ k) (h : conS r i k = false) (hb : bl r k i) : DM r k - DM r i ≤ (r.getD k default).ht - (r.getD i default).ht := by
  have hn : ¬ bl r i k := fun hb2 => hne (bl_two g hi hk hb2 hb)
  have h1 := (drp_ge g hk).2 hb
  unfold conS at h
  rw [if_pos (drp_no g hi hn), decide_eq_true (show drp r k i ≠ -1 by omega), Bool.true_and] at h
  have := of_decide_eq_false h
  rw [drp_bl g hk hb] at this; omega
/-- Points that keep their heights, in heights that run down. -/
theorem keep_out (g : Good r) (R : Runs r h) (hi : i < r.length) (e : h.getD i default = (r.getD i default).ht) : outS r i = false := by
  refine out_f fun k hk => ⟨fun h1 => ?_, fun h1 => ?_⟩
  · have hp := g.p i hi
    have hb := (drp_ge (k := k) g hi).1 (by omega)
    have := R.fall g hi hb
    have := R.b k hk
    rw [drp_bl g hi hb] at h1; omega
  · have hp := g.p i hi
    have hb := (drp_ge (k := i) g hk).1 (by omega)
    have := R.fall g hk hb
    have := R.b k hk
    rw [drp_bl g hk hb] at h1; omega
theorem keep_con (g : Good r) (R : Runs r h) (hi : i < r.length) (hk : k < r.length) (e : h.getD i default = (r.getD i default).ht) (e2 : h.getD k default = (r.getD k default).ht) : conS r i k = false :=
  con_f g hi hk (fun hb => by have := R.fall g hi hb; omega) (fun hb => by have := R.fall g hk hb; omega)
theorem cor_parts (hc : corS r t = true) (hi : i < r.length) (hb : t.testBit i = false) : outS r i = false ∧ ∀ k, k < i → t.testBit k = false → conS r i k = false := by
  refine ⟨?_, fun k hk hb2 => ?_⟩
  · cases e : outS r i with
    | false => rfl
    | true => rw [cor_f hi hb e] at hc; cases hc
  · cases e : conS r i k with
    | false => rfl
    | true => rw [cor_f2 hi hk hb hb2 e] at hc; cases hc
theorem out_no (h : outS r i = false) (hk : k < r.length) : drp r i k ≤ (r.getD i default).ht ∧ drp r k i ≤ 9000 - (r.getD i default).ht := by
  refine ⟨Int.not_lt.1 fun h1 => ?_, Int.not_lt.1 fun h1 => ?_⟩
  · rw [out_t hk (.inl h1)] at h; cases h
  · rw [out_t hk (.inr h1)] at h; cases h
theorem corF_spec : ∀ n, (∀ t, t < n → corS r t = true → (corF r n).1 ≤ pcS t) ∧ ∀ t : Nat, (t : Int) ∈ (corF r n).2 ↔ t < n ∧ corS r t = true ∧ pcS t = (corF r n).1
  | 0 => ⟨fun t h => absurd h (Nat.not_lt_zero _), fun t => ⟨fun h => by simp [corF] at h, fun h => absurd h.1 (Nat.not_lt_zero _)⟩⟩
  | n + 1 => by
    obtain ⟨h1, h2⟩ := corF_spec n
    by_cases hs : pcS n > (corF r n).1 ∨ corS r n = false
    · rw [corF_skip hs]
      refine ⟨fun t ht hc => ?_, fun t => (h2 t).trans ⟨fun h => ⟨by omega, h.2⟩, fun h => ⟨?_, h.2⟩⟩⟩
      · by_cases e : t = n
        · subst e
          rcases hs with hs | hs
          · omega
          · rw [hs] at hc; cases hc
        · exact h1 t (by omega) hc
      · by_cases e : t = n
        · subst e
          rcases hs with hs | hs
          · omega
          · rw [hs] at h; cases h.2.1
        · omega
    · have ha : ¬ pcS n > (corF r n).1 := fun h => hs (.inl h)
      have hb : corS r n = true := by
        cases e : corS r n with
        | true => rfl
        | false => exact absurd (.inr e) hs
      by_cases hl : pcS n < (corF r n).1
      · rw [corF_new ha hb hl]
        refine ⟨fun t ht hc => ?_, fun t => ⟨fun h => ?_, fun h => ?_⟩⟩
        · show pcS n ≤ pcS t
          by_cases e : t = n
          · subst e; omega
          · have := h1 t (by omega) hc; omega
        · have : t = n := by have := List.mem_singleton.1 h; omega
          subst this; exact ⟨by omega, hb, rfl⟩
        · have h3 : pcS t = pcS n := h.2.2
          have : t = n := by
            by_cases e : t = n
            · exact e
            · have := h1 t (by omega) h.2.1; omega
          subst this; simp
      · rw [corF_more ha hb hl]
        refine ⟨fun t ht hc => ?_, fun t => ⟨fun h => ?_, fun h => ?_⟩⟩
        · show (corF r n).1 ≤ pcS t
          by_cases e : t = n
          · subst e; omega
          · exact h1 t (by omega) hc
        · rcases List.mem_append.1 h with h | h
          · have := (h2 t).1 h; exact ⟨by omega, this.2⟩
          · have : t = n := by have := List.mem_singleton.1 h; omega
            subst this; exact ⟨by omega, hb, by show _ = (corF r t).1; omega⟩
        · show _ ∈ (corF r n).2 ++ [(n : Int)]
          by_cases e : t = n
          · subst e; simp
          · exact List.mem_append_left _ ((h2 t).2 ⟨by omega, h.2⟩)
theorem fst_mem {l : List Int} : ∀ k, 0 < k → k ≤ l.length → fstS l k ∈ l
  | 0, h, _ => absurd h (Nat.lt_irrefl _)
  | k + 1, _, hk => by
    have hm := K.gt_mem (show k < l.length by omega)
    unfold fstS
    split
    · exact hm
    · rename_i h
      exact fst_mem k (Nat.pos_of_ne_zero fun e => h (.inl e)) (by omega)
theorem cor_full (g : Good r) : corS r (2 ^ r.length - 1) = true := cor_t fun i hi => cor_in1 (by rw [Nat.testBit_two_pow_sub_one]; exact decide_eq_true hi)
/-- The correction that Fewest names. -/
def fewN (r : List RvT) : Nat := (fstS (corL r) (corL r).length).toNat
theorem few_is (g : Good r) : fewN r < 2 ^ r.length ∧ corS r (fewN r) = true ∧ pcS (fewN r) = (corF r (2 ^ r.length)).1 ∧ fstS (corL r) (corL r).length = (fewN r : Int) := by
  obtain ⟨h1, h2⟩ := corF_spec (r := r) (2 ^ r.length)
  have hf := cor_full g
  have hp := Nat.two_pow_pos r.length
  have hne : 0 < (corL r).length := by
    rcases Nat.eq_zero_or_pos (corL r).length with h0 | h0
    · exfalso
      have hle := (corF_le (r := r) (2 ^ r.length)).1
      have hm := h1 _ (by omega) hf
      have hpl := pc_le g.n.2 (show 2 ^ r.length - 1 < 2 ^ r.length by omega)
      have hnil : corL r = [] := List.eq_nil_of_length_eq_zero h0
      by_cases e : pcS (2 ^ r.length - 1) = (corF r (2 ^ r.length)).1
      · have := (h2 _).2 ⟨by omega, hf, e⟩
        unfold corL at hnil
        rw [hnil] at this; simp at this
      · -- no set was ever gathered
        have hgen : ∀ n, (corF r n).2 = [] → (corF r n).1 = r.length := by
          intro n
          induction n with
          | zero => intro _; rfl
          | succ n ih =>
            intro hn
            rw [corF] at hn ⊢
            split
            · rename_i hs; rw [if_pos hs] at hn; exact ih hn
            · rename_i hs
              rw [if_neg hs] at hn
              split
              · rename_i h3; rw [if_pos h3] at hn; simp at hn
              · rename_i h3; rw [if_neg h3] at hn; simp at hn
        have := hgen _ hnil
        omega
    · exact h0
  have hm := fst_mem (corL r).length hne (Nat.le_refl _)
  have hb := corL_mem g hm
  have e : fstS (corL r) (corL r).length = (fewN r : Int) := by unfold fewN; omega
  rw [e] at hm
  have := (h2 _).1 hm
  exact ⟨this.1, this.2.1, this.2.2, e⟩
theorem few_min (g : Good r) (ht : t < 2 ^ r.length) (hc : corS r t = true) : pcS (fewN r) ≤ pcS t ∧ ((t : Int) ∈ corL r ↔ pcS t = pcS (fewN r)) := by
  obtain ⟨h1, h2⟩ := corF_spec (r := r) (2 ^ r.length)
  have := (few_is g).2.2.1
  rw [this]
  exact ⟨h1 t ht hc, (h2 t).trans ⟨fun h => h.2.2, fun h => ⟨ht, hc, h⟩⟩⟩
theorem few_L (hc : (chk r).2.2 = 0) : fewL r = bitsL (fewN r : Int) ∧ (fewL r).length = pcS (fewN r) := by
  have g := chk_good hc
  have e : fewL r = bitsL (fewN r : Int) := by unfold fewL; rw [if_neg (by omega), (few_is g).2.2.2]
  exact ⟨e, by rw [e]; rfl⟩
end
end Go.Proofs.YtoemnobfnnjopaaDoor

namespace Go.Proofs.YtoemnobfnnjopaaDoor
open Go
section
variable {r : List RvT} {a i : Nat} {x : Int}
theorem few_9 : (fewL r).length ≤ 9 := by
  unfold fewL
  split
  · exact Nat.zero_le _
  · exact selN_len
end
end Go.Proofs.YtoemnobfnnjopaaDoor
end
section
set_option linter.unusedSimpArgs false
set_option linter.unusedVariables false
namespace Go.Proofs.YtoemnobfnnjopaaDoor
open Go
/-- The sum of the first k values. -/
def sg (f : Nat → Int) : Nat → Int
  | 0 => 0
  | k + 1 => sg f k + f k
section
variable {f h : Nat → Int} {n m : Nat}
theorem sg_congr : ∀ {n : Nat}, (∀ i, i < n → f i = h i) → sg f n = sg h n
  | 0, _ => rfl
  | n + 1, e => by rw [sg, sg, sg_congr (n := n) (fun i hi => e i (by omega)), e n (by omega)]
theorem sg_le : ∀ {n : Nat}, (∀ i, i < n → f i ≤ h i) → sg f n ≤ sg h n
  | 0, _ => Int.le_refl _
  | n + 1, e => by
    have := sg_le (n := n) (fun i hi => e i (by omega))
    have := e n (by omega)
    rw [sg, sg]; omega
theorem sg_lt {i : Nat} : ∀ {n : Nat}, i < n → (∀ i, i < n → f i ≤ h i) → f i < h i → sg f n < sg h n
  | 0, hi, _, _ => absurd hi (Nat.not_lt_zero _)
  | n + 1, hi, e, e2 => by
    have h1 := e n (by omega)
    rw [sg, sg]
    rcases Nat.lt_or_ge i n with h2 | h2
    · have := sg_lt (n := n) h2 (fun i hi => e i (by omega)) e2; omega
    · have h3 : i = n := by omega
      subst h3
      have := sg_le (n := i) (fun i hi => e i (by omega)); omega
theorem sg_add : ∀ n, sg (fun i => f i + h i) n = sg f n + sg h n
  | 0 => rfl
  | n + 1 => by rw [sg, sg, sg, sg_add n]; omega
theorem sg_0 : ∀ {n : Nat}, (∀ i, i < n → f i = 0) → sg f n = 0
  | 0, _ => rfl
  | n + 1, e => by rw [sg, sg_0 (n := n) (fun i hi => e i (by omega)), e n (by omega)]; rfl
theorem sg_bd {b : Int} : ∀ {n : Nat}, (∀ i, i < n → f i ≤ b) → sg f n ≤ b * (n : Int)
  | 0, _ => by simp [sg]
  | n + 1, e => by
    have := sg_bd (n := n) (fun i hi => e i (by omega))
    have := e n (by omega)
    have e2 : b * ((n + 1 : Nat) : Int) = b * (n : Int) + b := by push_cast; rw [Int.mul_add, Int.mul_one]
    rw [sg, e2]; omega
theorem sg_ge0 : ∀ {n : Nat}, (∀ i, i < n → 0 ≤ f i) → 0 ≤ sg f n
  | 0, _ => Int.le_refl _
  | n + 1, e => by
    have := sg_ge0 (n := n) (fun i hi => e i (by omega))
    have := e n (by omega)
    rw [sg]; omega
theorem sg_term {i : Nat} : ∀ {n : Nat}, i < n → (∀ i, i < n → 0 ≤ f i) → f i ≤ sg f n
  | 0, hi, _ => absurd hi (Nat.not_lt_zero _)
  | n + 1, hi, e => by
    have h1 := e n (by omega)
    rw [sg]
    rcases Nat.lt_or_ge i n with h2 | h2
    · have := sg_term (n := n) h2 (fun i hi => e i (by omega)); omega
    · have h3 : i = n := by omega
      subst h3
      have := sg_ge0 (n := i) (fun i hi => e i (by omega)); omega
theorem sg_one {p : Nat → Prop} [DecidablePred p] {c : Int} {k : Nat} : ∀ {n : Nat}, k < n → p k → (∀ i, i < n → p i → i = k) → sg (fun i => if p i then c else 0) n = c
  | 0, hi, _, _ => absurd hi (Nat.not_lt_zero _)
  | n + 1, hi, e, e2 => by
    rw [sg]
    rcases Nat.lt_or_ge k n with h2 | h2
    · rw [sg_one (n := n) h2 e (fun i hi => e2 i (by omega)), if_neg (fun h => by have := e2 n (by omega) h; omega)]; omega
    · have h3 : k = n := by omega
      subst h3
      rw [sg_0 (fun i hi => if_neg (fun h => by have := e2 i (by omega) h; omega)), if_pos e]; omega
theorem sg_comm {F : Nat → Nat → Int} : ∀ m, sg (fun k => sg (F k) n) m = sg (fun i => sg (fun k => F k i) m) n
  | 0 => (sg_0 (fun _ _ => rfl)).symm
  | m + 1 => by rw [sg, sg_comm m, ← sg_add]; exact sg_congr (fun i _ => rfl)
end
/-- Levels of points. -/
structure Lv (r : List RvT) (x : Nat → Int) : Prop where
  b : ∀ i, i < r.length → 0 ≤ x i + DM r i ∧ x i + DM r i ≤ 9000
  d : ∀ i, i < r.length → (r.getD i default).dn ≠ -1 → x (r.getD i default).dn.toNat ≤ x i
def cstF (r : List RvT) (x : Nat → Int) (n : Nat) : Int := sg (fun i => ownC r i (x i)) n
def cstV (r : List RvT) (x : Nat → Int) : Int := cstF r x r.length
/-- How much heights differ from those of the first k points. -/
def chgF (r : List RvT) (h : List Int) : Nat → Int
  | 0 => 0
  | k + 1 => chgF r h k + max (h.getD k default - (r.getD k default).ht) ((r.getD k default).ht - h.getD k default)
def chgV (r : List RvT) (h : List Int) : Int := chgF r h r.length
theorem chgF_bd {r : List RvT} {h : List Int} (g : Good r) (hb : ∀ j, j < r.length → -100000 ≤ h.getD j default ∧ h.getD j default ≤ 100000) : ∀ k, k ≤ r.length → 0 ≤ chgF r h k ∧ chgF r h k ≤ 109000 * (k : Int)
  | 0, _ => by unfold chgF; omega
  | k + 1, hk => by
    have := chgF_bd g hb k (by omega)
    have := hb k (by omega)
    have := g.p k (by omega)
    unfold chgF; omega
section
variable {r : List RvT} {x : Nat → Int} {i k a f : Nat} {h lv fx : List Int} {v : Int}
theorem lv_chg (e : ∀ i, i < r.length → h.getD i default = x i + DM r i) : ∀ n, n ≤ r.length → chgF r h n = cstF r x n
  | 0, _ => rfl
  | n + 1, hn => by
    have e1 := lv_chg e n (by omega)
    have e2 := e n (by omega)
    unfold chgF
    rw [e1, e2]; rfl
theorem lv_of (g : Good r) (R : Runs r h) : Lv r (fun i => h.getD i default - DM r i) := by
  refine ⟨fun i hi => ?_, fun i hi hd => ?_⟩
  · have := R.b i hi
    show 0 ≤ h.getD i default - DM r i + DM r i ∧ h.getD i default - DM r i + DM r i ≤ 9000
    omega
  · have h1 := R.d i hi hd
    have h2 := DM_d g hi hd
    show h.getD _ default - DM r _ ≤ h.getD i default - DM r i
    omega
theorem lv_runs (g : Good r) (L : Lv r x) (hl : h.length = r.length) (e : ∀ i, i < r.length → h.getD i default = x i + DM r i) : Runs r h := by
  refine ⟨hl, fun i hi => by rw [e i hi]; exact L.b i hi, fun i hi hd => ?_⟩
  have h1 := L.d i hi hd
  have h2 := DM_d g hi hd
  rw [e i hi, e _ (dn_lt g hi hd)]; omega
theorem lv_ge0 (g : Good r) (L : Lv r x) : ∀ i, i < r.length → 0 ≤ x i := by
  refine down_ind g (fun i hi hm => ?_) (fun i hi hm hlt ih => ?_)
  · have := L.b i hi; rw [DM_m hm] at this; omega
  · have := L.d i hi hm; omega
theorem levU_in : ∀ {n : Nat}, i < n → ∀ v ∈ lev3 r i, v ∈ levU r n
  | 0, hi, _, _ => absurd hi (Nat.not_lt_zero _)
  | n + 1, hi, v, hv => by
    unfold levU
    rcases Nat.lt_or_ge i n with h1 | h1
    · exact List.mem_append_left _ (levU_in h1 v hv)
    · have : i = n := by omega
      subst this; exact List.mem_append_right _ hv
theorem levS_in (hi : i < r.length) (hv : v ∈ lev3 r i) : v ∈ levS r := sort_perm.mem_iff.2 (levU_in hi v hv)
/-- The points of a level that is not asked for are moved up, or down. -/
def upX (x : Nat → Int) (v : Int) (i : Nat) : Int := if x i = v then v + 1 else x i
def dnX (x : Nat → Int) (v : Int) (i : Nat) : Int := if x i = v then v - 1 else x i
theorem up_lv (g : Good r) (L : Lv r x) (hv : v ∉ levS r) : Lv r (upX x v) := by
  refine ⟨fun i hi => ?_, fun i hi hd => ?_⟩
  · have := L.b i hi
    unfold upX
    split
    · rename_i e
      have : v ≠ 9000 - DM r i := fun e2 => hv (levS_in hi (by rw [e2]; simp [lev3]))
      omega
    · exact this
  · have := L.d i hi hd
    unfold upX
    split <;> split <;> omega
theorem dn_lv (g : Good r) (L : Lv r x) (hv : v ∉ levS r) : Lv r (dnX x v) := by
  refine ⟨fun i hi => ?_, fun i hi hd => ?_⟩
  · have h1 := L.b i hi
    have h2 := lv_ge0 g L i hi
    have h3 := DM_le g hi
    unfold dnX
    split
    · rename_i e
      have : v ≠ 0 := fun e2 => hv (levS_in hi (by rw [e2]; simp [lev3]))
      omega
    · exact h1
  · have := L.d i hi hd
    unfold dnX
    split <;> split <;> omega
theorem both_cst (hv : v ∉ levS r) : cstV r (upX x v) + cstV r (dnX x v) = cstV r x + cstV r x := by
  unfold cstV cstF
  rw [← sg_add, ← sg_add]
  refine sg_congr fun i hi => ?_
  have : v ≠ (r.getD i default).ht - DM r i := fun e2 => hv (levS_in hi (by rw [e2]; simp [lev3]))
  unfold ownC upX dnX
  split
  · rename_i e; rw [e]; omega
  · rfl
theorem cst_ge0 : 0 ≤ cstV r x := sg_ge0 fun i _ => by unfold ownC; omega
theorem round_lv (g : Good r) : ∀ (N : Nat) (x : Nat → Int), Lv r x → (cstV r x * 100000 + 81000 - sg x r.length).toNat = N → ∃ y, Lv r y ∧ (∀ i, i < r.length → y i ∈ levS r) ∧ cstV r y ≤ cstV r x := by
  intro N
  induction N using Nat.strongRecOn with
  | _ N ih =>
    intro x L hN
    by_cases hall : ∀ i, i < r.length → x i ∈ levS r
    · exact ⟨x, L, hall, Int.le_refl _⟩
    · have hex : ∃ i, i < r.length ∧ x i ∉ levS r := by
        refine Decidable.not_not.1 fun hn => hall fun i hi => Decidable.not_not.1 fun h2 => hn ⟨i, hi, h2⟩
      obtain ⟨i, hi, hv⟩ := hex
      have hb := both_cst (x := x) hv
      have hu := up_lv g L hv
      have hd := dn_lv g L hv
      have hn := g.n.2
      have sb : ∀ y, Lv r y → sg y r.length ≤ 81000 := fun y Ly => by
        have := sg_bd (f := y) (b := 9000) (n := r.length) (fun j hj => by have := Ly.b j hj; have := DM_le g hj; omega)
        omega
      have s0 := sb x L
      have s1 := sb _ hu
      have s2 := sb _ hd
      have c0 := cst_ge0 (r := r) (x := x)
      have c1 := cst_ge0 (r := r) (x := upX x (x i))
      have c2 := cst_ge0 (r := r) (x := dnX x (x i))
      by_cases hc : cstV r (upX x (x i)) ≤ cstV r x
      · have h1 : sg x r.length < sg (upX x (x i)) r.length := sg_lt hi (fun j _ => by unfold upX; split <;> omega) (by unfold upX; rw [if_pos rfl]; omega)
        obtain ⟨y, a, b, c⟩ := ih _ (by omega) _ hu rfl
        exact ⟨y, a, b, by omega⟩
      · have h1 : sg x r.length ≤ sg (dnX x (x i)) r.length + 9 := by
          have h2 : sg x r.length ≤ sg (fun j => dnX x (x i) j + 1) r.length := sg_le fun j _ => by unfold dnX; split <;> omega
          have h3 := sg_add (f := dnX x (x i)) (h := fun _ => 1) r.length
          have h4 := sg_bd (f := fun _ => 1) (b := 1) (n := r.length) (fun _ _ => Int.le_refl _)
          omega
        obtain ⟨y, a, b, c⟩ := ih _ (by omega) _ hd rfl
        exact ⟨y, a, b, by omega⟩
def subV (r : List RvT) (c : Nat → Int) (a : Nat) : Int := sg (fun i => if blB r i a = true then c i else 0) r.length
theorem dn_bl (hk : (r.getD k default).dn = (a : Int)) : bl r k a := by
  have := bl_down (r := r) (i := k) (by rw [hk]; omega)
  rwa [hk, Int.toNat_natCast] at this
theorem dn_dep (g : Good r) (hkl : k < r.length) (hk : (r.getD k default).dn = (a : Int)) : dep r k = dep r a + 1 := by
  have := dep_d g hkl (by rw [hk]; omega)
  rwa [hk, Int.toNat_natCast] at this
theorem tree_sum (g : Good r) (c : Nat → Int) (ha : a < r.length) : subV r c a = c a + sg (fun k => if (r.getD k default).dn = (a : Int) then subV r c k else 0) r.length := by
  have e1 : sg (fun k => if (r.getD k default).dn = (a : Int) then subV r c k else 0) r.length = sg (fun k => sg (fun i => if (r.getD k default).dn = (a : Int) ∧ blB r i k = true then c i else 0) r.length) r.length := by
    refine sg_congr fun k hk => ?_
    by_cases h1 : (r.getD k default).dn = (a : Int)
    · rw [if_pos h1]
      exact sg_congr fun i _ => by
        by_cases h2 : blB r i k = true
        · rw [if_pos h2, if_pos ⟨h1, h2⟩]
        · rw [if_neg h2, if_neg fun h => h2 h.2]
    · rw [if_neg h1]
      exact (sg_0 fun i _ => if_neg fun h => h1 h.1).symm
  have e2 : c a = sg (fun i => if i = a then c a else 0) r.length := (sg_one (p := fun i => i = a) ha rfl (fun i _ h => h)).symm
  rw [e1, sg_comm, e2, ← sg_add]
  refine sg_congr fun i hi => ?_
  by_cases hia : i = a
  · subst hia
    rw [if_pos ((blB_iff g hi).2 bl_refl), if_pos rfl, sg_0 (fun k hk => if_neg fun h => ?_)]
    · omega
    · have h1 := dn_bl h.1
      have h2 := (blB_iff g hi).1 h.2
      have := bl_two g hk hi h1 h2
      have := dn_dep g hk h.1
      subst k; omega
  · rw [if_neg hia]
    by_cases hb : blB r i a = true
    · rw [if_pos hb]
      have hbl := (blB_iff g hi).1 hb
      obtain ⟨j, hj, e⟩ := (bl_fin g hi).1 hbl
      have hj0 : 0 < j := by
        rcases Nat.eq_zero_or_pos j with h0 | h0
        · subst h0; exact absurd e hia
        · exact h0
      have hnm := (dep_is g hi).2.2 (j - 1) (by omega)
      have hup := stps_up hnm
      rw [show j - 1 + 1 = j by omega, e] at hup
      have hkl := stps_lt g hi (j - 1)
      have hpk := g.p _ hkl
      have hk0 : (r.getD (stps r (j - 1) i) default).dn = (a : Int) := by omega
      have hb0 : bl r i (stps r (j - 1) i) := ⟨j - 1, rfl⟩
      rw [sg_one (p := fun k => (r.getD k default).dn = (a : Int) ∧ blB r i k = true) hkl ⟨hk0, (blB_iff g hi).2 hb0⟩ (fun k hk h => ?_)]
      · omega
      · have d1 := dn_dep g hk h.1
        have d2 := dn_dep g hkl hk0
        have b1 := (blB_iff g hi).1 h.2
        by_cases ek : k = stps r (j - 1) i
        · exact ek
        · rcases bl_cmp b1 hb0 with h3 | h3
          · have := bl_anti g hk h3 ek; omega
          · have := bl_anti g hkl h3 (Ne.symm ek); omega
    · rw [if_neg hb, sg_0 (fun k hk => if_neg fun h => ?_)]
      · rfl
      · exact hb ((blB_iff g hi).2 (bl_tr ((blB_iff g hi).1 h.2) (dn_bl h.1)))
theorem sub_all (g : Good r) (c : Nat → Int) : subV r c (mthS r) = sg c r.length := sg_congr fun i hi => if_pos ((blB_iff g hi).2 (bl_mth g hi))
theorem sumF_sg {rec : Nat → Int → Int} {l : Int} : ∀ k, sumF rec r a l k = ownC r a l + sg (fun k => if (r.getD k default).dn = (a : Int) then rec k l else 0) k
  | 0 => by rw [sumF, sg]; omega
  | k + 1 => by rw [sumF, sg, sumF_sg k]; split <;> omega
theorem minF_le {rec : Nat → Int → Int} {low : Int} {j : Nat} : ∀ {m : Nat}, j < m → skipB r fx a low (lv.getD j default) = false → minF rec r lv fx a low m ≤ sumF rec r a (lv.getD j default) r.length
  | 0, hj, _ => absurd hj (Nat.not_lt_zero _)
  | m + 1, hj, hs => by
    rcases Nat.lt_or_ge j m with h1 | h1
    · have := minF_le h1 hs (rec := rec)
      unfold minF
      split <;> omega
    · have : j = m := by omega
      subst this
      rw [minF_more hs]; omega
theorem minF_at {rec : Nat → Int → Int} {low : Int} : ∀ {m : Nat}, m ≤ lv.length → minF rec r lv fx a low m < neverS → ∃ l, l ∈ lv ∧ skipB r fx a low l = false ∧ sumF rec r a l r.length = minF rec r lv fx a low m
  | 0, _, h => by rw [minF] at h; omega
  | m + 1, hm, h => by
    cases hs : skipB r fx a low (lv.getD m default) with
    | true => rw [minF_skip hs] at h ⊢; exact minF_at (by omega) h
    | false =>
      rw [minF_more hs] at h ⊢
      by_cases hc : sumF rec r a (lv.getD m default) r.length ≤ minF rec r lv fx a low m
      · exact ⟨_, K.gt_mem hm, hs, by omega⟩
      · obtain ⟨l, h1, h2, h3⟩ := minF_at (rec := rec) (low := low) (m := m) (by omega) (by omega)
        exact ⟨l, h1, h2, by omega⟩
/-- Levels that are asked for, and keep what is fixed. -/
structure Adm (r : List RvT) (lv fx : List Int) (x : Nat → Int) : Prop extends Lv r x where
  m : ∀ i, i < r.length → x i ∈ lv
  f : ∀ i, i < r.length → i < fx.length → fx.getD i default = x i + DM r i
theorem cost_lb (g : Good r) (X : Adm r lv fx x) : ∀ f a low, a < r.length → dep r a + f = r.length + 1 → low ≤ x a → costF r lv fx f a low ≤ subV r (fun i => ownC r i (x i)) a
  | 0, a, _, ha, hf, _ => by have := dep_lt g ha; omega
  | f + 1, a, low, ha, hf, hl => by
    obtain ⟨j, hj, e⟩ := List.mem_iff_getElem.1 (X.m a ha)
    have e : lv.getD j default = x a := by rw [List.getD_eq_getElem?_getD, List.getElem?_eq_getElem hj]; exact e
    have hs : skipB r fx a low (lv.getD j default) = false := by rw [e]; exact skip_n (by omega) (X.b a ha) (fun h => X.f a ha h)
    have h1 := minF_le (rec := costF r lv fx f) hj hs
    rw [e, sumF_sg] at h1
    rw [tree_sum g _ ha]
    show minF (costF r lv fx f) r lv fx a low lv.length ≤ _
    refine Int.le_trans h1 (Int.add_le_add_left (sg_le fun k hk => ?_) _)
    split
    · rename_i hd
      have h2 := X.d k hk (by rw [hd]; omega)
      rw [hd, Int.toNat_natCast] at h2
      have h3 := dn_dep g hk hd
      exact cost_lb g X f k (x a) hk (by omega) h2
    · exact Int.le_refl _
theorem ask_le (g : Good r) (X : Adm r lv fx x) : askS r lv fx ≤ cstV r x := by
  have hm := mth_is g
  have := cost_lb g X (r.length + 1) (mthS r) (-9000) hm.1 (by rw [(dep_m g hm.1).2 hm.2.1]; omega) (by have := lv_ge0 g X.toLv _ hm.1; omega)
  rw [sub_all g] at this
  exact this
/-- The level that the search finds for a point. -/
def bstL (r : List RvT) (lv fx : List Int) (rec : Nat → Int → Int) (a : Nat) (low : Int) : Int := (lv.find? fun l => !skipB r fx a low l && decide (sumF rec r a l r.length = minF rec r lv fx a low lv.length)).getD 0
theorem bst_is {rec : Nat → Int → Int} {low : Int} (h : minF rec r lv fx a low lv.length < neverS) : bstL r lv fx rec a low ∈ lv ∧ skipB r fx a low (bstL r lv fx rec a low) = false ∧ sumF rec r a (bstL r lv fx rec a low) r.length = minF rec r lv fx a low lv.length := by
  obtain ⟨l, h1, h2, h3⟩ := minF_at (Nat.le_refl _) h
  cases e : lv.find? fun l => !skipB r fx a low l && decide (sumF rec r a l r.length = minF rec r lv fx a low lv.length) with
  | none =>
    have := List.find?_eq_none.1 e l h1
    rw [h2, decide_eq_true h3] at this
    exact absurd rfl this
  | some l' =>
    have e2 : bstL r lv fx rec a low = l' := by unfold bstL; rw [e]; rfl
    have h4 := List.find?_some e
    have h5 := List.mem_of_find?_eq_some e
    rw [Bool.and_eq_true, Bool.not_eq_true'] at h4
    rw [e2]
    exact ⟨h5, h4.1, of_decide_eq_true h4.2⟩
def XF (r : List RvT) (lv fx : List Int) : Nat → Nat → Int
  | 0, _ => 0
  | f + 1, i => bstL r lv fx (costF r lv fx (r.length - dep r i)) i (if (r.getD i default).dn = -1 then -9000 else XF r lv fx f (r.getD i default).dn.toNat)
def lowX (r : List RvT) (lv fx : List Int) (i : Nat) : Int := if (r.getD i default).dn = -1 then -9000 else XF r lv fx r.length (r.getD i default).dn.toNat
theorem XF_fuel (g : Good r) : ∀ f f' i, i < r.length → dep r i < f → dep r i < f' → XF r lv fx f i = XF r lv fx f' i
  | 0, _, _, _, h, _ => absurd h (Nat.not_lt_zero _)
  | _, 0, _, _, _, h => absurd h (Nat.not_lt_zero _)
  | f + 1, f' + 1, i, hi, h, h' => by
    rw [XF, XF]
    by_cases hd : (r.getD i default).dn = -1
    · rw [if_pos hd, if_pos hd]
    · have := dep_d g hi hd
      rw [if_neg hd, if_neg hd, XF_fuel g f f' _ (dn_lt g hi hd) (by omega) (by omega)]
theorem X_eq (g : Good r) (hi : i < r.length) : XF r lv fx r.length i = bstL r lv fx (costF r lv fx (r.length - dep r i)) i (lowX r lv fx i) := by
  have hd := dep_lt g hi
  rw [XF_fuel g r.length (r.length + 1) i hi hd (by omega), XF]; rfl
theorem X_is (g : Good r) (h : askS r lv fx < neverS) : ∀ i, i < r.length → costF r lv fx (r.length + 1 - dep r i) i (lowX r lv fx i) < neverS := by
  refine down_ind g (fun i hi hm => ?_) (fun i hi hm hlt ih => ?_)
  · have e := (mth_is g).2.2 i hi hm
    rw [(dep_m g hi).2 hm]
    unfold lowX
    rw [if_pos hm, e]
    exact h
  · have hdl := dep_lt g hlt
    have hdd := dep_d g hi hm
    rw [show r.length + 1 - dep r (r.getD i default).dn.toNat = r.length - dep r (r.getD i default).dn.toNat + 1 by omega] at ih
    have hb := bst_is (r := r) (lv := lv) (fx := fx) (rec := costF r lv fx (r.length - dep r (r.getD i default).dn.toNat)) (a := (r.getD i default).dn.toNat) (low := lowX r lv fx (r.getD i default).dn.toNat) ih
    rw [← X_eq g hlt, sumF_sg] at hb
    have hp := g.p i hi
    have hcb := cost_bd (lv := lv) (fx := fx) g (r.length - dep r (r.getD i default).dn.toNat)
    have ht := sg_term (f := fun k => if (r.getD k default).dn = (((r.getD i default).dn.toNat : Nat) : Int) then costF r lv fx (r.length - dep r (r.getD i default).dn.toNat) k (XF r lv fx r.length (r.getD i default).dn.toNat) else 0) hi (fun k hk => by
      split
      · exact (hcb k hk _).1
      · omega)
    rw [if_pos (by omega)] at ht
    have ho : 0 ≤ ownC r (r.getD i default).dn.toNat (XF r lv fx r.length (r.getD i default).dn.toNat) := by unfold ownC; omega
    have hl : lowX r lv fx i = XF r lv fx r.length (r.getD i default).dn.toNat := by unfold lowX; rw [if_neg hm]
    rw [hl, show r.length + 1 - dep r i = r.length - dep r (r.getD i default).dn.toNat by omega]
    have h3 := hb.2.2
    have h4 : minF (costF r lv fx (r.length - dep r (r.getD i default).dn.toNat)) r lv fx (r.getD i default).dn.toNat (lowX r lv fx (r.getD i default).dn.toNat) lv.length < neverS := ih
    omega
theorem X_at (g : Good r) (h : askS r lv fx < neverS) (hi : i < r.length) : XF r lv fx r.length i ∈ lv ∧ skipB r fx i (lowX r lv fx i) (XF r lv fx r.length i) = false ∧ sumF (costF r lv fx (r.length - dep r i)) r i (XF r lv fx r.length i) r.length = costF r lv fx (r.length + 1 - dep r i) i (lowX r lv fx i) := by
  have hd := dep_lt g hi
  have h1 := X_is g h i hi
  rw [show r.length + 1 - dep r i = r.length - dep r i + 1 by omega] at h1 ⊢
  have hb := bst_is (r := r) (lv := lv) (fx := fx) (rec := costF r lv fx (r.length - dep r i)) (a := i) (low := lowX r lv fx i) h1
  rw [← X_eq g hi] at hb
  exact hb
theorem X_sub (g : Good r) (h : askS r lv fx < neverS) : ∀ f a, a < r.length → dep r a + f = r.length + 1 → subV r (fun i => ownC r i (XF r lv fx r.length i)) a = costF r lv fx f a (lowX r lv fx a)
  | 0, a, ha, hf => by have := dep_lt g ha; omega
  | f + 1, a, ha, hf => by
    have h1 := (X_at g h ha).2.2
    rw [show r.length + 1 - dep r a = f + 1 by omega, show r.length - dep r a = f by omega, sumF_sg] at h1
    rw [tree_sum g _ ha, ← h1]
    congr 1
    refine sg_congr fun k hk => ?_
    by_cases hd : (r.getD k default).dn = (a : Int)
    · rw [if_pos hd, if_pos hd]
      have hdd := dn_dep g hk hd
      have hl : lowX r lv fx k = XF r lv fx r.length a := by unfold lowX; rw [if_neg (by rw [hd]; omega), hd, Int.toNat_natCast]
      rw [X_sub g h f k hk (by omega), hl]
    · rw [if_neg hd, if_neg hd]
theorem ask_is (g : Good r) (h : askS r lv fx < neverS) : ∃ x, Adm r lv fx x ∧ cstV r x = askS r lv fx := by
  refine ⟨XF r lv fx r.length, ⟨⟨fun i hi => ?_, fun i hi hd => ?_⟩, fun i hi => (X_at g h hi).1, fun i hi hf => ?_⟩, ?_⟩
  · exact (skip_no (X_at g h hi).2.1).2.1
  · have := (skip_no (X_at g h hi).2.1).1
    unfold lowX at this
    rw [if_neg hd] at this
    exact Int.not_lt.1 this
  · exact (skip_no (X_at g h hi).2.1).2.2 hf
  · have hm := mth_is g
    have := X_sub g h (r.length + 1) (mthS r) hm.1 (by rw [(dep_m g hm.1).2 hm.2.1]; omega)
    rw [sub_all g] at this
    unfold cstV cstF
    rw [this]
    unfold lowX
    rw [if_pos hm.2.1]; rfl
/-- Levels of nothing. -/
theorem adm_0 (g : Good r) : Adm r (levS r) [] (fun _ => 0) := by
  refine ⟨⟨fun i hi => by have := DM_le g hi; show 0 ≤ 0 + DM r i ∧ 0 + DM r i ≤ 9000; omega, fun _ _ _ => Int.le_refl _⟩, fun i hi => levS_in hi (by simp [lev3]), fun i _ hf => absurd hf (Nat.not_lt_zero _)⟩
theorem chg_few (g : Good r) : chgS r < neverS := by
  have h1 := ask_le g (adm_0 g)
  have h2 : cstV r (fun _ => 0) ≤ 9000 * (r.length : Int) := sg_bd fun i hi => by
    have := DM_le g hi
    exact (ownC_bd (l := 0) g hi (by omega)).2
  have := g.n.2
  have : neverS = 1099511627776 := rfl
  unfold chgS
  omega
theorem snoc_at {l : List Int} {y : Int} (hi : i < l.length) : (l ++ [y]).getD i default = l.getD i default := by
  rw [List.getD_eq_getElem?_getD, List.getElem?_append_left hi, List.getD_eq_getElem?_getD]
theorem snoc_end {l : List Int} {y : Int} : (l ++ [y]).getD l.length default = y := by
  rw [List.getD_eq_getElem?_getD, List.getElem?_append_right (Nat.le_refl _), Nat.sub_self]; rfl
theorem hgt_ask (g : Good r) : ∀ i, i ≤ r.length → askS r (levS r) (hgtF r (chgS r) i) = chgS r
  | 0, _ => rfl
  | i + 1, hi => by
    have ih := hgt_ask g i (by omega)
    have hf := chg_few g
    obtain ⟨x, X, hc⟩ := ask_is g (show askS r (levS r) (hgtF r (chgS r) i) < neverS by omega)
    have hl := hgt_len (r := r) (ch := chgS r) i
    have key : askS r (levS r) (hgtF r (chgS r) i ++ [x i + DM r i]) = chgS r := by
      have h1 : askS r (levS r) (hgtF r (chgS r) i ++ [x i + DM r i]) ≤ cstV r x := by
        refine ask_le g ⟨X.toLv, X.m, fun j hj hjf => ?_⟩
        rw [List.length_append, hl, List.length_singleton] at hjf
        rcases Nat.lt_or_ge j i with h2 | h2
        · rw [snoc_at (by omega)]; exact X.f j hj (by omega)
        · have : j = i := by omega
          subst this
          have e := snoc_end (l := hgtF r (chgS r) j) (y := x j + DM r j)
          rw [hl] at e; exact e
      obtain ⟨y, Y, hy⟩ := ask_is g (show askS r (levS r) (hgtF r (chgS r) i ++ [x i + DM r i]) < neverS by omega)
      have h2 : askS r (levS r) (hgtF r (chgS r) i) ≤ cstV r y := by
        refine ask_le g ⟨Y.toLv, Y.m, fun j hj hjf => ?_⟩
        have := Y.f j hj (by rw [List.length_append]; omega)
        rwa [snoc_at (by omega)] at this
      omega
    rw [hgtF]
    cases e : (levS r).find? fun l => decide (askS r (levS r) (hgtF r (chgS r) i ++ [l + DM r i]) = chgS r) with
    | none =>
      have := List.find?_eq_none.1 e (x i) (X.m i (by omega))
      exact absurd (decide_eq_true key) this
    | some l =>
      have := List.find?_some e
      exact of_decide_eq_true this
/-- The heights of Least run down, and change as much as it tells. -/
theorem least_is (g : Good r) : Runs r (hgtF r (chgS r) r.length) ∧ chgV r (hgtF r (chgS r) r.length) = chgS r := by
  have h1 := hgt_ask g r.length (Nat.le_refl _)
  have hf := chg_few g
  obtain ⟨x, X, hc⟩ := ask_is g (show askS r (levS r) (hgtF r (chgS r) r.length) < neverS by omega)
  have hl := hgt_len (r := r) (ch := chgS r) r.length
  have hx : ∀ i, i < r.length → (hgtF r (chgS r) r.length).getD i default = x i + DM r i := fun i hi => X.f i hi (by omega)
  refine ⟨lv_runs g X.toLv hl hx, ?_⟩
  unfold chgV
  rw [lv_chg hx r.length (Nat.le_refl _)]
  show cstV r x = _
  omega
end
end Go.Proofs.YtoemnobfnnjopaaDoor
end
section
set_option linter.unusedSimpArgs false
set_option linter.unusedVariables false
namespace Go.Proofs.YtoemnobfnnjopaaDoor
open Go
/-- No point is out of reach. -/
def reaS (r : List RvT) : Bool := (List.range r.length).all fun i => !outS r i
section
variable {r s : List RvT} {b : Int} {i k a n t : Nat} {x : Nat → Int}
/-- Two rivers, the second one higher. -/
structure Up (r q : List RvT) (b : Int) : Prop extends Same r q where
  h : ∀ i, i < r.length → (q.getD i default).ht = (r.getD i default).ht + b
theorem Up.back (u : Up r s b) : Up s r (-b) := by
  refine ⟨⟨⟨u.l.symm, fun i => (u.d i).symm, fun i => (u.n i).symm⟩, fun i => (u.s i).symm⟩, fun i hi => ?_⟩
  rw [u.l] at hi
  rw [u.h i hi]; omega
theorem Up.own (u : Up r s b) (hi : i < r.length) : (ownS s).getD i default = (ownS r).getD i default + b := by
  rw [own_at (by rw [u.l]; exact hi), own_at hi, u.h i hi]
theorem Up.bad (u : Up r s b) (g : Good r) (hi : i < r.length) : badB s (ownS s) i = badB r (ownS r) i := by
  rw [Bool.eq_iff_iff, bad_iff, bad_iff, u.d, u.s]
  constructor
  · rintro ⟨h1, h2⟩
    refine ⟨h1, ?_⟩
    rw [u.own hi, u.own (dn_lt g hi h1)] at h2; omega
  · rintro ⟨h1, h2⟩
    refine ⟨h1, ?_⟩
    rw [u.own hi, u.own (dn_lt g hi h1)]; omega
theorem Up.badL (u : Up r s b) (hc : (chk r).2.2 = 0) (hc2 : (chk s).2.2 = 0) : badL s = badL r := by
  have g := chk_good hc
  unfold Go.Proofs.YtoemnobfnnjopaaDoor.badL
  rw [if_neg (by omega), if_neg (by omega)]
  unfold badS
  rw [u.l]
  exact selN_congr fun i hi => u.bad g hi
theorem Up.stop (u : Up r s b) (g : Good r) (ha : a < r.length) : stopN s a = stopN r a := by
  have e : ∀ j, stopB s a j = stopB r a j := fun j => by
    unfold stopB
    rw [u.toSame.toLike.stps, u.d, u.bad g (stps_lt g ha j)]
  have e2 : stopB s a = stopB r a := funext e
  unfold stopN
  rw [u.l, e2]
theorem rea_iff : reaS r = true ↔ ∀ i, i < r.length → outS r i = false := by
  unfold reaS
  rw [List.all_eq_true]
  constructor
  · intro h i hi; simpa using h i (List.mem_range.2 hi)
  · intro h i hi; simpa using h i (List.mem_range.1 hi)
theorem Up.con (u : Up r s b) (hi : i < r.length) (hk : k < r.length) : conS s i k = conS r i k := by
  unfold conS
  rw [u.toSame.drp, u.toSame.drp, u.h i hi, u.h k hk]
  rw [show (r.getD k default).ht + b - ((r.getD i default).ht + b) = (r.getD k default).ht - (r.getD i default).ht by omega, show (r.getD i default).ht + b - ((r.getD k default).ht + b) = (r.getD i default).ht - (r.getD k default).ht by omega]
theorem Up.cor (u : Up r s b) (h1 : reaS r = true) (h2 : reaS s = true) : corS s t = corS r t := by
  have o1 := rea_iff.1 h1
  have o2 := rea_iff.1 h2
  rw [u.l] at o2
  have e : ∀ i, i < r.length → corIn s t i = corIn r t i := fun i hi => by
    unfold corIn
    rw [o1 i hi, o2 i hi]
    congr 2
    rw [Bool.eq_iff_iff, List.all_eq_true, List.all_eq_true]
    have key : ∀ k, k < i → corAt s t i k = corAt r t i k := fun k hk => by unfold corAt; rw [u.con hi (by omega)]
    constructor
    · intro h k hk; rw [← key k (List.mem_range.1 hk)]; exact h k hk
    · intro h k hk; rw [key k (List.mem_range.1 hk)]; exact h k hk
  unfold corS
  rw [u.l, Bool.eq_iff_iff, List.all_eq_true, List.all_eq_true]
  constructor
  · intro h k hk; rw [← e k (List.mem_range.1 hk)]; exact h k hk
  · intro h k hk; rw [e k (List.mem_range.1 hk)]; exact h k hk
theorem Up.corF (u : Up r s b) (h1 : reaS r = true) (h2 : reaS s = true) : ∀ n, corF s n = corF r n
  | 0 => by unfold Go.Proofs.YtoemnobfnnjopaaDoor.corF; rw [u.l]
  | n + 1 => by unfold Go.Proofs.YtoemnobfnnjopaaDoor.corF; rw [u.corF h1 h2 n, u.cor h1 h2]
theorem Up.few (u : Up r s b) (hc : (chk r).2.2 = 0) (hc2 : (chk s).2.2 = 0) (h1 : reaS r = true) (h2 : reaS s = true) : fewL s = fewL r ∧ mustL s = mustL r ∧ mayL s = mayL r := by
  have e : corL s = corL r := by unfold corL; rw [u.l, u.corF h1 h2]
  unfold fewL mustL mayL
  rw [if_neg (by omega), if_neg (by omega), if_neg (by omega), if_neg (by omega), if_neg (by omega), if_neg (by omega), e, u.l]
  exact ⟨rfl, rfl, rfl⟩
theorem Up.okP (u : Up r s b) {c : Int} (h0 : 0 ≤ c) (hc : c < 2 ^ i) (hi : i < r.length) : okP s i c = okP r i c := by
  unfold Go.Proofs.YtoemnobfnnjopaaDoor.okP
  congr 1
  rw [Bool.eq_iff_iff, List.any_eq_true, List.any_eq_true]
  have key : ∀ k ∈ bitsL c, conS s i k.toNat = conS r i k.toNat := fun k hk => by
    have := ch_bits h0 hc hk
    exact u.con hi (by omega)
  constructor
  · rintro ⟨k, hk, h⟩; exact ⟨k, hk, by rw [← key k hk]; exact h⟩
  · rintro ⟨k, hk, h⟩; exact ⟨k, hk, by rw [key k hk]; exact h⟩
theorem most_dn (g : Good r) (hi : i < r.length) (hd : (r.getD i default).dn ≠ -1) : mostF r (r.getD i default).dn.toNat r.length + (r.getD i default).ls ≤ mostF r i r.length := by
  have hp := g.p i hi
  have hb : ∀ k, k < r.length → 0 ≤ drp r k i → mostF r (r.getD i default).dn.toNat r.length ≤ 9000 - (drp r k i + (r.getD i default).ls) := fun k hk hk2 => by
    have b1 := (drp_ge g hk).1 hk2
    have b2 := bl_tr b1 (bl_down hd)
    have := most_le (r := r) (i := (r.getD i default).dn.toNat) r.length hk
    rw [drp_bl g hk b2] at this
    have := DM_d g hi hd
    rw [drp_bl g hk b1]
    omega
  have h0 := hb i hi (by rw [drp_0 g hi]; omega)
  rw [drp_0 g hi] at h0
  refine most_ge (by omega) _ (fun k hk => ?_)
  rcases Int.lt_or_le (drp r k i) 0 with h | h
  · omega
  · have := hb k hk h; omega
theorem clamp (g : Good r) (hr : reaS r = true) (hx : ∀ i, i < r.length → (r.getD i default).dn ≠ -1 → x (r.getD i default).dn.toNat ≤ x i) : ∃ y, Lv r y ∧ cstV r y ≤ cstV r x := by
  have ho := rea_iff.1 hr
  have hu : ∀ i, i < r.length → 0 ≤ mostF r i r.length - DM r i ∧ mostF r i r.length ≤ 9000 := fun i hi => by
    have := most_bd (i := i) g r.length (Nat.le_refl _)
    have := DM_le g hi; omega
  refine ⟨fun i => min (max (x i) 0) (mostF r i r.length - DM r i), ⟨fun i hi => ?_, fun i hi hd => ?_⟩, sg_le fun i hi => ?_⟩
  · have := hu i hi
    have := DM_le g hi
    show 0 ≤ min (max (x i) 0) (mostF r i r.length - DM r i) + DM r i ∧ min (max (x i) 0) (mostF r i r.length - DM r i) + DM r i ≤ 9000
    omega
  · have h1 := hx i hi hd
    have h2 := most_dn g hi hd
    have h3 := DM_d g hi hd
    show min (max (x _) 0) (mostF r _ r.length - DM r _) ≤ min (max (x i) 0) (mostF r i r.length - DM r i)
    omega
  · have h1 := hu i hi
    have h2 := (out_no (ho i hi) (mth_is g).1).1
    rw [drp_mth g hi] at h2
    have hp := g.p i hi
    have h3 : (r.getD i default).ht ≤ mostF r i r.length := most_ge hp.1.2.2 _ (fun k hk => by have := (out_no (ho i hi) hk).2; omega)
    show ownC r i (min (max (x i) 0) (mostF r i r.length - DM r i)) ≤ ownC r i (x i)
    unfold ownC
    omega
theorem least_lv (g : Good r) (L : Lv r x) : chgS r ≤ cstV r x := by
  obtain ⟨y, Ly, hm, hc⟩ := round_lv g _ _ L rfl
  exact Int.le_trans (ask_le (fx := []) g ⟨Ly, hm, fun i _ hf => absurd hf (Nat.not_lt_zero _)⟩) hc
theorem Up.least1 (u : Up r s b) (g : Good r) (g2 : Good s) (h2 : reaS s = true) : chgS s ≤ chgS r := by
  obtain ⟨R, hch⟩ := least_is g
  have L := lv_of g R
  have e1 := lv_chg (h := hgtF r (chgS r) r.length) (x := fun i => (hgtF r (chgS r) r.length).getD i default - DM r i) (fun i _ => by show _ = (hgtF r (chgS r) r.length).getD i default - DM r i + DM r i; omega) r.length (Nat.le_refl _)
  obtain ⟨y, Ly, hy⟩ := clamp (r := s) (x := fun i => (hgtF r (chgS r) r.length).getD i default - DM r i + b) g2 h2 (fun i hi hd => by
    rw [u.l] at hi
    rw [u.d] at hd ⊢
    have := L.d i hi hd
    omega)
  have h3 := least_lv g2 Ly
  have e2 : cstV s (fun i => (hgtF r (chgS r) r.length).getD i default - DM r i + b) = cstV r (fun i => (hgtF r (chgS r) r.length).getD i default - DM r i) := by
    unfold cstV cstF
    rw [u.l]
    refine sg_congr fun i hi => ?_
    show ownC s i ((hgtF r (chgS r) r.length).getD i default - DM r i + b) = ownC r i ((hgtF r (chgS r) r.length).getD i default - DM r i)
    unfold ownC
    rw [u.toSame.DM, u.h i hi]
    omega
  unfold chgV at hch
  unfold cstV at e2
  rw [u.l] at e2
  have h4 : cstV s y ≤ cstF s (fun i => (hgtF r (chgS r) r.length).getD i default - DM r i + b) r.length := by
    have := hy
    unfold cstV at this ⊢
    rw [u.l] at this ⊢
    exact this
  omega
theorem Up.least (u : Up r s b) (hc : (chk r).2.2 = 0) (hc2 : (chk s).2.2 = 0) (h1 : reaS r = true) (h2 : reaS s = true) : lstC s = lstC r := by
  have g := chk_good hc
  have g2 := chk_good hc2
  have a := u.least1 g g2 h2
  have c := u.back.least1 g2 g h1
  unfold lstC
  rw [if_neg (by omega), if_neg (by omega)]
  omega
theorem rea_f (hi : i < r.length) (h : outS r i = true) : reaS r = false := by
  cases e : reaS r with
  | false => rfl
  | true => rw [rea_iff.1 e i hi] at h; cases h
theorem fill_len9 : ∀ f cs l st, l.length + f = n → st.1.length ≤ n → (fillP r f cs l st).1.length ≤ n
  | 0, cs, l, st, hf, hs => by
    rw [fillP]
    split
    · exact hs
    · show l.length ≤ n; omega
  | f + 1, cs, l, st, hf, hs => by
    rw [fillP]
    split
    · exact hs
    · split
      · exact fill_len9 f _ _ _ (by rw [List.length_append, List.length_singleton]; omega) hs
      · have key : ∀ m, (loopP (fillP r f) r cs l st m).1.length ≤ n := by
          intro m
          induction m with
          | zero => exact hs
          | succ m ih =>
            rw [loopP]
            split
            · exact fill_len9 f _ _ _ (by rw [List.length_append, List.length_singleton]; omega) ih
            · exact ih
        exact key _
theorem prf_9 : (prfL r).length ≤ 9 := by
  unfold prfL
  split
  · exact Nat.zero_le _
  · rename_i h
    have g := (chk_good (Decidable.not_not.1 h)).n.2
    exact Nat.le_trans (fill_len9 r.length [] [] _ (by simp) (Nat.zero_le _)) g
theorem must_9 : (mustL r).length ≤ 9 ∧ (mayL r).length ≤ 9 := by
  unfold mustL mayL
  constructor
  all_goals
    split
    · exact Nat.zero_le _
    · exact selN_len
end
end Go.Proofs.YtoemnobfnnjopaaDoor
end
section
set_option linter.unusedSimpArgs false
set_option linter.unusedVariables false
namespace Go.Proofs.YtoemnobfnnjopaaDoor
open Go
/-- The greatest height that the first k points ask of a point, if those of a list have none. -/
def hF (r : List RvT) (l : List Int) (i : Nat) : Nat → Int
  | 0 => 0
  | k + 1 => if 0 ≤ drp r i k then max (hF r l i k) ((if (k : Int) ∈ l then 0 else (r.getD k default).ht) + drp r i k) else hF r l i k
/-- Heights, as they are worked out. -/
def hP (r : List RvT) (l : List Int) (i k : Nat) : List Int := (List.range r.length).map fun j => if j < i then hF r l j r.length else if j = i then hF r l i k else 0
section
variable {r : List RvT} {l : List Int} {i k n t m : Nat} {h : List Int} {p : Nat → Bool}
theorem mem_bits {s : Nat} {x : Int} : x ∈ bitsL (s : Int) ↔ ∃ i, i < 9 ∧ s.testBit i = true ∧ x = (i : Int) := by
  unfold bitsL; rw [Int.toNat_natCast]; exact mem_sel
theorem bit_in {s k : Nat} (hk : k < 9) : (k : Int) ∈ bitsL (s : Int) ↔ s.testBit k = true := by
  rw [mem_bits]
  constructor
  · rintro ⟨i, _, h, e⟩
    rwa [show k = i by omega]
  · intro h; exact ⟨k, hk, h, rfl⟩
theorem bits_n {s : Nat} (hn : n ≤ 9) (hs : s < 2 ^ n) : bitsL (s : Int) = selN (fun i => s.testBit i) n := by
  unfold bitsL
  rw [Int.toNat_natCast]
  exact sel_cut (fun i hi => Nat.testBit_lt_two_pow (Nat.lt_of_lt_of_le hs (Nat.pow_le_pow_right (by decide) hi))) hn
theorem all_lt : ∀ k, allF n l k < 2 ^ n
  | 0 => by have := Nat.two_pow_pos n; unfold allF; omega
  | k + 1 => by
    have := all_lt k
    unfold allF
    have := Nat.and_le_left (n := allF n l k) (m := (l.getD k default).toNat)
    omega
theorem som_lt (h : ∀ x ∈ l, x.toNat < 2 ^ n) : ∀ k, k ≤ l.length → somF l k < 2 ^ n
  | 0, _ => by have := Nat.two_pow_pos n; unfold somF; omega
  | k + 1, hk => by
    unfold somF
    exact Nat.or_lt_two_pow (som_lt h k (by omega)) (h _ (K.gt_mem hk))
theorem all_bit : ∀ k, k ≤ l.length → ∀ i, (allF n l k).testBit i = true → i < n ∧ ∀ j, j < k → (l.getD j default).toNat.testBit i = true
  | 0, _, i, hb => by
    unfold allF at hb
    rw [Nat.testBit_two_pow_sub_one] at hb
    exact ⟨of_decide_eq_true hb, fun j hj => absurd hj (Nat.not_lt_zero _)⟩
  | k + 1, hk, i, hb => by
    unfold allF at hb
    rw [Nat.testBit_and, Bool.and_eq_true] at hb
    obtain ⟨h1, h2⟩ := all_bit k (by omega) i hb.1
    exact ⟨h1, K.lt_succ_case h2 hb.2⟩
theorem som_bit {j : Nat} : ∀ k, j < k → k ≤ l.length → ∀ i, (l.getD j default).toNat.testBit i = true → (somF l k).testBit i = true
  | 0, hj, _, _, _ => absurd hj (Nat.not_lt_zero _)
  | k + 1, hj, hk, i, hb => by
    unfold somF
    rw [Nat.testBit_or, Bool.or_eq_true]
    rcases Nat.lt_or_ge j k with h1 | h1
    · exact .inl (som_bit k h1 (by omega) i hb)
    · rw [show k = j by omega]; exact .inr hb
/-- Where a correction with the fewest points stands. -/
theorem cor_at {s : Nat} (h : (s : Int) ∈ corL r) : ∃ j, j < (corL r).length ∧ ((corL r).getD j default).toNat = s := by
  obtain ⟨j, hj, e⟩ := List.mem_iff_getElem.1 h
  refine ⟨j, hj, ?_⟩
  rw [List.getD_eq_getElem?_getD, List.getElem?_eq_getElem hj]
  show ((corL r)[j]).toNat = s
  rw [e]; rfl
theorem few_lens (hc : (chk r).2.2 = 0) : fewL r = selN (fun i => (fewN r).testBit i) r.length ∧ mustL r = selN (fun i => (allF r.length (corL r) (corL r).length).testBit i) r.length ∧ mayL r = selN (fun i => (somF (corL r) (corL r).length).testBit i) r.length := by
  have g := chk_good hc
  have hn := g.n.2
  refine ⟨?_, ?_, ?_⟩
  · rw [(few_L hc).1, bits_n hn (few_is g).1]
  · unfold mustL; rw [if_neg (by omega), bits_n hn (all_lt _)]
  · unfold mayL
    rw [if_neg (by omega), bits_n hn (som_lt (fun x hx => ?_) _ (Nat.le_refl _))]
    have hb := corL_mem g hx
    have e : x = ((x.toNat : Nat) : Int) := by omega
    rw [e] at hx
    exact ((corF_spec (r := r) (2 ^ r.length)).2 _).1 hx |>.1
end
end Go.Proofs.YtoemnobfnnjopaaDoor
end
