/-
  Plain lemmas and plain functions, several texts joined.
  Conditions stand in each theorem.
-/
import Derived.Test.YthkgnhcknkjgdaaDoorS1
import Derived.Test.YthkgnhcknkjgdaaDoorK2
set_option linter.unusedSimpArgs false
set_option linter.unusedVariables false
/-
  The fields between a place and a pin, one after the other; what hides; sets as numbers.
  No conditions but those in the theorems.
-/
namespace Go.Proofs.YthkgnhcknkjgdaaDoor
open Go
def gS (m : Mod) (x y : Int) (i : Nat) : Int := gcdS ((m.ps.getD i default).x - x) ((m.ps.getD i default).y - y)
def st1 (m : Mod) (x y : Int) (i k : Nat) : Option (Int × Int × Int) := stepAt m x y ((m.ps.getD i default).x) ((m.ps.getD i default).y) (gS m x y i) ((k : Int) + 1)
/-- The first k. -/
def stK (m : Mod) (x y : Int) (i k : Nat) : List (Int × Int × Int) := (List.range k).filterMap (st1 m x y i)
theorem stepsS_eq {m : Mod} {x y : Int} {i : Nat} : stepsS m x y i = stK m x y i ((gS m x y i).toNat - 1) := rfl
section
variable {m : Mod} {x y : Int} {i k : Nat}
theorem stK_none (h : st1 m x y i k = none) : stK m x y i (k + 1) = stK m x y i k := by
  unfold stK; rw [List.range_succ, List.filterMap_append]; simp [h]
theorem stK_some {s : Int × Int × Int} (h : st1 m x y i k = some s) : stK m x y i (k + 1) = stK m x y i k ++ [s] := by
  unfold stK; rw [List.range_succ, List.filterMap_append]; simp [h]
theorem stK_at {s : Int × Int × Int} (h : st1 m x y i k = some s) : ∀ {n : Nat}, k < n → (stK m x y i n)[(stK m x y i k).length]? = some s := by
  intro n
  induction n with
  | zero => intro h1; omega
  | succ n ih =>
    intro h1
    rcases Nat.lt_or_ge k n with h2 | h2
    · have h3 := ih h2
      have h4 : (stK m x y i k).length < (stK m x y i n).length := (List.getElem?_eq_some_iff.1 h3).1
      cases e : st1 m x y i n with
      | none => rw [stK_none e]; exact h3
      | some s' => rw [stK_some e, List.getElem?_append_left h4]; exact h3
    · have : k = n := by omega
      subst this
      rw [stK_some h]; simp
/-- Where one is. -/
abbrev atX (m : Mod) (x y : Int) (i k : Nat) : Int := x + ((m.ps.getD i default).x - x) / gS m x y i * ((k : Int) + 1)
abbrev atY (m : Mod) (x y : Int) (i k : Nat) : Int := y + ((m.ps.getD i default).y - y) / gS m x y i * ((k : Int) + 1)
theorem st1_some (h : onF m.W m.D (atX m x y i k) (atY m x y i k)) : st1 m x y i k = some (atY m x y i k * m.W + atX m x y i k, (k : Int) + 1, gS m x y i) := by
  unfold st1 stepAt; rw [if_pos h]
theorem st1_none (h : ¬ onF m.W m.D (atX m x y i k) (atY m x y i k)) : st1 m x y i k = none := by
  unfold st1 stepAt; rw [if_neg h]
theorem gS_x : gS m x y i ∣ (m.ps.getD i default).x - x := gcd_dvd_l _ _
theorem gS_y : gS m x y i ∣ (m.ps.getD i default).y - y := gcd_dvd_r _ _
end
/-- What is between a place within limits and a pin. -/
structure Way (m : Mod) (x y : Int) (i : Nat) : Prop where
  g : Good m
  i : i < m.ps.length
  x : -20 ≤ x ∧ x ≤ 20
  y : -20 ≤ y ∧ y ≤ 20
section
variable {m : Mod} {x y : Int} {i : Nat}
theorem Way.p (h : Way m x y i) : (0 ≤ (m.ps.getD i default).x ∧ (m.ps.getD i default).x ≤ 7) ∧ (0 ≤ (m.ps.getD i default).y ∧ (m.ps.getD i default).y ≤ 7) ∧ (m.W ≤ 8 ∧ m.D ≤ 8 ∧ m.ps.length ≤ 6) := by
  have h1 := (h.g.p i h.i).1
  have h2 := h.g.w
  have h3 := h.g.d
  have h4 := h.g.n
  have h5 := h1.1
  have h6 := h1.2
  refine ⟨?_, ?_, h2.2, h3.2, h4⟩ <;> omega
theorem Way.gb (h : Way m x y i) : 0 ≤ gS m x y i ∧ gS m x y i ≤ 27 := by
  have h1 := h.p
  have := h.x
  have := h.y
  exact ⟨gcd_nn _ _, gcd_le (n := 27) (by omega) (by omega)⟩
theorem Way.at (h : Way m x y i) {k : Nat} (hk : (k : Int) + 1 < gS m x y i) : (-20 ≤ ((m.ps.getD i default).x - x) / gS m x y i * ((k : Int) + 1) + x ∧ ((m.ps.getD i default).x - x) / gS m x y i * ((k : Int) + 1) + x ≤ 20) ∧ (-20 ≤ ((m.ps.getD i default).y - y) / gS m x y i * ((k : Int) + 1) + y ∧ ((m.ps.getD i default).y - y) / gS m x y i * ((k : Int) + 1) + y ≤ 20) := by
  have h1 := h.p
  have h2 := h.x
  have h3 := h.y
  have h4 := part_bd (gS_x (m := m) (x := x) (y := y) (i := i)) (n := (k : Int) + 1) (by omega) hk
  have h5 := part_bd (gS_y (m := m) (x := x) (y := y) (i := i)) (n := (k : Int) + 1) (by omega) hk
  omega
theorem way_quo {a g : Int} (h : g ∣ a) : a.tdiv g = a / g := Int.tdiv_eq_ediv_of_dvd h
theorem dv_bd {a g : Int} (h : g ∣ a) (hg : 0 < g) (ha : -40 ≤ a ∧ a ≤ 40) : -40 ≤ a / g ∧ a / g ≤ 40 := by
  obtain ⟨q, rfl⟩ := h
  rw [Int.mul_ediv_cancel_left _ (by omega)]
  rcases Int.le_total 0 q with h | h
  · have := Int.mul_le_mul_of_nonneg_right (a := 1) (b := g) (c := q) (by omega) h
    omega
  · have := Int.mul_le_mul_of_nonneg_right (a := 1) (b := g) (c := -q) (by omega) (by omega)
    simp only [Int.mul_neg, Int.one_mul] at this
    omega
end
/-- What hides, of the first k. -/
def hdK (m : Mod) (l : List Int) (eye x y : Int) (i k : Nat) : List Int := (((stepsS m x y i).take k).filter (hideB m l eye i)).map (·.1)
section
variable {m : Mod} {l : List Int} {eye x y : Int} {i k : Nat}
theorem hd_all : hdK m l eye x y i (stepsS m x y i).length = hidesS m l x y eye i := by unfold hdK hidesS; rw [List.take_length]
theorem hd_next {s : Int × Int × Int} (h : (stepsS m x y i)[k]? = some s) : hdK m l eye x y i (k + 1) = hdK m l eye x y i k ++ (if hideB m l eye i s = true then [s.1] else []) := by
  unfold hdK
  rw [List.take_add_one, h, List.filter_append, List.map_append]
  congr 1
  by_cases hb : hideB m l eye i s = true <;> simp [hb]
theorem hd_at {s : Int × Int × Int} (h : (stepsS m x y i)[k]? = some s) (hb : hideB m l eye i s = true) : (hidesS m l x y eye i)[(hdK m l eye x y i k).length]? = some s.1 := by
  have h1 : hidesS m l x y eye i = hdK m l eye x y i (k + 1) ++ (((stepsS m x y i).drop (k + 1)).filter (hideB m l eye i)).map (·.1) := by
    unfold hdK hidesS
    rw [← List.map_append, ← List.filter_append, List.take_append_drop]
  rw [h1, hd_next h, if_pos hb, List.append_assoc]
  simp
theorem steps_at {s : Int × Int × Int} (h : (stepsS m x y i)[k]? = some s) : ∃ j : Nat, (j : Int) + 1 < gS m x y i ∧ onF m.W m.D (atX m x y i j) (atY m x y i j) ∧ s = (atY m x y i j * m.W + atX m x y i j, (j : Int) + 1, gS m x y i) := by
  have h1 := List.mem_of_getElem? h
  rw [stepsS_eq] at h1
  obtain ⟨j, hj, hs⟩ := List.mem_filterMap.1 h1
  have hj' := List.mem_range.1 hj
  by_cases hF : onF m.W m.D (atX m x y i j) (atY m x y i j)
  · rw [st1_some hF] at hs
    exact ⟨j, by omega, hF, by injection hs with e; exact e.symm⟩
  · rw [st1_none hF] at hs; cases hs
theorem Way.step (h : Way m x y i) {s : Int × Int × Int} (hs : (stepsS m x y i)[k]? = some s) : (0 ≤ s.1 ∧ s.1 ≤ 63) ∧ 1 ≤ s.2.1 ∧ s.2.1 < s.2.2 ∧ s.2.2 ≤ 27 := by
  obtain ⟨j, h1, h2, rfl⟩ := steps_at hs
  have h3 := fld_bd h.g.w h.g.d h2
  have h4 := h.gb
  exact ⟨⟨h3.1, h3.2.2.1⟩, by simp only; omega, h1, h4.2⟩
end
theorem mul_bd {a b A C : Int} (ha : 0 ≤ a ∧ a ≤ A) (hb : 0 ≤ b ∧ b ≤ C) : 0 ≤ a * b ∧ a * b ≤ A * C := by
  refine ⟨Int.mul_nonneg ha.1 hb.1, ?_⟩
  exact Int.le_trans (Int.mul_le_mul_of_nonneg_right ha.2 hb.1) (Int.mul_le_mul_of_nonneg_left hb.2 (by omega))
theorem hide_bd {m : Mod} {l : List Int} {eye x y : Int} {i k : Nat} {s : Int × Int × Int} (h : Way m x y i) (hl : LB l) (he : 0 ≤ eye ∧ eye ≤ 3000) (hs : (stepsS m x y i)[k]? = some s) :
    (0 ≤ topS m l s.1 * s.2.2 ∧ topS m l s.1 * s.2.2 ≤ 21600) ∧ (0 ≤ eye * (s.2.2 - s.2.1) ∧ eye * (s.2.2 - s.2.1) ≤ 81000) ∧ (0 ≤ headS m l i * s.2.1 ∧ headS m l i * s.2.1 ≤ 21600) := by
  have h1 := h.step hs
  have h2 := mul_bd (C := 27) (top_bd h.g hl s.1) (b := s.2.2) (by omega)
  have h3 := mul_bd (C := 27) he (b := s.2.2 - s.2.1) (by omega)
  have h4 := mul_bd (C := 27) (head_bd h.g hl i) (b := s.2.1) (by omega)
  omega
/-! Sets as numbers -/
def setN (p : Nat → Bool) : Nat → Int
  | 0 => 0
  | n + 1 => setN p n + if p n then 2 ^ n else 0
theorem setN_bd {p : Nat → Bool} : ∀ {n : Nat}, n ≤ 6 → 0 ≤ setN p n ∧ setN p n < 2 ^ n
  | 0, _ => ⟨Int.le_refl _, by show (0 : Int) < 1; decide⟩
  | n + 1, h => by
    have h1 := setN_bd (p := p) (n := n) (by omega)
    have h2 : (2 : Int) ^ (n + 1) = 2 ^ n + 2 ^ n := by rw [Int.pow_succ]; omega
    unfold setN
    split <;> omega
theorem or_tab : ∀ n : Fin 6, ∀ a : Fin 32, (a.val : Int) < 2 ^ n.val → IntKind.i64.wrap ((BitVec.ofInt IntKind.i64.bits (a.val : Int) ||| BitVec.ofInt IntKind.i64.bits (IntKind.i64.wrap (1 * 2 ^ min n.val IntKind.i64.bits))).toNat : Int) = (a.val : Int) + 2 ^ n.val := by decide
theorem or_bit {a : Int} {n : Nat} (hn : n < 6) (h0 : 0 ≤ a) (h : a < 2 ^ n) : IntKind.i64.wrap ((BitVec.ofInt IntKind.i64.bits a ||| BitVec.ofInt IntKind.i64.bits (IntKind.i64.wrap (1 * 2 ^ min ((n : Int)).toNat IntKind.i64.bits))).toNat : Int) = a + 2 ^ n := by
  have h5 : a < 32 := by
    have : (2 : Int) ^ n ≤ 2 ^ 5 := by
      have : n = 0 ∨ n = 1 ∨ n = 2 ∨ n = 3 ∨ n = 4 ∨ n = 5 := by omega
      rcases this with h | h | h | h | h | h <;> subst h <;> decide
    omega
  obtain ⟨b, rfl⟩ := Int.eq_ofNat_of_zero_le h0
  exact or_tab ⟨n, hn⟩ ⟨b, by omega⟩ h
/-- Which pins are seen from a place. -/
def seesB (m : Mod) (l : List Int) (x y eye : Int) (i : Nat) : Bool := (hidesS m l x y eye i).isEmpty
theorem sees_eq {m : Mod} {l : List Int} {x y eye : Int} : seesS m l x y eye = (List.range m.ps.length).filter (seesB m l x y eye) := rfl
theorem setN_yes {p : Nat → Bool} {n : Nat} (h : p n = true) : setN p (n + 1) = setN p n + 2 ^ n := by rw [setN, if_pos h]
theorem setN_no {p : Nat → Bool} {n : Nat} (h : p n = false) : setN p (n + 1) = setN p n := by rw [setN, if_neg (by simp [h]), Int.add_zero]
end Go.Proofs.YthkgnhcknkjgdaaDoor

/-
  Sets as numbers: their bits, counted and listed.
  No conditions but those in the theorems.
-/
namespace Go.Proofs.YthkgnhcknkjgdaaDoor
open Go
def tabZ : List Int := [0,1,56,2,57,49,28,3,61,58,42,50,38,29,17,4,62,47,59,36,45,43,51,22,53,39,33,30,24,18,12,5,63,55,48,27,60,41,37,16,46,35,44,21,52,32,23,11,54,26,40,15,34,20,31,10,25,14,19,9,13,8,7,6]
def tab64 : List Value := tabZ.map fun n => .int .u8 n
def low1 (x : Int) : Int := IntKind.u64.wrap (BitVec.ofInt IntKind.u64.bits x &&& BitVec.ofInt IntKind.u64.bits (IntKind.u64.wrap (0 - x))).toNat
def idxZ (x : Int) : Int := (IntKind.u64.wrap (low1 x * 285870213051353865)).fdiv (2 ^ min ((58 : Int)).toNat IntKind.u64.bits)
def tzS (x : Int) : Int := tabZ.getD (idxZ x).toNat 0
def andS (x : Int) : Int := IntKind.i64.wrap (BitVec.ofInt IntKind.i64.bits x &&& BitVec.ofInt IntKind.i64.bits (x - 1)).toNat
def bitsL (s : Int) : List Int := selN (fun i => s.toNat.testBit i) 6
def idxW (y : Int) : Int := (IntKind.u64.wrap (y * 285870213051353865)).fdiv (2 ^ min ((58 : Int)).toNat IntKind.u64.bits)
theorem idxW_1 : idxW 1 = 0 := by decide
theorem idxW_2 : idxW 2 = 1 := by decide
theorem idxW_4 : idxW 4 = 3 := by decide
theorem idxW_8 : idxW 8 = 7 := by decide
theorem idxW_16 : idxW 16 = 15 := by decide
theorem idxW_32 : idxW 32 = 31 := by decide
theorem low_tab : ∀ x : Fin 64, x.val ≠ 0 → low1 (x.val : Int) = 1 ∨ low1 (x.val : Int) = 2 ∨ low1 (x.val : Int) = 4 ∨ low1 (x.val : Int) = 8 ∨ low1 (x.val : Int) = 16 ∨ low1 (x.val : Int) = 32 := by decide
theorem low_at {x : Int} (h : 1 ≤ x ∧ x ≤ 63) : low1 x = 1 ∨ low1 x = 2 ∨ low1 x = 4 ∨ low1 x = 8 ∨ low1 x = 16 ∨ low1 x = 32 := by
  obtain ⟨n, rfl⟩ := Int.eq_ofNat_of_zero_le (show 0 ≤ x by omega)
  exact low_tab ⟨n, by omega⟩ (by simp only; omega)
theorem idxZ_eq (x : Int) : idxZ x = idxW (low1 x) := rfl
theorem idx_at {x : Int} (h : 1 ≤ x ∧ x ≤ 63) : (0 ≤ idxZ x ∧ idxZ x < 64) ∧ tab64[0 + (idxZ x).toNat * 1]? = some (.int .u8 (tzS x)) ∧ (0 ≤ tzS x ∧ tzS x ≤ 5) := by
  unfold tzS
  rw [idxZ_eq]
  rcases low_at h with e | e | e | e | e | e <;> rw [e]
  · rw [idxW_1]; exact ⟨by decide, rfl, by decide⟩
  · rw [idxW_2]; exact ⟨by decide, rfl, by decide⟩
  · rw [idxW_4]; exact ⟨by decide, rfl, by decide⟩
  · rw [idxW_8]; exact ⟨by decide, rfl, by decide⟩
  · rw [idxW_16]; exact ⟨by decide, rfl, by decide⟩
  · rw [idxW_32]; exact ⟨by decide, rfl, by decide⟩
theorem tz_of (x : Int) : tzS x = tabZ.getD (idxW (low1 x)).toNat 0 := rfl
theorem and_tab : ∀ x : Fin 64, x.val ≠ 0 → (0 ≤ andS (x.val : Int) ∧ andS (x.val : Int) < (x.val : Int)) ∧
    ((low1 (x.val : Int) = 1 ∧ bitsL (x.val : Int) = 0 :: bitsL (andS (x.val : Int))) ∨ (low1 (x.val : Int) = 2 ∧ bitsL (x.val : Int) = 1 :: bitsL (andS (x.val : Int))) ∨ (low1 (x.val : Int) = 4 ∧ bitsL (x.val : Int) = 2 :: bitsL (andS (x.val : Int))) ∨
     (low1 (x.val : Int) = 8 ∧ bitsL (x.val : Int) = 3 :: bitsL (andS (x.val : Int))) ∨ (low1 (x.val : Int) = 16 ∧ bitsL (x.val : Int) = 4 :: bitsL (andS (x.val : Int))) ∨ (low1 (x.val : Int) = 32 ∧ bitsL (x.val : Int) = 5 :: bitsL (andS (x.val : Int)))) := by decide
theorem bits_at {x : Int} (h : 1 ≤ x ∧ x ≤ 63) : (0 ≤ andS x ∧ andS x < x) ∧ bitsL x = tzS x :: bitsL (andS x) := by
  obtain ⟨n, rfl⟩ := Int.eq_ofNat_of_zero_le (show 0 ≤ x by omega)
  obtain ⟨h1, h2⟩ := and_tab ⟨n, by omega⟩ (by simp only; omega)
  refine ⟨h1, ?_⟩
  rw [tz_of]
  rcases h2 with ⟨e, h3⟩ | ⟨e, h3⟩ | ⟨e, h3⟩ | ⟨e, h3⟩ | ⟨e, h3⟩ | ⟨e, h3⟩ <;> simp only at e h3 <;> rw [e]
  · rw [idxW_1]; exact h3
  · rw [idxW_2]; exact h3
  · rw [idxW_4]; exact h3
  · rw [idxW_8]; exact h3
  · rw [idxW_16]; exact h3
  · rw [idxW_32]; exact h3
theorem bits_0 : bitsL 0 = [] := by decide
theorem bits_len {x : Int} : (bitsL x).length ≤ 6 := selN_len
theorem setN_6 : ∀ b0 b1 b2 b3 b4 b5 : Bool, bitsL ((((((0 + if b0 then 2 ^ 0 else 0) + if b1 then 2 ^ 1 else 0) + if b2 then 2 ^ 2 else 0) + if b3 then 2 ^ 3 else 0) + if b4 then 2 ^ 4 else 0) + if b5 then 2 ^ 5 else 0) = ((((([] ++ if b0 then [((0 : Nat) : Int)] else []) ++ if b1 then [((1 : Nat) : Int)] else []) ++ if b2 then [((2 : Nat) : Int)] else []) ++ if b3 then [((3 : Nat) : Int)] else []) ++ if b4 then [((4 : Nat) : Int)] else []) ++ if b5 then [((5 : Nat) : Int)] else [] := by decide
/-- The numbers of a set, from the choice. -/
theorem setN_congr {p q : Nat → Bool} : ∀ {n : Nat}, (∀ i, i < n → p i = q i) → setN p n = setN q n
  | 0, _ => rfl
  | n + 1, h => by rw [setN, setN, setN_congr (fun i hi => h i (by omega)), h n (by omega)]
theorem selN_congr {p q : Nat → Bool} {n : Nat} (h : ∀ i, i < n → p i = q i) : selN p n = selN q n := by
  unfold selN
  congr 1
  exact List.filter_congr (fun i hi => h i (List.mem_range.1 hi))
theorem setN_cut {p : Nat → Bool} {n : Nat} : ∀ {k : Nat}, n ≤ k → setN (fun i => p i && decide (i < n)) k = setN p n
  | 0, h => by
    have : n = 0 := by omega
    subst this; rfl
  | k + 1, h => by
    rcases Nat.lt_or_ge n (k + 1) with h1 | h1
    · rw [setN, setN_cut (by omega), decide_eq_false (by omega), Bool.and_false, if_neg (by simp), Int.add_zero]
    · have : n = k + 1 := by omega
      subst this
      exact setN_congr (fun i hi => by rw [decide_eq_true hi, Bool.and_true])
theorem selN_cut {p : Nat → Bool} {n k : Nat} (h : n ≤ k) : selN (fun i => p i && decide (i < n)) k = selN p n := by
  induction k with
  | zero =>
    have : n = 0 := by omega
    subst this; rfl
  | succ k ih =>
    rcases Nat.lt_or_ge n (k + 1) with h1 | h1
    · rw [selN_succ, ih (by omega), decide_eq_false (by omega), Bool.and_false]; simp
    · have : n = k + 1 := by omega
      subst this
      exact selN_congr (fun i hi => by rw [decide_eq_true hi, Bool.and_true])
theorem bits_set6 (q : Nat → Bool) : bitsL (setN q 6) = selN q 6 := by
  have h := setN_6 (q 0) (q 1) (q 2) (q 3) (q 4) (q 5)
  have e : selN q 6 = ((((([] ++ if q 0 then [((0 : Nat) : Int)] else []) ++ if q 1 then [((1 : Nat) : Int)] else []) ++ if q 2 then [((2 : Nat) : Int)] else []) ++ if q 3 then [((3 : Nat) : Int)] else []) ++ if q 4 then [((4 : Nat) : Int)] else []) ++ if q 5 then [((5 : Nat) : Int)] else [] := by
    rw [selN_succ, selN_succ, selN_succ, selN_succ, selN_succ, selN_succ]; rfl
  rw [e, ← h]
  rfl
theorem bits_set {p : Nat → Bool} {n : Nat} (h : n ≤ 6) : bitsL (setN p n) = selN p n := by
  rw [← setN_cut (p := p) h, ← selN_cut (p := p) h, bits_set6]
theorem setN_63 {p : Nat → Bool} {n : Nat} (h : n ≤ 6) : 0 ≤ setN p n ∧ setN p n ≤ 63 := by
  have h1 := setN_bd (p := p) h
  have h2 : (2 : Int) ^ n ≤ 64 := by
    have : n = 0 ∨ n = 1 ∨ n = 2 ∨ n = 3 ∨ n = 4 ∨ n = 5 ∨ n = 6 := by omega
    rcases this with h | h | h | h | h | h | h <;> subst h <;> decide
  omega
end Go.Proofs.YthkgnhcknkjgdaaDoor

/-
  What functions of pin return, as plain functions.
  No conditions but those in the theorems.
-/
namespace Go.Proofs.YthkgnhcknkjgdaaDoor
open Go
def asE (m : Mod) (s p : Int) : Int := if ¬ ((0 ≤ s ∧ s ≤ (m.ss.length : Int) - 1) ∧ (0 ≤ p ∧ p ≤ (m.ps.length : Int) - 1)) then 4 else 0
/-- The error of a model, a stand and a pin. -/
def askE (m : Mod) (s p : Int) : Int := if (chk m).2.2 ≠ 0 then (chk m).2.2 else asE m s p
def hidE (m : Mod) (s eye p : Int) : Int := if askE m s p ≠ 0 then askE m s p else if ¬ (0 ≤ eye ∧ eye ≤ 2000) then 7 else 0
/-- What Hidden returns. -/
def hidL (m : Mod) (s eye p : Int) : List Int := if hidE m s eye p = 0 then hidesS m (ownS m) (m.ss.getD s.toNat default).x (m.ss.getD s.toNat default).y eye p.toNat else []
def seenE (m : Mod) (s : Int) : Int := if (chk m).2.2 ≠ 0 then (chk m).2.2 else if ¬ (0 ≤ s ∧ s ≤ (m.ss.length : Int) - 1) then 4 else 0
def seenL (m : Mod) (l : List Int) (s : Nat) (eye : Int) : List Int := selN (seesB m l (m.ss.getD s default).x (m.ss.getD s default).y eye) m.ps.length
theorem chk_e0 {m : Mod} (h : (chk m).2.2 = 0) : chk m = (0, 0, 0) := by
  obtain ⟨h1, h2, h3, h4, h5, h6, h7⟩ := chk_part.1 h
  exact chk_0 h1 h2 h3 h4 h5 h6 h7
theorem ask_0 {m : Mod} {s p : Int} (h : askE m s p = 0) : (chk m).2.2 = 0 ∧ (0 ≤ s ∧ s ≤ (m.ss.length : Int) - 1) ∧ (0 ≤ p ∧ p ≤ (m.ps.length : Int) - 1) := by
  unfold askE asE at h
  split at h
  · rename_i h1; exact absurd h h1
  · rename_i h1
    split at h
    · cases h
    · rename_i h2; exact ⟨Decidable.not_not.1 h1, (Decidable.not_not.1 h2).1, (Decidable.not_not.1 h2).2⟩
theorem Good.st {m : Mod} (g : Good m) {s : Nat} (h : s < m.ss.length) : ((-20 ≤ (m.ss.getD s default).x ∧ (m.ss.getD s default).x ≤ 20) ∧ (-20 ≤ (m.ss.getD s default).y ∧ (m.ss.getD s default).y ≤ 20)) ∧ (0 ≤ (m.ss.getD s default).lo ∧ (m.ss.getD s default).lo ≤ (m.ss.getD s default).hi ∧ (m.ss.getD s default).hi ≤ 2000) ∧ ¬ onF m.W m.D (m.ss.getD s default).x (m.ss.getD s default).y := g.s _ (K.gt_mem h)
theorem hides_len {m : Mod} {l : List Int} {x y eye : Int} {i : Nat} (h : Way m x y i) : (hidesS m l x y eye i).length ≤ 27 := by
  unfold hidesS
  rw [List.length_map]
  refine Nat.le_trans (List.length_filter_le _ _) ?_
  rw [stepsS_eq]
  unfold stK
  refine Nat.le_trans (List.length_filterMap_le _ _) ?_
  have := h.gb
  simp; omega
/-- What hides, of the first k parts of the way. -/
def hfK (m : Mod) (l : List Int) (eye x y : Int) (i k : Nat) : List Int := ((stK m x y i k).filter (hideB m l eye i)).map (·.1)
section
variable {m : Mod} {l : List Int} {eye x y : Int} {i k : Nat}
theorem hf_all : hfK m l eye x y i ((gS m x y i).toNat - 1) = hidesS m l x y eye i := by unfold hfK hidesS; rw [stepsS_eq]
theorem hf_none (h : ¬ onF m.W m.D (atX m x y i k) (atY m x y i k)) : hfK m l eye x y i (k + 1) = hfK m l eye x y i k := by unfold hfK; rw [stK_none (st1_none h)]
theorem hf_some (h : onF m.W m.D (atX m x y i k) (atY m x y i k)) : hfK m l eye x y i (k + 1) = hfK m l eye x y i k ++ (if topS m l (atY m x y i k * m.W + atX m x y i k) * gS m x y i ≥ eye * (gS m x y i - ((k : Int) + 1)) + headS m l i * ((k : Int) + 1) then [atY m x y i k * m.W + atX m x y i k] else []) := by
  unfold hfK
  rw [stK_some (st1_some h), List.filter_append, List.map_append]
  congr 1
  by_cases hb : topS m l (atY m x y i k * m.W + atX m x y i k) * gS m x y i ≥ eye * (gS m x y i - ((k : Int) + 1)) + headS m l i * ((k : Int) + 1)
  · rw [if_pos hb]; simp [hideB, hb]
  · rw [if_neg hb]; simp [hideB]; omega
theorem hf_len : (hfK m l eye x y i k).length ≤ k := by
  unfold hfK
  rw [List.length_map]
  refine Nat.le_trans (List.length_filter_le _ _) ?_
  unfold stK
  refine Nat.le_trans (List.length_filterMap_le _ _) ?_
  simp
theorem hid_0 {s eye p : Int} (h1 : askE m s p = 0) (h2 : 0 ≤ eye ∧ eye ≤ 2000) : hidE m s eye p = 0 := by unfold hidE; rw [if_neg (by omega), if_neg (by omega)]
theorem hid_7 {s eye p : Int} (h1 : askE m s p = 0) (h2 : ¬ (0 ≤ eye ∧ eye ≤ 2000)) : hidE m s eye p = 7 := by unfold hidE; rw [if_neg (by omega), if_pos h2]
theorem hid_a {s eye p : Int} (h1 : askE m s p ≠ 0) : hidE m s eye p = askE m s p := by unfold hidE; rw [if_pos h1]
theorem hidL_e {s eye p : Int} (h : hidE m s eye p ≠ 0) : hidL m s eye p = [] := by unfold hidL; rw [if_neg h]
theorem hidL_0 {s p : Nat} {eye : Int} (h : hidE m s eye p = 0) : hidL m s eye p = hidesS m (ownS m) (m.ss.getD s default).x (m.ss.getD s default).y eye p := by unfold hidL; rw [if_pos h]; rfl
end
theorem pinAt_own {m : Mod} (g : Good m) {i : Nat} (hi : i < m.ps.length) : pinAt m (fldS m i) = some i := by
  cases e : pinAt m (fldS m i) with
  | none => exact absurd rfl (pinAtK_none.1 e i hi)
  | some j =>
    obtain ⟨h1, h2⟩ := pinAtK_some (k := m.ps.length) e
    rw [g.fldU h1 hi h2]
theorem top_own {m : Mod} (g : Good m) {l : List Int} {i : Nat} (hi : i < m.ps.length) : topS m l ((m.ps.getD i default).y * m.W + (m.ps.getD i default).x) = headS m l i := by
  rw [topS_eq, show pinAt m ((m.ps.getD i default).y * m.W + (m.ps.getD i default).x) = some i from pinAt_own g hi]; rfl
end Go.Proofs.YthkgnhcknkjgdaaDoor
