/-
  Plain lemmas and plain functions, several texts joined.
  Conditions stand in each theorem.
-/
import Derived.Test.YthkgnhcknkjgdaaDoorS3
import Derived.Test.YthkgnhcknkjgdaaDoorS4
set_option linter.unusedSimpArgs false
set_option linter.unusedVariables false
/-
  Stands that cover, pins that are taken off, the best place.
  No conditions but those in the theorems.
-/
namespace Go.Proofs.YthkgnhcknkjgdaaDoor
open Go
def orI (a b : Int) : Int := IntKind.i64.wrap (BitVec.ofInt IntKind.i64.bits a ||| BitVec.ofInt IntKind.i64.bits b).toNat
theorem or_all : (List.range 64).all (fun a => (List.range 64).all fun b => decide (orI ((a : Nat) : Int) ((b : Nat) : Int) = setN (fun i => a.testBit i || b.testBit i) 6)) = true := by decide +kernel
theorem setN_bit {p : Nat → Bool} {n i : Nat} (hn : n ≤ 6) (hi : i < 6) : (setN p n).toNat.testBit i = (p i && decide (i < n)) := by
  have h := bits_set (p := p) hn
  have h1 : ((i : Int) ∈ bitsL (setN p n)) ↔ (i : Int) ∈ selN p n := by rw [h]
  unfold bitsL at h1
  rw [mem_sel, mem_sel] at h1
  rw [Bool.eq_iff_iff]
  simp only [Bool.and_eq_true, decide_eq_true_eq]
  constructor
  · intro h2
    obtain ⟨j, h3, h4, h5⟩ := h1.1 ⟨i, hi, h2, rfl⟩
    have : i = j := by omega
    subst this; exact ⟨h4, h3⟩
  · rintro ⟨h2, h3⟩
    obtain ⟨j, h3, h4, h5⟩ := h1.2 ⟨i, h3, h2, rfl⟩
    have : i = j := by omega
    subst this; exact h4
theorem or_set {p q : Nat → Bool} {n : Nat} (hn : n ≤ 6) : orI (setN p n) (setN q n) = setN (fun i => p i || q i) n := by
  have hp := setN_63 (p := p) hn
  have hq := setN_63 (p := q) hn
  have h := List.all_eq_true.1 (List.all_eq_true.1 or_all (setN p n).toNat (List.mem_range.2 (by omega))) (setN q n).toNat (List.mem_range.2 (by omega))
  have h := of_decide_eq_true h
  rw [Int.toNat_of_nonneg hp.1, Int.toNat_of_nonneg hq.1] at h
  rw [h, ← setN_cut (p := fun i => p i || q i) hn]
  refine setN_congr (fun i hi => ?_)
  rw [setN_bit hn hi, setN_bit hn hi]
  cases p i <;> cases q i <;> simp
theorem full_set {n : Nat} (hn : n ≤ 6) : ((2 ^ n : Nat) : Int) - 1 = setN (fun _ => true) n := by
  have : n = 0 ∨ n = 1 ∨ n = 2 ∨ n = 3 ∨ n = 4 ∨ n = 5 ∨ n = 6 := by omega
  rcases this with h | h | h | h | h | h | h <;> subst h <;> decide
theorem set_full {p : Nat → Bool} {n : Nat} (hn : n ≤ 6) : decide (setN p n = ((2 ^ n : Nat) : Int) - 1) = (List.range n).all p := by
  rw [full_set hn, Bool.eq_iff_iff, decide_eq_true_iff, List.all_eq_true]
  constructor
  · intro h i hi
    have hi' := List.mem_range.1 hi
    have h1 := setN_bit (p := p) hn (i := i) (by omega)
    rw [h, setN_bit hn (by omega), decide_eq_true hi'] at h1
    simpa using h1.symm
  · intro h
    exact setN_congr (fun i hi => h i (List.mem_range.2 hi))
theorem setN_none {n : Nat} : setN (fun _ => false) n = 0 := by
  induction n with
  | zero => rfl
  | succ n ih => rw [setN_no rfl, ih]
/-- Is the pin surely seen from the stand? -/
def sureB (m : Mod) (s i : Nat) : Bool := seesB m (ownS m) (m.ss.getD s default).x (m.ss.getD s default).y (m.ss.getD s default).lo i
/-- The sets of the stands, as numbers. -/
def sureZ (m : Mod) (k : Nat) : List Int := (List.range k).map fun s => setN (sureB m s) m.ps.length
def covB (m : Mod) (pts : List Int) : Bool := (List.range m.ps.length).all fun i => pts.any fun s => sureB m s.toNat i
theorem sureZ_succ {m : Mod} {k : Nat} : sureZ m (k + 1) = sureZ m k ++ [setN (sureB m k) m.ps.length] := by unfold sureZ; rw [List.range_succ, List.map_append]; rfl
theorem sureZ_len {m : Mod} {k : Nat} : (sureZ m k).length = k := by simp [sureZ]
theorem sureZ_at {m : Mod} {k s : Nat} (h : s < k) : (sureZ m k).getD s default = setN (sureB m s) m.ps.length := by
  simp [sureZ, List.getD_eq_getElem?_getD, h]
/-- What Fewest returns. -/
def fewM (m : Mod) : Option (List Int) := fewS (fun s => covB m (ptsS m.ss.length s)) m.ss.length
def fewE (m : Mod) : Int := if (chk m).2.2 ≠ 0 then (chk m).2.2 else if (fewM m).isSome = false then 9 else 0
def fewL (m : Mod) : List Int := if (chk m).2.2 ≠ 0 then [] else (fewM m).getD []
/-! Fewer pins. -/
def pinOK (W D : Int) (p : PinT) : Prop := nameB p.nm = true ∧ onF W D p.x p.y ∧ lenE p = 0
def apart (a b : PinT) : Prop := nmEq a.nm b.nm = false ∧ ¬ (a.x = b.x ∧ a.y = b.y)
theorem any_take_f {E : Type} [Inhabited E] {xs : List E} {q : E → Bool} {i : Nat} (hi : i ≤ xs.length) : (xs.take i).any q = false ↔ ∀ j, j < i → q (xs.getD j default) = false := ⟨fun h j hj => any_false_at h hj hi, anyT_f hi⟩
theorem pins_ok {W D : Int} {ps : List PinT} : (∀ i, i < ps.length → pinE W D ps i = 0) ↔ (∀ p ∈ ps, pinOK W D p) ∧ ps.Pairwise apart := by
  have key : ∀ i, i < ps.length → (pinE W D ps i = 0 ↔ pinOK W D (ps.getD i default) ∧ ∀ j, j < i → apart (ps.getD j default) (ps.getD i default)) := fun i hi => by
    unfold pinE pinOK apart
    cases h1 : nameB (ps.getD i default).nm with
    | false => simp
    | true =>
      simp only [Bool.true_eq_false, if_false, true_and]
      cases h2 : (ps.take i).any fun q => nmEq q.nm (ps.getD i default).nm with
      | true =>
        simp only [if_true]
        constructor
        · intro h; cases h
        · rintro ⟨_, h⟩
          rw [any_take_f (by omega) |>.2 (fun j hj => (h j hj).1)] at h2; cases h2
      | false =>
        have h2' := (any_take_f (by omega)).1 h2
        simp only [Bool.false_eq_true, if_false]
        by_cases h3 : onF W D (ps.getD i default).x (ps.getD i default).y
        · rw [if_neg (fun h => h h3)]
          cases h4 : (ps.take i).any (atP (ps.getD i default).x (ps.getD i default).y) with
          | true =>
            simp only [if_true]
            constructor
            · intro h; cases h
            · rintro ⟨_, h⟩
              rw [any_take_f (by omega) |>.2 (fun j hj => by unfold atP; exact decide_eq_false (h j hj).2)] at h4; cases h4
          | false =>
            have h4' := (any_take_f (by omega)).1 h4
            simp only [Bool.false_eq_true, if_false]
            constructor
            · intro h
              exact ⟨⟨h3, h⟩, fun j hj => ⟨h2' j hj, by have := h4' j hj; unfold atP at this; simpa using this⟩⟩
            · rintro ⟨⟨_, h⟩, _⟩; exact h
        · rw [if_pos h3]
          constructor
          · intro h; cases h
          · rintro ⟨⟨h, _⟩, _⟩; exact absurd h h3
  constructor
  · intro h
    refine ⟨fun p hp => ?_, ?_⟩
    · obtain ⟨i, hi, rfl⟩ := List.getElem_of_mem hp
      have h1 := ((key i hi).1 (h i hi)).1
      rwa [List.getD_eq_getElem?_getD, List.getElem?_eq_getElem hi] at h1
    · rw [List.pairwise_iff_getElem]
      intro i j hi hj hij
      have h1 := ((key j hj).1 (h j hj)).2 i hij
      rwa [List.getD_eq_getElem?_getD, List.getElem?_eq_getElem hi, List.getD_eq_getElem?_getD, List.getElem?_eq_getElem hj] at h1
  · rintro ⟨h1, h2⟩ i hi
    refine (key i hi).2 ⟨h1 _ (K.gt_mem hi), fun j hj => ?_⟩
    have h3 := List.pairwise_iff_getElem.1 h2 j i (by omega) hi hj
    rwa [List.getD_eq_getElem?_getD, List.getElem?_eq_getElem (show j < ps.length by omega), List.getD_eq_getElem?_getD, List.getElem?_eq_getElem hi]
/-- Another list of pins, in its order. -/
theorem chk_less {m : Mod} {ps : List PinT} (h : (chk m).2.2 = 0) (hs : List.Sublist ps m.ps) : (chk { m with ps := ps }).2.2 = 0 := by
  obtain ⟨h1, h2, h3, h4, h5, h6, h7⟩ := chk_part.1 h
  refine chk_part.2 ⟨h1, h2, h3, by have := hs.length_le; simp only; omega, ?_, h6, h7⟩
  have h8 : ∀ i, i < m.ps.length → pinE m.W m.D m.ps i = 0 := fun i hi => fst_zero.1 h5 i (List.mem_range.2 hi)
  obtain ⟨h9, h10⟩ := pins_ok.1 h8
  exact fst_ps (pins_ok.2 ⟨fun p hp => h9 p (hs.subset hp), h10.sublist hs⟩)
/-- The pins whose numbers are not in the set, of the first k. -/
def lessP (m : Mod) (s k : Nat) : List PinT := ((List.range k).filter fun i => !s.testBit i).map fun i => m.ps.getD i default
theorem less_yes {m : Mod} {s k : Nat} (h : s.testBit k = false) : lessP m s (k + 1) = lessP m s k ++ [m.ps.getD k default] := by
  unfold lessP; rw [List.range_succ, List.filter_append, List.map_append]; simp [h]
theorem less_no {m : Mod} {s k : Nat} (h : s.testBit k = true) : lessP m s (k + 1) = lessP m s k := by
  unfold lessP; rw [List.range_succ, List.filter_append, List.map_append]; simp [h]
theorem less_len {m : Mod} {s k : Nat} : (lessP m s k).length ≤ k := by
  unfold lessP; rw [List.length_map]; exact Nat.le_trans (List.length_filter_le _ _) (by simp)
theorem less_sub {m : Mod} {s : Nat} : List.Sublist (lessP m s m.ps.length) m.ps := by
  have e : (List.range m.ps.length).map (fun i => m.ps.getD i default) = m.ps := by
    apply List.ext_getElem?
    intro i
    rw [List.getElem?_map]
    rcases Nat.lt_or_ge i m.ps.length with h | h
    · rw [List.getElem?_range h]; simp [List.getD_eq_getElem?_getD, h]
    · rw [List.getElem?_eq_none (by simpa using h), List.getElem?_eq_none h]; rfl
  have h : List.Sublist (lessP m s m.ps.length) ((List.range m.ps.length).map fun i => m.ps.getD i default) := by
    unfold lessP; exact List.Sublist.map _ (List.filter_sublist)
  rwa [e] at h
def lessM (m : Mod) (s : Nat) : Mod := { m with ps := lessP m s m.ps.length }
def allB (m : Mod) : Bool := (List.range m.ss.length).all fun s => (List.range m.ps.length).all (sureB m s)
/-- What Off returns. -/
def offM (m : Mod) : Option (List Int) := fewS (fun s => allB (lessM m s)) m.ps.length
def offL (m : Mod) : List Int := if (chk m).2.2 ≠ 0 then [] else (offM m).getD []
theorem bit_all : (List.range 64).all (fun s => (List.range 6).all fun i => decide (IntKind.i64.wrap (BitVec.ofInt IntKind.i64.bits (((s : Nat) : Int).fdiv (2 ^ min (Int.toNat ((i : Nat) : Int)) IntKind.i64.bits)) &&& BitVec.ofInt IntKind.i64.bits 1).toNat = if s.testBit i then 1 else 0)) = true := by decide +kernel
theorem bit_val {s i : Nat} (hs : s < 64) (hi : i < 6) : IntKind.i64.wrap (BitVec.ofInt IntKind.i64.bits (((s : Nat) : Int).fdiv (2 ^ min (Int.toNat ((i : Nat) : Int)) IntKind.i64.bits)) &&& BitVec.ofInt IntKind.i64.bits 1).toNat = if s.testBit i then 1 else 0 := by
  have h := List.all_eq_true.1 (List.all_eq_true.1 bit_all s (List.mem_range.2 hs)) i (List.mem_range.2 hi)
  simpa using h
end Go.Proofs.YthkgnhcknkjgdaaDoor

/-
  The best place beside a model.
  No conditions but those in the theorems.
-/
namespace Go.Proofs.YthkgnhcknkjgdaaDoor
open Go
abbrev Acc := Int × Int × List Int × Int
def fromL (m : Mod) (x y eye : Int) : List Int := selN (seesB m (ownS m) x y eye) m.ps.length
def bstep (m : Mod) (eye x y : Int) (c : Acc) : Acc := if onF m.W m.D x y then c else if ((fromL m x y eye).length : Int) > c.2.2.2 then (x, y, fromL m x y eye, ((fromL m x y eye).length : Int)) else c
def inK (m : Mod) (eye : Int) (b : Nat) (c : Acc) : Nat → Acc
  | 0 => c
  | a + 1 => bstep m eye ((a : Int) - 1) ((b : Int) - 1) (inK m eye b c a)
def outK (m : Mod) (eye : Int) : Nat → Acc
  | 0 => (0, 0, [], -1)
  | b + 1 => inK m eye b (outK m eye b) (m.W + 2).toNat
def bestA (m : Mod) (eye : Int) : Acc := outK m eye (m.D + 2).toNat
def bestE (m : Mod) (eye : Int) : Int := if (chk m).2.2 ≠ 0 then (chk m).2.2 else if ¬ (0 ≤ eye ∧ eye ≤ 2000) then 7 else 0
def bestR (m : Mod) (eye : Int) : Int × Int × List Int := if bestE m eye = 0 then ((bestA m eye).1, (bestA m eye).2.1, (bestA m eye).2.2.1) else (0, 0, [])
section
variable {m : Mod} {eye x y : Int} {c : Acc}
theorem bstep_on (h : onF m.W m.D x y) : bstep m eye x y c = c := by unfold bstep; rw [if_pos h]
theorem bstep_gt (h : ¬ onF m.W m.D x y) (h2 : ((fromL m x y eye).length : Int) > c.2.2.2) : bstep m eye x y c = (x, y, fromL m x y eye, ((fromL m x y eye).length : Int)) := by unfold bstep; rw [if_neg h, if_pos h2]
theorem bstep_le (h : ¬ onF m.W m.D x y) (h2 : ¬ ((fromL m x y eye).length : Int) > c.2.2.2) : bstep m eye x y c = c := by unfold bstep; rw [if_neg h, if_neg h2]
/-- What is kept of it. -/
def AccOK (m : Mod) (c : Acc) : Prop := c.2.2.1.length ≤ m.ps.length ∧ (-1 ≤ c.2.2.2 ∧ c.2.2.2 ≤ m.ps.length)
theorem bstep_ok (h : AccOK m c) : AccOK m (bstep m eye x y c) := by
  unfold bstep
  split
  · exact h
  · split
    · have : (fromL m x y eye).length ≤ m.ps.length := selN_len
      exact ⟨this, by simp only; omega⟩
    · exact h
theorem inK_ok {b : Nat} (h : AccOK m c) : ∀ a, AccOK m (inK m eye b c a)
  | 0 => h
  | a + 1 => bstep_ok (inK_ok h a)
theorem outK_ok : ∀ b, AccOK m (outK m eye b)
  | 0 => ⟨Nat.zero_le _, by simp only [outK]; omega⟩
  | b + 1 => inK_ok (outK_ok b) _
end
end Go.Proofs.YthkgnhcknkjgdaaDoor
