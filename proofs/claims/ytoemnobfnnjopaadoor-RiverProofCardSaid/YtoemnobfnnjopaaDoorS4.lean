/-
  Plain lemmas and plain functions, several texts joined.
  Conditions stand in each theorem.
-/
import Derived.Test.YtoemnobfnnjopaaDoorS3
set_option linter.unusedSimpArgs false
set_option linter.unusedVariables false
/-
  Sets of points as bits; all corrections with the fewest points, as they are gathered.
  No conditions but those in the theorems.
-/
namespace Go.Proofs.YtoemnobfnnjopaaDoor
open Go
theorem shl_val {n : Nat} (hn : n ≤ 9) : IntKind.i64.wrap (1 * 2 ^ min (Int.toNat (n : Int)) IntKind.i64.bits) = ((2 ^ n : Nat) : Int) := by
  have : n = 0 ∨ n = 1 ∨ n = 2 ∨ n = 3 ∨ n = 4 ∨ n = 5 ∨ n = 6 ∨ n = 7 ∨ n = 8 ∨ n = 9 := by omega
  rcases this with h | h | h | h | h | h | h | h | h | h <;> subst h <;> decide
theorem pow_bd {n : Nat} (hn : n ≤ 9) : 1 ≤ 2 ^ n ∧ 2 ^ n ≤ 512 := by
  have : n = 0 ∨ n = 1 ∨ n = 2 ∨ n = 3 ∨ n = 4 ∨ n = 5 ∨ n = 6 ∨ n = 7 ∨ n = 8 ∨ n = 9 := by omega
  rcases this with h | h | h | h | h | h | h | h | h | h <;> subst h <;> decide
theorem ofn {n : Nat} (h : n < 2 ^ 63) : (BitVec.ofInt IntKind.i64.bits (n : Int)).toNat = n := by
  show (BitVec.ofInt 64 (n : Int)).toNat = n
  rw [BitVec.toNat_ofInt]
  have : ((n : Int) % ((2 ^ 64 : Nat) : Int)) = ((n % 2 ^ 64 : Nat) : Int) := by rw [Int.natCast_emod]
  rw [this, Int.toNat_natCast]
  exact Nat.mod_eq_of_lt (by omega)
theorem and_nat {a b : Nat} (ha : a < 2 ^ 63) (hb : b < 2 ^ 63) : IntKind.i64.wrap (BitVec.ofInt IntKind.i64.bits (a : Int) &&& BitVec.ofInt IntKind.i64.bits (b : Int)).toNat = ((a &&& b : Nat) : Int) := by
  rw [BitVec.toNat_and, ofn ha, ofn hb]
  have := Nat.and_le_left (n := a) (m := b)
  exact IntWalk.i64_in _ (by omega)
theorem or_nat {a b : Nat} (ha : a < 2 ^ 62) (hb : b < 2 ^ 62) : IntKind.i64.wrap (BitVec.ofInt IntKind.i64.bits (a : Int) ||| BitVec.ofInt IntKind.i64.bits (b : Int)).toNat = ((a ||| b : Nat) : Int) := by
  rw [BitVec.toNat_or, ofn (by omega), ofn (by omega)]
  have := Nat.or_lt_two_pow ha hb
  exact IntWalk.i64_in _ (by omega)
theorem fdiv_nat {a b : Nat} : ((a : Int).fdiv (b : Int)) = ((a / b : Nat) : Int) := by
  rw [Int.fdiv_eq_ediv_of_nonneg _ (Int.natCast_nonneg b)]; rfl
theorem bit_val {s i : Nat} (hs : s < 512) (hi : i < 9) : IntKind.i64.wrap (BitVec.ofInt IntKind.i64.bits (((s : Nat) : Int).fdiv (2 ^ min (Int.toNat ((i : Nat) : Int)) IntKind.i64.bits)) &&& BitVec.ofInt IntKind.i64.bits 1).toNat = if s.testBit i then 1 else 0 := by
  rw [Int.toNat_natCast, Nat.min_eq_left (show i ≤ IntKind.i64.bits by show i ≤ 64; omega)]
  have e : ((2 : Int) ^ i) = ((2 ^ i : Nat) : Int) := by rw [Int.natCast_pow]; rfl
  have hd : s / 2 ^ i ≤ s := Nat.div_le_self _ _
  have h1 := and_nat (a := s / 2 ^ i) (b := 1) (by omega) (by omega)
  rw [e, fdiv_nat, show (1 : Int) = ((1 : Nat) : Int) from rfl, h1, Nat.and_one_is_mod, Nat.testBit_eq_decide_div_mod_eq]
  by_cases h : s / 2 ^ i % 2 = 1
  · rw [h]; rfl
  · rw [show s / 2 ^ i % 2 = 0 by omega]; rfl
/-- How many points a set has. -/
def pcS (s : Nat) : Nat := (bitsL (s : Int)).length
/-- The least number of points of a correction among the first sets, and those that have as many. -/
def corF (r : List RvT) : Nat → Nat × List Int
  | 0 => (r.length, [])
  | s + 1 => if pcS s > (corF r s).1 ∨ corS r s = false then corF r s else if pcS s < (corF r s).1 then (pcS s, [(s : Int)]) else ((corF r s).1, (corF r s).2 ++ [(s : Int)])
def corL (r : List RvT) : List Int := (corF r (2 ^ r.length)).2
/-- The first one of some sets, in the order of their lists. -/
def fstS (l : List Int) : Nat → Int
  | 0 => 0
  | k + 1 => if k = 0 ∨ cmpL (bitsL (l.getD k default)) (bitsL (fstS l k)) < 0 then l.getD k default else fstS l k
def allF (n : Nat) (l : List Int) : Nat → Nat
  | 0 => 2 ^ n - 1
  | k + 1 => allF n l k &&& (l.getD k default).toNat
def somF (l : List Int) : Nat → Nat
  | 0 => 0
  | k + 1 => somF l k ||| (l.getD k default).toNat
section
variable {r : List RvT} {s k n : Nat} {l : List Int}
theorem corF_skip (h : pcS s > (corF r s).1 ∨ corS r s = false) : corF r (s + 1) = corF r s := by rw [corF, if_pos h]
theorem corF_new (h1 : ¬ pcS s > (corF r s).1) (h2 : corS r s = true) (h : pcS s < (corF r s).1) : corF r (s + 1) = (pcS s, [(s : Int)]) := by
  rw [corF, if_neg (by rintro (h3 | h3); exact h1 h3; rw [h2] at h3; cases h3), if_pos h]
theorem corF_more (h1 : ¬ pcS s > (corF r s).1) (h2 : corS r s = true) (h : ¬ pcS s < (corF r s).1) : corF r (s + 1) = ((corF r s).1, (corF r s).2 ++ [(s : Int)]) := by
  rw [corF, if_neg (by rintro (h3 | h3); exact h1 h3; rw [h2] at h3; cases h3), if_neg h]
theorem corF_le : ∀ s, (corF r s).1 ≤ r.length ∧ (corF r s).2.length ≤ s
  | 0 => ⟨Nat.le_refl _, Nat.le_refl _⟩
  | s + 1 => by
    have := corF_le s
    rw [corF]
    split
    · omega
    · split
      · simp only [List.length_singleton]; omega
      · simp only [List.length_append, List.length_singleton]; omega
theorem corF_mem : ∀ s, ∀ x ∈ (corF r s).2, 0 ≤ x ∧ x < s
  | 0, x, hx => by simp [corF] at hx
  | s + 1, x, hx => by
    have := corF_mem s
    rw [corF] at hx
    split at hx
    · have := this x hx; omega
    · split at hx
      · simp at hx; omega
      · simp at hx
        rcases hx with hx | hx
        · have := this x hx; omega
        · omega
theorem corL_mem (g : Good r) {x : Int} (h : x ∈ corL r) : 0 ≤ x ∧ x ≤ 511 := by
  have := corF_mem _ x h
  have := pow_bd g.n.2
  omega
theorem corL_len (g : Good r) : (corL r).length ≤ 512 := by
  have := (corF_le (r := r) (2 ^ r.length)).2
  have := pow_bd g.n.2
  unfold corL; omega
theorem corL_at (g : Good r) (hk : k < (corL r).length) : 0 ≤ (corL r).getD k default ∧ (corL r).getD k default ≤ 511 := corL_mem g (K.gt_mem hk)
theorem fst_bd (h : ∀ x ∈ l, 0 ≤ x ∧ x ≤ 511) : ∀ k, k ≤ l.length → 0 ≤ fstS l k ∧ fstS l k ≤ 511
  | 0, _ => by unfold fstS; omega
  | k + 1, hk => by
    have h1 := fst_bd h k (by omega)
    have h2 := h _ (K.gt_mem (show k < l.length by omega))
    unfold fstS
    split <;> omega
theorem all_bd (hn : n ≤ 9) : ∀ k, allF n l k ≤ 511
  | 0 => by have := pow_bd hn; unfold allF; omega
  | k + 1 => by
    have := all_bd hn k
    unfold allF
    have := Nat.and_le_left (n := allF n l k) (m := (l.getD k default).toNat)
    omega
theorem som_bd (h : ∀ x ∈ l, 0 ≤ x ∧ x ≤ 511) : ∀ k, k ≤ l.length → somF l k ≤ 511
  | 0, _ => by unfold somF; omega
  | k + 1, hk => by
    have h1 := som_bd h k (by omega)
    have h2 := h _ (K.gt_mem (show k < l.length by omega))
    unfold somF
    have : somF l k ||| (l.getD k default).toNat < 2 ^ 9 := Nat.or_lt_two_pow (by omega) (by omega)
    omega
end
/-! What Fewest and Must return. -/
def fewL (r : List RvT) : List Int := if (chk r).2.2 ≠ 0 then [] else bitsL (fstS (corL r) (corL r).length)
def mustL (r : List RvT) : List Int := if (chk r).2.2 ≠ 0 then [] else bitsL (allF r.length (corL r) (corL r).length : Nat)
def mayL (r : List RvT) : List Int := if (chk r).2.2 ≠ 0 then [] else bitsL (somF (corL r) (corL r).length : Nat)
end Go.Proofs.YtoemnobfnnjopaaDoor

/-
  The search for chains, as the program goes through it.
  No conditions but those in the theorems.
-/
namespace Go.Proofs.YtoemnobfnnjopaaDoor
open Go
abbrev StP := List Int × Int
/-- The chains, with an empty one behind them if it is asked for. -/
def chX (cs : List Int) (n : Nat) : List Int := if n = cs.length then cs ++ [0] else cs
def okP (r : List RvT) (i : Nat) (ch : Int) : Bool := !((bitsL ch).any fun k => !conS r i k.toNat)
/-- With the point in chain n. -/
def setX (cs : List Int) (n i : Nat) : List Int := (chX cs n).set n ((((chX cs n).getD n default).toNat ||| 2 ^ i : Nat) : Int)
def loopP (rec : List Int → List Int → StP → StP) (r : List RvT) (cs l : List Int) (st : StP) : Nat → StP
  | 0 => st
  | n + 1 => if okP r l.length ((chX cs n).getD n default) then rec (setX cs n l.length) (l ++ [(n : Int)]) (loopP rec r cs l st n) else loopP rec r cs l st n
def fillP (r : List RvT) : Nat → List Int → List Int → StP → StP
  | 0, cs, l, st => if st.2 ≤ cs.length then st else (l, cs.length)
  | f + 1, cs, l, st => if st.2 ≤ cs.length then st else if outS r l.length = true then fillP r f cs (l ++ [-1]) st else loopP (fillP r f) r cs l st (cs.length + 1)
/-- Chains of the first i points. -/
structure CsOk (cs : List Int) (i : Nat) : Prop where
  l : cs.length ≤ i
  b : ∀ x ∈ cs, 1 ≤ x ∧ x < 2 ^ i
section
variable {r : List RvT} {cs l : List Int} {st : StP} {n i f : Nat}
theorem fillP_cut (h : st.2 ≤ cs.length) : ∀ f, fillP r f cs l st = st
  | 0 => by rw [fillP, if_pos h]
  | f + 1 => by rw [fillP, if_pos h]
theorem fillP_end (h : ¬ st.2 ≤ cs.length) : fillP r 0 cs l st = (l, (cs.length : Int)) := by rw [fillP, if_neg h]
theorem fillP_out (h : ¬ st.2 ≤ cs.length) (ho : outS r l.length = true) : fillP r (f + 1) cs l st = fillP r f cs (l ++ [-1]) st := by rw [fillP, if_neg h, if_pos ho]
theorem fillP_loop (h : ¬ st.2 ≤ cs.length) (ho : outS r l.length = false) : fillP r (f + 1) cs l st = loopP (fillP r f) r cs l st (cs.length + 1) := by rw [fillP, if_neg h, if_neg (by rw [ho]; decide)]
theorem loopP_yes {rec : List Int → List Int → StP → StP} (h : okP r l.length ((chX cs n).getD n default) = true) : loopP rec r cs l st (n + 1) = rec (setX cs n l.length) (l ++ [(n : Int)]) (loopP rec r cs l st n) := by rw [loopP, if_pos h]
theorem loopP_no {rec : List Int → List Int → StP → StP} (h : okP r l.length ((chX cs n).getD n default) = false) : loopP rec r cs l st (n + 1) = loopP rec r cs l st n := by rw [loopP, if_neg (by rw [h]; decide)]
theorem pow_cast : ((2 ^ i : Nat) : Int) = 2 ^ i := by rw [Int.natCast_pow]; rfl
theorem CsOk.up (h : CsOk cs i) : CsOk cs (i + 1) := ⟨by have := h.l; omega, fun x hx => by have := h.b x hx; rw [Int.pow_succ]; omega⟩
theorem CsOk.nil : CsOk [] i := ⟨Nat.zero_le _, by simp⟩
theorem chX_len (hn : n ≤ cs.length) : (chX cs n).length = if n = cs.length then cs.length + 1 else cs.length := by
  unfold chX; split
  · rw [List.length_append]; rfl
  · rfl
theorem chX_lt (hn : n ≤ cs.length) : n < (chX cs n).length := by rw [chX_len hn]; split <;> omega
theorem chX_le (hn : n ≤ cs.length) : (chX cs n).length ≤ cs.length + 1 := by rw [chX_len hn]; split <;> omega
theorem chX_at (hn : n < cs.length) : (chX cs n).getD n default = cs.getD n default := by unfold chX; rw [if_neg (by omega)]
theorem chX_new (hn : n = cs.length) : (chX cs n).getD n default = 0 := by
  unfold chX; rw [if_pos hn, hn]
  simp [List.getD_eq_getElem?_getD]
theorem chX_bd (h : CsOk cs i) (hn : n ≤ cs.length) : 0 ≤ (chX cs n).getD n default ∧ (chX cs n).getD n default < 2 ^ i := by
  have h2 : (0 : Int) < 2 ^ i := by rw [← pow_cast]; have := Nat.two_pow_pos i; omega
  rcases Nat.lt_or_ge n cs.length with h1 | h1
  · rw [chX_at h1]; have := h.b _ (K.gt_mem h1); omega
  · rw [chX_new (by omega)]; omega
/-- Empty just if it is the new one. -/
theorem chX_zero (h : CsOk cs i) (hn : n ≤ cs.length) : (chX cs n).getD n default = 0 ↔ n = cs.length := by
  constructor
  · intro e
    rcases Nat.lt_or_ge n cs.length with h1 | h1
    · rw [chX_at h1] at e; have := h.b _ (K.gt_mem h1); omega
    · omega
  · exact chX_new
theorem chX_take (hn : n = cs.length) : (chX cs n).take n = cs := by unfold chX; rw [if_pos hn, hn, List.take_left]
theorem chX_old (hn : n < cs.length) : chX cs n = cs := by unfold chX; rw [if_neg (by omega)]
theorem setX_len : (setX cs n i).length = (chX cs n).length := by unfold setX; rw [List.length_set]
/-- The point is added to its chain. -/
theorem or_pow {a : Nat} (h : a < 2 ^ i) : a ||| 2 ^ i = a + 2 ^ i := by
  have := Nat.two_pow_add_eq_or_of_lt h 1
  rw [Nat.mul_one] at this
  rw [Nat.or_comm, ← this]; omega
theorem ch_nat (h : CsOk cs i) (hn : n ≤ cs.length) : ((chX cs n).getD n default).toNat < 2 ^ i := by
  have := chX_bd h hn
  have e := pow_cast (i := i)
  omega
theorem setX_new (hn : n = cs.length) : setX cs n i = cs ++ [((2 ^ i : Nat) : Int)] := by
  unfold setX
  rw [chX_new hn]
  unfold chX
  rw [if_pos hn, hn, List.set_append_right _ _ (Nat.le_refl _), Nat.sub_self]
  simp
theorem setX_old (hn : n < cs.length) : setX cs n i = cs.set n (((cs.getD n default).toNat ||| 2 ^ i : Nat) : Int) := by
  unfold setX
  rw [chX_at hn, chX_old hn]
theorem setX_ok (h : CsOk cs i) (hn : n ≤ cs.length) : CsOk (setX cs n i) (i + 1) := by
  have hp := pow_cast (i := i)
  have h2 := Nat.two_pow_pos i
  refine ⟨?_, fun x hx => ?_⟩
  · rw [setX_len]; have := chX_le hn; have := h.l; omega
  · rcases Nat.lt_or_ge n cs.length with h1 | h1
    · rw [setX_old h1] at hx
      rcases List.mem_or_eq_of_mem_set hx with hx | hx
      · have := h.b x hx; rw [Int.pow_succ]; omega
      · have h3 := ch_nat h hn
        rw [chX_at h1] at h3
        rw [hx, or_pow h3, Int.pow_succ, ← hp]
        omega
    · rw [setX_new (by omega)] at hx
      rcases List.mem_append.1 hx with hx | hx
      · have := h.b x hx; rw [Int.pow_succ]; omega
      · simp only [List.mem_singleton] at hx
        rw [hx, Int.pow_succ, ← hp]; omega
theorem setX_at (hn : n ≤ cs.length) : (setX cs n i).getD n default = ((((chX cs n).getD n default).toNat ||| 2 ^ i : Nat) : Int) := by
  have := chX_lt hn
  unfold setX
  simp [List.getD_eq_getElem?_getD, List.getElem?_set, this]
theorem setX_back (hn : n ≤ cs.length) : (setX cs n i).set n ((chX cs n).getD n default) = chX cs n := by
  have := chX_lt hn
  unfold setX
  rw [List.set_set]
  apply List.ext_getElem?
  intro j
  rw [List.getElem?_set]
  split
  · rename_i e
    subst e
    first
      | (rw [if_pos this, List.getD_eq_getElem?_getD, List.getElem?_eq_getElem this]; rfl)
      | (rw [List.getD_eq_getElem?_getD, List.getElem?_eq_getElem this]; rfl)
  · rfl
/-- The points of a chain come before. -/
theorem ch_bits {ch : Int} (h0 : 0 ≤ ch) (h : ch < 2 ^ i) {x : Int} (hx : x ∈ bitsL ch) : 0 ≤ x ∧ x < i := by
  unfold bitsL at hx
  obtain ⟨j, _, hb, rfl⟩ := mem_sel.1 hx
  refine ⟨by omega, ?_⟩
  by_cases hj : j < i
  · omega
  · have hp := pow_cast (i := i)
    have : ch.toNat < 2 ^ i := by omega
    have h2 : 2 ^ i ≤ 2 ^ j := Nat.pow_le_pow_right (by decide) (by omega)
    rw [Nat.testBit_lt_two_pow (by omega)] at hb
    cases hb
end
def anC (i c : Nat) : Bool := decide (c < 2 ^ i) == false || decide (IntKind.i64.wrap (BitVec.ofInt IntKind.i64.bits (((c ||| 2 ^ i : Nat) : Nat) : Int) &&& ~~~BitVec.ofInt IntKind.i64.bits ((2 ^ i : Nat) : Int)).toNat = (c : Int))
theorem an_0 : (List.range 9).all (fun i => (List.range 128).all fun c => anC i (c + 0)) = true := by decide +kernel
theorem an_1 : (List.range 9).all (fun i => (List.range 128).all fun c => anC i (c + 128)) = true := by decide +kernel
theorem an_2 : (List.range 9).all (fun i => (List.range 128).all fun c => anC i (c + 256)) = true := by decide +kernel
theorem an_3 : (List.range 9).all (fun i => (List.range 128).all fun c => anC i (c + 384)) = true := by decide +kernel
theorem andnot_val {i c : Nat} (hi : i < 9) (hc : c < 2 ^ i) : IntKind.i64.wrap (BitVec.ofInt IntKind.i64.bits (((c ||| 2 ^ i : Nat) : Nat) : Int) &&& ~~~BitVec.ofInt IntKind.i64.bits ((2 ^ i : Nat) : Int)).toNat = (c : Int) := by
  have h9 : c < 512 := by
    have : 2 ^ i ≤ 2 ^ 9 := Nat.pow_le_pow_right (by decide) (by omega)
    omega
  have key : ∀ m, (List.range 9).all (fun i => (List.range 128).all fun c => anC i (c + m)) = true → m ≤ c → c < m + 128 → anC i c = true := fun m h h1 h2 => by
    have := List.all_eq_true.1 (List.all_eq_true.1 h i (List.mem_range.2 hi)) (c - m) (List.mem_range.2 (by omega))
    rwa [show c - m + m = c by omega] at this
  have h : anC i c = true := by
    rcases (show c < 128 ∨ (128 ≤ c ∧ c < 256) ∨ (256 ≤ c ∧ c < 384) ∨ 384 ≤ c by omega) with h | h | h | h
    · exact key 0 an_0 (by omega) (by omega)
    · exact key 128 an_1 (by omega) (by omega)
    · exact key 256 an_2 (by omega) (by omega)
    · exact key 384 an_3 (by omega) (by omega)
  unfold anC at h
  rw [decide_eq_true hc] at h
  simpa using h
/-! What Proof returns. -/
def prfS (r : List RvT) : StP := fillP r r.length [] [] ([], (r.length : Int) + 1)
def prfL (r : List RvT) : List Int := if (chk r).2.2 ≠ 0 then [] else (prfS r).1
end Go.Proofs.YtoemnobfnnjopaaDoor
