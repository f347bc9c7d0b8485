/-
  Plain lemmas and plain functions, several texts joined.
  Conditions stand in each theorem.
-/
import Derived.Test.YtoemnobfnnjopaaDoorSU
set_option linter.unusedSimpArgs false
set_option linter.unusedVariables false
/-
  Fewest and Must: heights between those that are kept; what other corrections have.
  No conditions but those in the theorems.
-/
namespace Go.Proofs.YtoemnobfnnjopaaDoor
open Go
/-- The greatest height that the first k points ask of a point, if those of a list have none. -/
def hF (r : List RvT) (l : List Int) (i : Nat) : Nat → Int
  | 0 => 0
  | k + 1 => if 0 ≤ drp r i k then max (hF r l i k) ((if (k : Int) ∈ l then 0 else (r.getD k default).ht) + drp r i k) else hF r l i k
/-- Heights, as they are worked out. -/
def hP (r : List RvT) (l : List Int) (i k : Nat) : List Int := (List.range r.length).map fun j => if j < i then hF r l j r.length else if j = i then hF r l i k else 0
section
variable {r : List RvT} {l : List Int} {i k n t m : Nat} {h : List Int} {p : Nat → Bool}
theorem hP_len : (hP r l i k).length = r.length := by unfold hP; rw [List.length_map, List.length_range]
theorem hP_at {j : Nat} (hj : j < r.length) : (hP r l i k).getD j default = if j < i then hF r l j r.length else if j = i then hF r l i k else 0 := map_at hj
theorem hP_0 : hP r l 0 0 = List.replicate r.length 0 := by
  unfold hP
  apply List.ext_getElem (by simp)
  intro j h1 h2
  simp only [List.getElem_map, List.getElem_range, List.getElem_replicate]
  rw [if_neg (Nat.not_lt_zero _)]
  split <;> rfl
theorem hP_next (hi : i < r.length) : hP r l i r.length = hP r l (i + 1) 0 := by
  unfold hP
  refine List.map_congr_left fun j _ => ?_
  by_cases h1 : j < i
  · rw [if_pos h1, if_pos (by omega)]
  · rw [if_neg h1]
    by_cases h2 : j = i
    · subst h2; rw [if_pos rfl, if_pos (by omega)]
    · rw [if_neg h2, if_neg (by omega)]
      split <;> rfl
theorem hP_set (hi : i < r.length) : (hP r l i k).set i (hF r l i (k + 1)) = hP r l i (k + 1) := by
  refine list_ext (by rw [List.length_set, hP_len, hP_len]) (fun j hj => ?_)
  rw [List.length_set, hP_len] at hj
  rw [set_at (by rw [hP_len]; exact hi), hP_at hj, hP_at hj]
  by_cases e : i = j
  · subst e; rw [if_pos rfl, if_neg (Nat.lt_irrefl _), if_pos rfl]
  · rw [if_neg e]
    by_cases h1 : j < i
    · rw [if_pos h1, if_pos h1]
    · rw [if_neg h1, if_neg h1, if_neg (fun e2 => e e2.symm), if_neg (fun e2 => e e2.symm)]
theorem hF_bd (g : Good r) (hi : i < r.length) : ∀ k, k ≤ r.length → 0 ≤ hF r l i k ∧ hF r l i k ≤ 13500
  | 0, _ => by unfold hF; omega
  | k + 1, hk => by
    have := hF_bd g hi k (by omega)
    have := g.p k (by omega)
    have := drp_bd (k := k) g hi
    unfold hF
    split
    · split <;> omega
    · omega
theorem mem_bits {s : Nat} {x : Int} : x ∈ bitsL (s : Int) ↔ ∃ i, i < 9 ∧ s.testBit i = true ∧ x = (i : Int) := by
  unfold bitsL; rw [Int.toNat_natCast]; exact mem_sel
theorem bit_in {s k : Nat} (hk : k < 9) : (k : Int) ∈ bitsL (s : Int) ↔ s.testBit k = true := by
  rw [mem_bits]
  constructor
  · rintro ⟨i, _, h, e⟩
    rwa [show k = i by omega]
  · intro h; exact ⟨k, hk, h, rfl⟩
/-- They are those that the kept heights fill. -/
theorem hF_fill (g : Good r) (e : l = bitsL (t : Int)) (hi : i < r.length) : hF r l i r.length = fillF r (keepH r t) i r.length := by
  have hn := g.n.2
  have hown : ∀ k, k < r.length → (if (k : Int) ∈ l then 0 else (r.getD k default).ht) = (keepH r t).getD k default := fun k hk => by
    rw [keep_at hk, e]
    by_cases hb : t.testBit k = true
    · rw [if_pos ((bit_in (by omega)).2 hb), if_pos hb]
    · rw [if_neg (fun h => hb ((bit_in (by omega)).1 h)), if_neg hb]
  have hf0 : 0 ≤ (keepH r t).getD i default := by
    rw [keep_at hi]
    have := g.p i hi
    split <;> omega
  have key : ∀ k, k ≤ r.length → max (hF r l i k) ((keepH r t).getD i default) = fillF r (keepH r t) i k := by
    intro k
    induction k with
    | zero => intro _; unfold hF fillF; simp only [List.range_zero, List.foldl_nil]; omega
    | succ k ih =>
      intro hk
      have ih := ih (by omega)
      rw [fill_s, hF, hown k (by omega)]
      split <;> omega
  have hge : ∀ k, k ≤ r.length → i < k → (keepH r t).getD i default ≤ hF r l i k := by
    intro k
    induction k with
    | zero => intro _ h; exact absurd h (Nat.not_lt_zero _)
    | succ k ih =>
      intro hk hik
      rw [hF, hown k (by omega)]
      rcases Nat.lt_or_ge i k with h1 | h1
      · have := ih (by omega) h1
        split <;> omega
      · have : k = i := by omega
        subst this
        rw [if_pos (by rw [drp_0 g hi]; omega), drp_0 g hi]; omega
  have h1 := key r.length (Nat.le_refl _)
  have h2 := hge r.length (Nat.le_refl _) hi
  omega
theorem hP_fill (g : Good r) (e : l = bitsL (t : Int)) : hP r l r.length 0 = fillS r (keepH r t) := by
  refine list_ext (by rw [hP_len, fill_len]) (fun j hj => ?_)
  rw [hP_len] at hj
  rw [hP_at hj, if_pos hj, fill_at hj, hF_fill g e hj]
/-- With Height of the points that are not in the list, all runs down. -/
theorem few_runs (hc : (chk r).2.2 = 0) : Runs r (hP r (fewL r) r.length 0) ∧ ∀ i, i < r.length → ¬ (i : Int) ∈ fewL r → hF r (fewL r) i r.length = (r.getD i default).ht := by
  have g := chk_good hc
  have hn := g.n.2
  have e := (few_L hc).1
  obtain ⟨h1, h2⟩ := cor_to g (few_is g).2.1
  rw [hP_fill g e]
  refine ⟨h1, fun i hi hni => ?_⟩
  rw [hF_fill g e hi, ← fill_at hi]
  refine h2 i hi ?_
  rw [e] at hni
  cases hb : (fewN r).testBit i with
  | false => rfl
  | true => exact absurd ((bit_in (by omega)).2 hb) hni
/-! Ascending lists. -/
theorem sel_at {i : Nat} (hi : i < (selN p n).length) : 0 ≤ (selN p n).getD i default ∧ (selN p n).getD i default < (n : Int) := by
  obtain ⟨j, hj, _, e⟩ := mem_sel.1 (K.gt_mem hi)
  omega
theorem sel_up : ∀ {n i : Nat}, i + 1 < (selN p n).length → (selN p n).getD i default < (selN p n).getD (i + 1) default
  | 0, i, hi => by simp [selN] at hi
  | n + 1, i, hi => by
    cases hp : p n with
    | false => rw [selN_no hp] at hi ⊢; exact sel_up hi
    | true =>
      rw [selN_yes hp] at hi ⊢
      rw [List.length_append, List.length_singleton] at hi
      rw [snoc_at (by omega)]
      rcases Nat.lt_or_ge (i + 1) (selN p n).length with h1 | h1
      · rw [snoc_at h1]; exact sel_up h1
      · have e := snoc_end (l := selN p n) (y := (n : Int))
        rw [show i + 1 = (selN p n).length by omega, e]
        exact (sel_at (by omega)).2
theorem bits_n {s : Nat} (hn : n ≤ 9) (hs : s < 2 ^ n) : bitsL (s : Int) = selN (fun i => s.testBit i) n := by
  unfold bitsL
  rw [Int.toNat_natCast]
  exact sel_cut (fun i hi => Nat.testBit_lt_two_pow (Nat.lt_of_lt_of_le hs (Nat.pow_le_pow_right (by decide) hi))) hn
theorem all_lt : ∀ k, allF n l k < 2 ^ n
  | 0 => by have := Nat.two_pow_pos n; unfold allF; omega
  | k + 1 => by
    have := all_lt k
    unfold allF
    have := Nat.and_le_left (n := allF n l k) (m := (l.getD k default).toNat)
    omega
theorem som_lt (h : ∀ x ∈ l, x.toNat < 2 ^ n) : ∀ k, k ≤ l.length → somF l k < 2 ^ n
  | 0, _ => by have := Nat.two_pow_pos n; unfold somF; omega
  | k + 1, hk => by
    unfold somF
    exact Nat.or_lt_two_pow (som_lt h k (by omega)) (h _ (K.gt_mem hk))
theorem all_bit : ∀ k, k ≤ l.length → ∀ i, (allF n l k).testBit i = true → i < n ∧ ∀ j, j < k → (l.getD j default).toNat.testBit i = true
  | 0, _, i, hb => by
    unfold allF at hb
    rw [Nat.testBit_two_pow_sub_one] at hb
    exact ⟨of_decide_eq_true hb, fun j hj => absurd hj (Nat.not_lt_zero _)⟩
  | k + 1, hk, i, hb => by
    unfold allF at hb
    rw [Nat.testBit_and, Bool.and_eq_true] at hb
    obtain ⟨h1, h2⟩ := all_bit k (by omega) i hb.1
    exact ⟨h1, K.lt_succ_case h2 hb.2⟩
theorem som_bit {j : Nat} : ∀ k, j < k → k ≤ l.length → ∀ i, (l.getD j default).toNat.testBit i = true → (somF l k).testBit i = true
  | 0, hj, _, _, _ => absurd hj (Nat.not_lt_zero _)
  | k + 1, hj, hk, i, hb => by
    unfold somF
    rw [Nat.testBit_or, Bool.or_eq_true]
    rcases Nat.lt_or_ge j k with h1 | h1
    · exact .inl (som_bit k h1 (by omega) i hb)
    · rw [show k = j by omega]; exact .inr hb
/-- Where a correction with the fewest points stands. -/
theorem cor_at {s : Nat} (h : (s : Int) ∈ corL r) : ∃ j, j < (corL r).length ∧ ((corL r).getD j default).toNat = s := by
  obtain ⟨j, hj, e⟩ := List.mem_iff_getElem.1 h
  refine ⟨j, hj, ?_⟩
  rw [List.getD_eq_getElem?_getD, List.getElem?_eq_getElem hj]
  show ((corL r)[j]).toNat = s
  rw [e]; rfl
theorem few_mem (g : Good r) : (fewN r : Int) ∈ corL r := ((few_min g (few_is g).1 (few_is g).2.1).2).2 rfl
theorem must_in (hc : (chk r).2.2 = 0) {x : Int} {s : Nat} (hx : x ∈ mustL r) (hs : (s : Int) ∈ corL r) : ∃ i, i < r.length ∧ x = (i : Int) ∧ s.testBit i = true := by
  unfold mustL at hx
  rw [if_neg (by omega)] at hx
  obtain ⟨i, _, hb, rfl⟩ := mem_bits.1 hx
  obtain ⟨h1, h2⟩ := all_bit _ (Nat.le_refl _) i hb
  obtain ⟨j, hj, e⟩ := cor_at hs
  have := h2 j hj
  rw [e] at this
  exact ⟨i, h1, rfl, this⟩
theorem may_of (hc : (chk r).2.2 = 0) {s : Nat} (hi : i < r.length) (hb : s.testBit i = true) (hs : (s : Int) ∈ corL r) : (i : Int) ∈ mayL r := by
  have g := chk_good hc
  have hn := g.n.2
  unfold mayL
  rw [if_neg (by omega)]
  obtain ⟨j, hj, e⟩ := cor_at hs
  exact (bit_in (by omega)).2 (som_bit _ hj (Nat.le_refl _) i (by rw [e]; exact hb))
theorem must_few (hc : (chk r).2.2 = 0) {x : Int} (hx : x ∈ mustL r) : x ∈ fewL r ∧ x ∈ mayL r := by
  have g := chk_good hc
  have hn := g.n.2
  obtain ⟨i, hi, rfl, hb⟩ := must_in hc hx (few_mem g)
  rw [(few_L hc).1]
  exact ⟨(bit_in (by omega)).2 hb, may_of hc hi hb (few_mem g)⟩
/-- Points of others, that are not kept, or not all kept. -/
def othB (r : List RvT) (h : List Int) (b i : Nat) : Bool := b.testBit i || decide (h.getD i default ≠ (r.getD i default).ht)
theorem oth_cor {b : Nat} (hc : (chk r).2.2 = 0) (R : Runs r h) : (fewL r).length ≤ (selN (othB r h b) r.length).length ∧ ((selN (othB r h b) r.length).length = (fewL r).length → (∀ x ∈ mustL r, x ∈ selN (othB r h b) r.length) ∧ ∀ x ∈ selN (othB r h b) r.length, x ∈ mayL r) := by
  have g := chk_good hc
  have hn := g.n.2
  have hlt := msk_lt (p := othB r h b) r.length
  have hbit : ∀ i, i < r.length → (mskN (othB r h b) r.length).testBit i = othB r h b i := fun i hi => by rw [msk_bit, decide_eq_true hi, Bool.true_and]
  have hpc : pcS (mskN (othB r h b) r.length) = (selN (othB r h b) r.length).length := by
    unfold pcS
    rw [bits_n hn hlt, selN_congr hbit]
  have hcor : corS r (mskN (othB r h b) r.length) = true := cor_of g R (fun i hi hb => by
    rw [hbit i hi] at hb
    unfold othB at hb
    rw [Bool.or_eq_false_iff] at hb
    have := of_decide_eq_false hb.2
    exact Decidable.not_not.1 this)
  obtain ⟨h1, h2⟩ := few_min g hlt hcor
  rw [(few_L hc).2, ← hpc]
  refine ⟨h1, fun e => ?_⟩
  have hm := h2.2 e
  refine ⟨fun x hx => ?_, fun x hx => ?_⟩
  · obtain ⟨i, hi, rfl, hb⟩ := must_in hc hx hm
    exact mem_sel.2 ⟨i, hi, by rw [← hbit i hi]; exact hb, rfl⟩
  · obtain ⟨i, hi, hb, rfl⟩ := mem_sel.1 hx
    exact may_of hc hi (by rw [hbit i hi]; exact hb) hm
theorem few_lens (hc : (chk r).2.2 = 0) : fewL r = selN (fun i => (fewN r).testBit i) r.length ∧ mustL r = selN (fun i => (allF r.length (corL r) (corL r).length).testBit i) r.length ∧ mayL r = selN (fun i => (somF (corL r) (corL r).length).testBit i) r.length := by
  have g := chk_good hc
  have hn := g.n.2
  refine ⟨?_, ?_, ?_⟩
  · rw [(few_L hc).1, bits_n hn (few_is g).1]
  · unfold mustL; rw [if_neg (by omega), bits_n hn (all_lt _)]
  · unfold mayL
    rw [if_neg (by omega), bits_n hn (som_lt (fun x hx => ?_) _ (Nat.le_refl _))]
    have hb := corL_mem g hx
    have e : x = ((x.toNat : Nat) : Int) := by omega
    rw [e] at hx
    exact ((corF_spec (r := r) (2 ^ r.length)).2 _).1 hx |>.1
theorem sh_bit {b i : Nat} (hi : i < 16) : decide (((((b : Nat) : Int).fdiv (2 ^ min (Int.toNat ((i : Nat) : Int)) IntKind.i64.bits)) % 2) = 1) = b.testBit i := by
  rw [Int.toNat_natCast, Nat.min_eq_left (show i ≤ IntKind.i64.bits by show i ≤ 64; omega)]
  have e : ((2 : Int) ^ i) = ((2 ^ i : Nat) : Int) := by rw [Int.natCast_pow]; rfl
  rw [e, fdiv_nat, Nat.testBit_eq_decide_div_mod_eq]
  rw [Bool.eq_iff_iff, decide_eq_true_iff, decide_eq_true_iff]
  omega
theorem sh_nn {b i : Nat} : 0 ≤ ((b : Nat) : Int).fdiv (2 ^ min (Int.toNat ((i : Nat) : Int)) IntKind.i64.bits) := by
  have e : ((2 : Int) ^ min (Int.toNat ((i : Nat) : Int)) IntKind.i64.bits) = ((2 ^ min (Int.toNat ((i : Nat) : Int)) IntKind.i64.bits : Nat) : Int) := by rw [Int.natCast_pow]; rfl
  rw [e, fdiv_nat]; exact Int.natCast_nonneg _
end
end Go.Proofs.YtoemnobfnnjopaaDoor
