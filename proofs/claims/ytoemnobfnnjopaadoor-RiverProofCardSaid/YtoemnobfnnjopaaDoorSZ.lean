/-
  Plain lemmas and plain functions, several texts joined.
  Conditions stand in each theorem.
-/
import Derived.Test.YtoemnobfnnjopaaDoorSY
set_option linter.unusedSimpArgs false
set_option linter.unusedVariables false
/-
  Corrections, and heights that run down and keep what is not corrected; those with the fewest points.
  No conditions but those in the theorems.
-/
namespace Go.Proofs.YtoemnobfnnjopaaDoor
open Go
section
variable {p q : Nat → Bool} {n m a : Nat}
theorem sel_le : ∀ {n : Nat}, (∀ i, i < n → p i = true → q i = true) → (selN p n).length ≤ (selN q n).length
  | 0, _ => Nat.le_refl _
  | n + 1, h => by
    have := sel_le (n := n) (fun i hi => h i (by omega))
    have h1 := h n (by omega)
    rw [selN_succ, selN_succ, List.length_append, List.length_append]
    by_cases h2 : p n = true
    · rw [if_pos h2, if_pos (h1 h2)]; simp only [List.length_singleton]; omega
    · rw [if_neg h2]; simp only [List.length_nil]; omega
theorem sel_one : ∀ {n : Nat}, (∀ i, i < n → q i = true → p i = true ∨ i = a) → (selN q n).length ≤ (selN p n).length + (if a < n then 1 else 0)
  | 0, _ => Nat.zero_le _
  | n + 1, h => by
    have h0 := sel_one (n := n) (fun i hi => h i (by omega))
    have h1 := h n (by omega)
    rw [selN_succ, selN_succ, List.length_append, List.length_append]
    by_cases h2 : q n = true
    · rw [if_pos h2]
      simp only [List.length_singleton]
      rcases h1 h2 with h3 | h3
      · rw [if_pos h3]; simp only [List.length_singleton]
        split at h0 <;> split <;> omega
      · rw [if_neg (show ¬ a < n by omega)] at h0
        rw [if_pos (show a < n + 1 by omega)]
        omega
    · rw [if_neg h2]; simp only [List.length_nil]
      generalize (if p n = true then [(n : Int)] else []).length = z
      split at h0 <;> split <;> omega
theorem sel_cut (h : ∀ i, n ≤ i → p i = false) : ∀ {m : Nat}, n ≤ m → selN p m = selN p n
  | 0, hm => by rw [show n = 0 by omega]
  | m + 1, hm => by
    rcases Nat.lt_or_ge m n with h1 | h1
    · rw [show n = m + 1 by omega]
    · rw [selN_no (h m h1), sel_cut h h1]
/-- A set of points, from what is asked of each. -/
def mskN (p : Nat → Bool) : Nat → Nat
  | 0 => 0
  | n + 1 => mskN p n ||| (if p n then 2 ^ n else 0)
theorem msk_lt : ∀ n, mskN p n < 2 ^ n
  | 0 => by simp [mskN]
  | n + 1 => by
    have h1 := msk_lt n
    have h2 : 2 ^ (n + 1) = 2 ^ n + 2 ^ n := by rw [Nat.pow_succ]; omega
    have h3 := Nat.two_pow_pos n
    unfold mskN
    refine Nat.or_lt_two_pow (by omega) ?_
    split <;> omega
theorem msk_bit : ∀ n i, (mskN p n).testBit i = (decide (i < n) && p i)
  | 0, i => by simp [mskN]
  | n + 1, i => by
    unfold mskN
    rw [Nat.testBit_or, msk_bit n i]
    by_cases h1 : i < n
    · have : (if p n = true then 2 ^ n else 0).testBit i = false := by
        split
        · rw [Nat.testBit_two_pow]; exact decide_eq_false (by omega)
        · exact Nat.zero_testBit i
      rw [this, decide_eq_true h1, decide_eq_true (show i < n + 1 by omega), Bool.or_false]
    · rw [decide_eq_false h1, Bool.false_and, Bool.false_or]
      by_cases h2 : i = n
      · subst h2
        rw [decide_eq_true (show i < i + 1 by omega), Bool.true_and]
        cases h3 : p i with
        | true => rw [if_pos rfl, Nat.testBit_two_pow]; exact decide_eq_true rfl
        | false => rw [if_neg (by decide)]; exact Nat.zero_testBit i
      · rw [decide_eq_false (show ¬ i < n + 1 by omega), Bool.false_and]
        split
        · rw [Nat.testBit_two_pow]; exact decide_eq_false (by omega)
        · exact Nat.zero_testBit i
end
section
variable {r s : List RvT} {h : List Int} {i k t n : Nat}
theorem pc_bits {t : Nat} : pcS t = (selN (fun i => t.testBit i) 9).length := by unfold pcS bitsL; rw [Int.toNat_natCast]
theorem pc_le (hn : n ≤ 9) (ht : t < 2 ^ n) : pcS t ≤ n := by
  rw [pc_bits, sel_cut (n := n) (fun i hi => ?_) hn]
  · exact selN_len
  · exact Nat.testBit_lt_two_pow (Nat.lt_of_lt_of_le ht (Nat.pow_le_pow_right (by decide) hi))
theorem con_f (g : Good r) (hi : i < r.length) (hk : k < r.length) (h1 : bl r i k → DM r i - DM r k ≤ (r.getD i default).ht - (r.getD k default).ht) (h2 : bl r k i → DM r k - DM r i ≤ (r.getD k default).ht - (r.getD i default).ht) : conS r i k = false := by
  unfold conS
  by_cases hb : bl r i k
  · have e := drp_bl g hi hb
    have := (drp_ge g hi).2 hb
    have := h1 hb
    rw [if_neg (by omega)]
    exact decide_eq_false (by omega)
  · rw [if_pos (drp_no g hi hb)]
    by_cases hb2 : bl r k i
    · have e := drp_bl g hk hb2
      have := h2 hb2
      rw [decide_eq_false (show ¬ ((r.getD k default).ht - (r.getD i default).ht < drp r k i) by omega), Bool.and_false]
    · rw [drp_no g hk hb2]; rfl
theorem con_n1 (g : Good r) (hi : i < r.length) (h : conS r i k = false) (hb : bl r i k) : DM r i - DM r k ≤ (r.getD i default).ht - (r.getD k default).ht := by
  have := (drp_ge g hi).2 hb
  unfold conS at h
  rw [if_neg (by omega)] at h
  have := of_decide_eq_false h
  rw [drp_bl g hi hb] at this; omega
theorem con_n2 (g : Good r) (hi : i < r.length) (hk : k < r.length) (hne : i ≠ k) (h : conS r i k = false) (hb : bl r k i) : DM r k - DM r i ≤ (r.getD k default).ht - (r.getD i default).ht := by
  have hn : ¬ bl r i k := fun hb2 => hne (bl_two g hi hk hb2 hb)
  have h1 := (drp_ge g hk).2 hb
  unfold conS at h
  rw [if_pos (drp_no g hi hn), decide_eq_true (show drp r k i ≠ -1 by omega), Bool.true_and] at h
  have := of_decide_eq_false h
  rw [drp_bl g hk hb] at this; omega
/-- Points that keep their heights, in heights that run down. -/
theorem keep_out (g : Good r) (R : Runs r h) (hi : i < r.length) (e : h.getD i default = (r.getD i default).ht) : outS r i = false := by
  refine out_f fun k hk => ⟨fun h1 => ?_, fun h1 => ?_⟩
  · have hp := g.p i hi
    have hb := (drp_ge (k := k) g hi).1 (by omega)
    have := R.fall g hi hb
    have := R.b k hk
    rw [drp_bl g hi hb] at h1; omega
  · have hp := g.p i hi
    have hb := (drp_ge (k := i) g hk).1 (by omega)
    have := R.fall g hk hb
    have := R.b k hk
    rw [drp_bl g hk hb] at h1; omega
theorem keep_con (g : Good r) (R : Runs r h) (hi : i < r.length) (hk : k < r.length) (e : h.getD i default = (r.getD i default).ht) (e2 : h.getD k default = (r.getD k default).ht) : conS r i k = false :=
  con_f g hi hk (fun hb => by have := R.fall g hi hb; omega) (fun hb => by have := R.fall g hk hb; omega)
theorem cor_of (g : Good r) (R : Runs r h) (hs : ∀ i, i < r.length → t.testBit i = false → h.getD i default = (r.getD i default).ht) : corS r t = true := by
  refine cor_t fun i hi => ?_
  cases hb : t.testBit i with
  | true => exact cor_in1 hb
  | false =>
    refine cor_in2 (keep_out g R hi (hs i hi hb)) fun k hk => ?_
    unfold corAt
    cases hb2 : t.testBit k with
    | true => rfl
    | false => rw [keep_con g R hi (by omega) (hs i hi hb) (hs k (by omega) hb2)]; rfl
/-- The heights that are kept; the others are nothing. -/
def keepH (r : List RvT) (t : Nat) : List Int := (List.range r.length).map fun i => if t.testBit i then 0 else (r.getD i default).ht
theorem keep_at (hi : i < r.length) : (keepH r t).getD i default = if t.testBit i then 0 else (r.getD i default).ht := map_at hi
theorem keep_len : (keepH r t).length = r.length := by unfold keepH; rw [List.length_map, List.length_range]
theorem cor_parts (hc : corS r t = true) (hi : i < r.length) (hb : t.testBit i = false) : outS r i = false ∧ ∀ k, k < i → t.testBit k = false → conS r i k = false := by
  refine ⟨?_, fun k hk hb2 => ?_⟩
  · cases e : outS r i with
    | false => rfl
    | true => rw [cor_f hi hb e] at hc; cases hc
  · cases e : conS r i k with
    | false => rfl
    | true => rw [cor_f2 hi hk hb hb2 e] at hc; cases hc
theorem out_no (h : outS r i = false) (hk : k < r.length) : drp r i k ≤ (r.getD i default).ht ∧ drp r k i ≤ 9000 - (r.getD i default).ht := by
  refine ⟨Int.not_lt.1 fun h1 => ?_, Int.not_lt.1 fun h1 => ?_⟩
  · rw [out_t hk (.inl h1)] at h; cases h
  · rw [out_t hk (.inr h1)] at h; cases h
/-- A correction: there are heights that run down and keep the others. -/
theorem cor_to (g : Good r) (hc : corS r t = true) : Runs r (fillS r (keepH r t)) ∧ ∀ i, i < r.length → t.testBit i = false → (fillS r (keepH r t)).getD i default = (r.getD i default).ht := by
  have hp := g.p
  refine ⟨fill_runs g keep_len (fun i hi => ?_) (fun i hi => ?_), fun i hi hb => ?_⟩
  · rw [keep_at hi]; have := hp i hi; split <;> omega
  · refine fill_le (by rw [keep_at hi]; have := hp i hi; split <;> omega) (fun k hk => ?_) _
    have hkl := drp_lt g hi hk
    have hb := drp_bd (k := k) g hi
    rw [keep_at hkl]
    split
    · omega
    · rename_i hb2
      have := (out_no (cor_parts hc hkl (by simpa using hb2)).1 hi).2
      omega
  · rw [fill_at hi]
    refine Int.le_antisymm (fill_le ?_ (fun k hk => ?_) _) ?_
    · rw [keep_at hi, hb]; exact Int.le_refl _
    · have hkl := drp_lt g hi hk
      rw [keep_at hkl]
      split
      · have := (out_no (cor_parts hc hi hb).1 hkl).1; omega
      · rename_i hb2
        have hb2 : t.testBit k = false := by simpa using hb2
        have hbl := (drp_ge g hi).1 hk
        rw [drp_bl g hi hbl]
        rcases Nat.lt_trichotomy k i with h1 | h1 | h1
        · have := con_n1 g hi ((cor_parts hc hi hb).2 k h1 hb2) hbl; omega
        · subst h1; omega
        · have := con_n2 g hkl hi (by omega) ((cor_parts hc hkl hb2).2 i h1 hb) hbl; omega
    · have := fill_ge0 (r := r) (h := keepH r t) (i := i) r.length
      rw [keep_at hi, hb] at this
      exact this
/-! The corrections with the fewest points. -/
theorem corF_spec : ∀ n, (∀ t, t < n → corS r t = true → (corF r n).1 ≤ pcS t) ∧ ∀ t : Nat, (t : Int) ∈ (corF r n).2 ↔ t < n ∧ corS r t = true ∧ pcS t = (corF r n).1
  | 0 => ⟨fun t h => absurd h (Nat.not_lt_zero _), fun t => ⟨fun h => by simp [corF] at h, fun h => absurd h.1 (Nat.not_lt_zero _)⟩⟩
  | n + 1 => by
    obtain ⟨h1, h2⟩ := corF_spec n
    by_cases hs : pcS n > (corF r n).1 ∨ corS r n = false
    · rw [corF_skip hs]
      refine ⟨fun t ht hc => ?_, fun t => (h2 t).trans ⟨fun h => ⟨by omega, h.2⟩, fun h => ⟨?_, h.2⟩⟩⟩
      · by_cases e : t = n
        · subst e
          rcases hs with hs | hs
          · omega
          · rw [hs] at hc; cases hc
        · exact h1 t (by omega) hc
      · by_cases e : t = n
        · subst e
          rcases hs with hs | hs
          · omega
          · rw [hs] at h; cases h.2.1
        · omega
    · have ha : ¬ pcS n > (corF r n).1 := fun h => hs (.inl h)
      have hb : corS r n = true := by
        cases e : corS r n with
        | true => rfl
        | false => exact absurd (.inr e) hs
      by_cases hl : pcS n < (corF r n).1
      · rw [corF_new ha hb hl]
        refine ⟨fun t ht hc => ?_, fun t => ⟨fun h => ?_, fun h => ?_⟩⟩
        · show pcS n ≤ pcS t
          by_cases e : t = n
          · subst e; omega
          · have := h1 t (by omega) hc; omega
        · have : t = n := by have := List.mem_singleton.1 h; omega
          subst this; exact ⟨by omega, hb, rfl⟩
        · have h3 : pcS t = pcS n := h.2.2
          have : t = n := by
            by_cases e : t = n
            · exact e
            · have := h1 t (by omega) h.2.1; omega
          subst this; simp
      · rw [corF_more ha hb hl]
        refine ⟨fun t ht hc => ?_, fun t => ⟨fun h => ?_, fun h => ?_⟩⟩
        · show (corF r n).1 ≤ pcS t
          by_cases e : t = n
          · subst e; omega
          · exact h1 t (by omega) hc
        · rcases List.mem_append.1 h with h | h
          · have := (h2 t).1 h; exact ⟨by omega, this.2⟩
          · have : t = n := by have := List.mem_singleton.1 h; omega
            subst this; exact ⟨by omega, hb, by show _ = (corF r t).1; omega⟩
        · show _ ∈ (corF r n).2 ++ [(n : Int)]
          by_cases e : t = n
          · subst e; simp
          · exact List.mem_append_left _ ((h2 t).2 ⟨by omega, h.2⟩)
theorem fst_mem {l : List Int} : ∀ k, 0 < k → k ≤ l.length → fstS l k ∈ l
  | 0, h, _ => absurd h (Nat.lt_irrefl _)
  | k + 1, _, hk => by
    have hm := K.gt_mem (show k < l.length by omega)
    unfold fstS
    split
    · exact hm
    · rename_i h
      exact fst_mem k (Nat.pos_of_ne_zero fun e => h (.inl e)) (by omega)
theorem cor_full (g : Good r) : corS r (2 ^ r.length - 1) = true := cor_t fun i hi => cor_in1 (by rw [Nat.testBit_two_pow_sub_one]; exact decide_eq_true hi)
/-- The correction that Fewest names. -/
def fewN (r : List RvT) : Nat := (fstS (corL r) (corL r).length).toNat
theorem few_is (g : Good r) : fewN r < 2 ^ r.length ∧ corS r (fewN r) = true ∧ pcS (fewN r) = (corF r (2 ^ r.length)).1 ∧ fstS (corL r) (corL r).length = (fewN r : Int) := by
  obtain ⟨h1, h2⟩ := corF_spec (r := r) (2 ^ r.length)
  have hf := cor_full g
  have hp := Nat.two_pow_pos r.length
  have hne : 0 < (corL r).length := by
    rcases Nat.eq_zero_or_pos (corL r).length with h0 | h0
    · exfalso
      have hle := (corF_le (r := r) (2 ^ r.length)).1
      have hm := h1 _ (by omega) hf
      have hpl := pc_le g.n.2 (show 2 ^ r.length - 1 < 2 ^ r.length by omega)
      have hnil : corL r = [] := List.eq_nil_of_length_eq_zero h0
      by_cases e : pcS (2 ^ r.length - 1) = (corF r (2 ^ r.length)).1
      · have := (h2 _).2 ⟨by omega, hf, e⟩
        unfold corL at hnil
        rw [hnil] at this; simp at this
      · -- no set was ever gathered
        have hgen : ∀ n, (corF r n).2 = [] → (corF r n).1 = r.length := by
          intro n
          induction n with
          | zero => intro _; rfl
          | succ n ih =>
            intro hn
            rw [corF] at hn ⊢
            split
            · rename_i hs; rw [if_pos hs] at hn; exact ih hn
            · rename_i hs
              rw [if_neg hs] at hn
              split
              · rename_i h3; rw [if_pos h3] at hn; simp at hn
              · rename_i h3; rw [if_neg h3] at hn; simp at hn
        have := hgen _ hnil
        omega
    · exact h0
  have hm := fst_mem (corL r).length hne (Nat.le_refl _)
  have hb := corL_mem g hm
  have e : fstS (corL r) (corL r).length = (fewN r : Int) := by unfold fewN; omega
  rw [e] at hm
  have := (h2 _).1 hm
  exact ⟨this.1, this.2.1, this.2.2, e⟩
theorem few_min (g : Good r) (ht : t < 2 ^ r.length) (hc : corS r t = true) : pcS (fewN r) ≤ pcS t ∧ ((t : Int) ∈ corL r ↔ pcS t = pcS (fewN r)) := by
  obtain ⟨h1, h2⟩ := corF_spec (r := r) (2 ^ r.length)
  have := (few_is g).2.2.1
  rw [this]
  exact ⟨h1 t ht hc, (h2 t).trans ⟨fun h => h.2.2, fun h => ⟨ht, hc, h⟩⟩⟩
theorem few_L (hc : (chk r).2.2 = 0) : fewL r = bitsL (fewN r : Int) ∧ (fewL r).length = pcS (fewN r) := by
  have g := chk_good hc
  have e : fewL r = bitsL (fewN r : Int) := by unfold fewL; rw [if_neg (by omega), (few_is g).2.2.2]
  exact ⟨e, by rw [e]; rfl⟩
/-- No heights that run down keep more points. -/
theorem few_le (hc : (chk r).2.2 = 0) (R : Runs r h) (ht : t < 2 ^ r.length) (hs : ∀ i, i < r.length → t.testBit i = false → h.getD i default = (r.getD i default).ht) : (fewL r).length ≤ pcS t := by
  have g := chk_good hc
  rw [(few_L hc).2]
  exact (few_min g ht (cor_of g R hs)).1
/-- With one height changed, at most one more is corrected. -/
theorem pc_or (hi : i < 9) : pcS (t ||| 2 ^ i) ≤ pcS t + 1 := by
  rw [pc_bits, pc_bits]
  have := sel_one (p := fun j => t.testBit j) (q := fun j => (t ||| 2 ^ i).testBit j) (a := i) (n := 9) (fun j hj h => by
    rw [Nat.testBit_or, Nat.testBit_two_pow, Bool.or_eq_true] at h
    rcases h with h | h
    · exact .inl h
    · exact .inr (of_decide_eq_true h).symm)
  rw [if_pos hi] at this
  exact this
theorem few_one (hc : (chk r).2.2 = 0) (hc2 : (chk s).2.2 = 0) (hl : s.length = r.length) (hR : ∀ h, Runs r h → Runs s h) (hi : i < r.length) (he : ∀ j, j < r.length → j ≠ i → (s.getD j default).ht = (r.getD j default).ht) : (fewL s).length ≤ (fewL r).length + 1 := by
  have g := chk_good hc
  obtain ⟨h1, h2, _, _⟩ := few_is g
  obtain ⟨hr, hk⟩ := cor_to g h2
  have hn := g.n.2
  have hlt : fewN r ||| 2 ^ i < 2 ^ s.length := by
    rw [hl]
    exact Nat.or_lt_two_pow h1 (Nat.pow_lt_pow_right (by decide) hi)
  have := few_le hc2 (hR _ hr) hlt (fun j hj hb => by
    rw [hl] at hj
    rw [Nat.testBit_or, Nat.testBit_two_pow, Bool.or_eq_false_iff] at hb
    have := of_decide_eq_false hb.2
    rw [he j hj (by omega)]
    exact hk j hj hb.1)
  have := pc_or (t := fewN r) (i := i) (by omega)
  rw [(few_L hc).2]
  omega
/-- With heights that run down nothing is corrected. -/
theorem few_none (hc : (chk r).2.2 = 0) (R : Runs r (ownS r)) : fewL r = [] := by
  have := few_le (t := 0) hc R (Nat.two_pow_pos _) (fun i hi _ => own_at hi)
  have e : pcS 0 = 0 := by decide
  exact List.eq_nil_of_length_eq_zero (by omega)
/-- Where more heights run down, no more are corrected. -/
theorem few_more (hc : (chk r).2.2 = 0) (hc2 : (chk s).2.2 = 0) (hl : s.length = r.length) (hR : ∀ h, Runs s h → Runs r h) (he : ∀ j, j < r.length → (s.getD j default).ht = (r.getD j default).ht) : (fewL r).length ≤ (fewL s).length := by
  have g := chk_good hc2
  obtain ⟨h1, h2, _, _⟩ := few_is g
  obtain ⟨hr, hk⟩ := cor_to g h2
  rw [hl] at h1 hk
  rw [(few_L hc2).2]
  exact few_le hc (hR _ hr) h1 (fun j hj hb => by rw [← he j hj]; exact hk j hj hb)
end
end Go.Proofs.YtoemnobfnnjopaaDoor

/-
  Rivers with one height changed.
  No conditions but those in the theorems.
-/
namespace Go.Proofs.YtoemnobfnnjopaaDoor
open Go
/-- With another height of one point. -/
def oneH (r : List RvT) (a : Nat) (x : Int) : List RvT := r.set a { r.getD a default with ht := x }
section
variable {r : List RvT} {a i : Nat} {x : Int}
theorem one_len : (oneH r a x).length = r.length := by unfold oneH; rw [List.length_set]
theorem one_at (ha : a < r.length) : (oneH r a x).getD i default = if a = i then { r.getD a default with ht := x } else r.getD i default := set_at ha
theorem one_same (ha : a < r.length) : Same r (oneH r a x) := by
  refine ⟨⟨one_len, fun i => ?_, fun i => ?_⟩, fun i => ?_⟩
  all_goals
    rw [one_at ha]
    split
    · rename_i e; subst e; rfl
    · rfl
theorem one_chk (hc : (chk r).2.2 = 0) (ha : a < r.length) (hx : 0 ≤ x ∧ x ≤ 9000) : chk (oneH r a x) = (0, 0, 0) := by
  have g := chk_good hc
  refine chk_like (one_same ha).toLike hc (fun i hi => ?_)
  have := g.p i hi
  rw [one_at ha]
  split
  · rename_i e; subst e; exact ⟨⟨this.1.1, hx⟩, this.2.2⟩
  · exact ⟨this.1, this.2.2⟩
theorem few_9 : (fewL r).length ≤ 9 := by
  unfold fewL
  split
  · exact Nat.zero_le _
  · exact selN_len
theorem few_ones (hc : (chk r).2.2 = 0) (ha : a < r.length) (hx : 0 ≤ x ∧ x ≤ 9000) : (fewL (oneH r a x)).length ≤ (fewL r).length + 1 ∧ (fewL r).length ≤ (fewL (oneH r a x)).length + 1 := by
  have hk := one_chk hc ha hx
  have hs := one_same (x := x) ha
  have hat : ∀ j, j ≠ a → ((oneH r a x).getD j default).ht = (r.getD j default).ht := fun j hj => by rw [one_at ha, if_neg (Ne.symm hj)]
  refine ⟨few_one hc (by rw [hk]) one_len (fun h R => hs.runs.2 R) ha (fun j _ hj => hat j hj), ?_⟩
  exact few_one (by rw [hk]) hc one_len.symm (fun h R => hs.runs.1 R) (by rw [one_len]; exact ha) (fun j _ hj => (hat j hj).symm)
/-- With heights that run down nothing is corrected. -/
theorem few_with {h : List Int} (hc : (chk r).2.2 = 0) (R : Runs r h) : fewL (wthS r h) = [] :=
  few_none (by rw [w_chk hc R.b]) (by rw [w_own R.l]; exact w_same.runs.2 R)
end
end Go.Proofs.YtoemnobfnnjopaaDoor
