/-
  Plain lemmas and plain functions, several texts joined.
  Conditions stand in each theorem.
-/
import Derived.Test.YthkgnhcknkjgdaaDoorS7
set_option linter.unusedSimpArgs false
set_option linter.unusedVariables false
/-
  Lengths that show all: the least ones are those of the rounds; why a pin is stuck.
  No conditions but those in the theorems.
-/
namespace Go.Proofs.YthkgnhcknkjgdaaDoor
open Go
/-- The lengths of pins, put into a model, for the first k. -/
def lgP (m : Mod) (l : List Int) (k : Nat) : List PinT := (List.range m.ps.length).map fun i => if i < k then { m.ps.getD i default with len := l.getD i default } else m.ps.getD i default
def longM (m : Mod) (l : List Int) : Mod := { m with ps := lgP m l m.ps.length }
/-- Lengths that pins may have. -/
structure InB (m : Mod) (l : List Int) : Prop where
  n : l.length = m.ps.length
  b : ∀ i, i < m.ps.length → (m.ps.getD i default).len ≤ l.getD i default ∧ l.getD i default ≤ (m.ps.getD i default).most
section
variable {m : Mod} {l l' : List Int} {i k : Nat}
theorem lg_len : (lgP m l k).length = m.ps.length := by simp [lgP]
theorem lg_at (h : i < m.ps.length) : (lgP m l k).getD i default = if i < k then { m.ps.getD i default with len := l.getD i default } else m.ps.getD i default := by
  unfold lgP; rw [List.getD_eq_getElem?_getD, List.getElem?_map, List.getElem?_range h]; rfl
theorem lg_0 : lgP m l 0 = m.ps := by
  apply List.ext_getElem?
  intro i
  rcases Nat.lt_or_ge i m.ps.length with h | h
  · have e := lg_at (m := m) (l := l) (k := 0) h
    rw [if_neg (Nat.not_lt_zero i), List.getD_eq_getElem?_getD, List.getD_eq_getElem?_getD, List.getElem?_eq_getElem h, List.getElem?_eq_getElem (by rw [lg_len]; exact h)] at e
    rw [List.getElem?_eq_getElem h, List.getElem?_eq_getElem (by rw [lg_len]; exact h)]
    exact congrArg some e
  · rw [List.getElem?_eq_none h, List.getElem?_eq_none (by rw [lg_len]; exact h)]
theorem lg_set (h : k < m.ps.length) : (lgP m l k).set k { (lgP m l k).getD k default with len := l.getD k default } = lgP m l (k + 1) := by
  rw [lg_at h, if_neg (Nat.lt_irrefl k)]
  apply List.ext_getElem?
  intro i
  rw [List.getElem?_set]
  unfold lgP
  rw [List.getElem?_map, List.getElem?_map]
  rcases Nat.lt_or_ge i m.ps.length with h1 | h1
  · rw [List.getElem?_range h1]
    simp only [Option.map_some, List.length_map, List.length_range]
    split
    · rename_i e; subst e; rw [if_pos (Nat.lt_succ_self k)]
    · rename_i e
      rcases Nat.lt_or_ge i k with h2 | h2
      · rw [if_pos h2, if_pos (by omega)]
      · rw [if_neg (by omega), if_neg (by omega)]
  · rw [if_neg (by omega), List.getElem?_eq_none (by simpa using h1)]; rfl
theorem long_n : (longM m l).ps.length = m.ps.length := lg_len
theorem long_at (h : i < m.ps.length) : (longM m l).ps.getD i default = { m.ps.getD i default with len := l.getD i default } := by
  show (lgP m l m.ps.length).getD i default = _
  rw [lg_at h, if_pos h]
theorem long_out (h : ¬ i < m.ps.length) : (longM m l).ps.getD i default = m.ps.getD i default := by
  rw [List.getD_eq_getElem?_getD, List.getD_eq_getElem?_getD, List.getElem?_eq_none (by rw [long_n]; omega), List.getElem?_eq_none (by omega)]
theorem long_x : ((longM m l).ps.getD i default).x = (m.ps.getD i default).x := by
  rcases Nat.lt_or_ge i m.ps.length with h | h
  · rw [long_at h]
  · rw [long_out (by omega)]
theorem long_y : ((longM m l).ps.getD i default).y = (m.ps.getD i default).y := by
  rcases Nat.lt_or_ge i m.ps.length with h | h
  · rw [long_at h]
  · rw [long_out (by omega)]
theorem long_nm : ((longM m l).ps.getD i default).nm = (m.ps.getD i default).nm := by
  rcases Nat.lt_or_ge i m.ps.length with h | h
  · rw [long_at h]
  · rw [long_out (by omega)]
theorem long_most : ((longM m l).ps.getD i default).most = (m.ps.getD i default).most := by
  rcases Nat.lt_or_ge i m.ps.length with h | h
  · rw [long_at h]
  · rw [long_out (by omega)]
theorem long_own (h : InB m l) : ownS (longM m l) = l := by
  refine agree_eq (n := m.ps.length) (by rw [own_len, long_n]) h.n fun i hi => ?_
  rw [own_at (by rw [long_n]; exact hi), long_at hi]
theorem long_pinAt {f : Int} : pinAt (longM m l) f = pinAt m f := by
  unfold pinAt
  rw [long_n]
  refine find_congr fun i hi => ?_
  rw [long_x, long_y]; rfl
theorem long_top {f : Int} : topS (longM m l) l' f = topS m l' f := by
  rw [topS_eq, topS_eq, long_pinAt]; rfl
theorem long_steps {x y : Int} : stepsS (longM m l) x y i = stepsS m x y i := by
  unfold stepsS; rw [long_x, long_y]; rfl
theorem long_head : headS (longM m l) l' i = headS m l' i := by
  unfold headS; rw [long_x, long_y]; rfl
theorem long_hides {x y eye : Int} : hidesS (longM m l) l' x y eye i = hidesS m l' x y eye i := by
  have e : hideB (longM m l) l' eye i = hideB m l' eye i := by funext s; unfold hideB; rw [long_top, long_head]
  unfold hidesS; rw [long_steps, e]
theorem long_sees {x y eye : Int} : seesB (longM m l) l' x y eye i = seesB m l' x y eye i := by unfold seesB; rw [long_hides]
theorem anyR_congr {p q : PinT → Bool} {ps qs : List PinT} (hl : ps.length = qs.length) (h : ∀ i, i < ps.length → p (ps.getD i default) = q (qs.getD i default)) (hi : k ≤ ps.length) : (ps.take k).any p = (qs.take k).any q := by
  cases e : (qs.take k).any q with
  | false => exact anyT_f hi (fun j hj => by rw [h j (by omega)]; exact any_false_at e hj (by omega))
  | true =>
    cases e2 : (ps.take k).any p with
    | true => rfl
    | false =>
      have : (qs.take k).any q = false := anyT_f (by omega) (fun j hj => by rw [← h j (by omega)]; exact any_false_at e2 hj hi)
      rw [e] at this; cases this
/-- A good model with other lengths is good. -/
theorem long_chk (hc : (chk m).2.2 = 0) (h : InB m l) : (chk (longM m l)).2.2 = 0 := by
  have g := chk_good hc
  obtain ⟨k1, k2, k3, k4, k5, k6, k7⟩ := chk_part.1 hc
  refine chk_part.2 ⟨k1, k2, k3, by rw [long_n]; exact k4, ?_, k6, k7⟩
  refine fst_zero.2 fun i hi => ?_
  rw [long_n] at hi
  have hi' := List.mem_range.1 hi
  have h0 := fst_zero.1 k5 i hi
  have hp := g.p i hi'
  have hb := h.b i hi'
  have a1 : (((longM m l).ps.take i).any fun q => nmEq q.nm ((longM m l).ps.getD i default).nm) = ((m.ps.take i).any fun q => nmEq q.nm (m.ps.getD i default).nm) := by
    rw [long_nm]; exact anyR_congr long_n (fun j _ => by rw [long_nm]) (by rw [long_n]; omega)
  have a2 : ((longM m l).ps.take i).any (atP ((longM m l).ps.getD i default).x ((longM m l).ps.getD i default).y) = (m.ps.take i).any (atP (m.ps.getD i default).x (m.ps.getD i default).y) := by
    rw [long_x, long_y]; exact anyR_congr long_n (fun j _ => by unfold atP; rw [long_x, long_y]) (by rw [long_n]; omega)
  unfold pinE at h0 ⊢
  rw [a1, a2, long_nm, long_x, long_y]
  show (if _ then (6 : Int) else if _ then 5 else if ¬ onF m.W m.D _ _ then 4 else if _ then 2 else lenE ((longM m l).ps.getD i default)) = 0
  have e : lenE ((longM m l).ps.getD i default) = 0 := by
    rw [long_at hi']; exact lenE_0 ⟨by simp only; omega, by simp only; omega, by simp only; omega⟩
  rw [e]
  split
  · rename_i h1; rw [if_pos h1] at h0; exact h0
  rename_i h1; rw [if_neg h1] at h0
  split
  · rename_i h2; rw [if_pos h2] at h0; exact h0
  rename_i h2; rw [if_neg h2] at h0
  split
  · rename_i h3; rw [if_pos h3] at h0; exact h0
  rename_i h3; rw [if_neg h3] at h0
  split
  · rename_i h4; rw [if_pos h4] at h0; exact h0
  · rfl
theorem all_congr {p q : Nat → Bool} {n : Nat} (h : ∀ i, i < n → p i = q i) : (List.range n).all p = (List.range n).all q := by
  rw [Bool.eq_iff_iff, List.all_eq_true, List.all_eq_true]
  constructor
  · intro h1 i hi; rw [← h i (List.mem_range.1 hi)]; exact h1 i hi
  · intro h1 i hi; rw [h i (List.mem_range.1 hi)]; exact h1 i hi
/-- All are seen with the lengths that a model was given. -/
theorem long_all (h : InB m l) : allB (longM m l) = showsB m l := by
  rw [← shows_all]
  unfold showsB
  rw [long_n]
  refine all_congr fun i hi => ?_
  unfold openB
  refine all_congr fun s hs => ?_
  rw [long_own h]; exact long_sees
theorem selN_full {p : Nat → Bool} {n : Nat} : (selN p n).length = n ↔ (List.range n).all p = true := by
  unfold selN
  rw [List.length_map, List.all_eq_true]
  have h := @List.length_filter_eq_length_iff _ p (List.range n)
  rw [List.length_range] at h
  exact h
theorem seenL_full {s : Nat} {eye : Int} : (seenL m l s eye).length = m.ps.length ↔ (List.range m.ps.length).all (seesB m l (m.ss.getD s default).x (m.ss.getD s default).y eye) = true := selN_full
/-! What a longer pin needs -/
/-- No pin but one is longer in the second list. -/
def Leq (m : Mod) (p : Nat) (l l' : List Int) : Prop := ∀ i, i < m.ps.length → i ≠ p → l.getD i default ≤ l'.getD i default
theorem Leq.top {p : Nat} {f : Int} (h : Leq m p l l') (hne : f ≠ fldS m p) : topS m l f ≤ topS m l' f := by
  rw [topS_eq, topS_eq]
  cases e : pinAt m f with
  | none => exact Int.le_refl _
  | some j =>
    have hj := pinAtK_some (k := m.ps.length) e
    have hjp : j ≠ p := fun e2 => hne (by rw [← e2]; exact hj.2.symm)
    have := h j hj.1 hjp
    simp only; omega
theorem Leq.needE {x y lo : Int} {u : Int × Int × Int} (h : Leq m i l l') (hw : Way m x y i) (hs : (stepsS m x y i)[k]? = some u) : Go.Proofs.YthkgnhcknkjgdaaDoor.needE m l lo i u ≤ Go.Proofs.YthkgnhcknkjgdaaDoor.needE m l' lo i u := by
  have h1 := hw.step hs
  have h2 := h.top (step_ne hw hs)
  have h3 : topS m l u.1 * u.2.2 ≤ topS m l' u.1 * u.2.2 := Int.mul_le_mul_of_nonneg_right h2 (by omega)
  have h4 : more2 m l lo i u ≤ more2 m l' lo i u := by unfold more2; omega
  unfold Go.Proofs.YthkgnhcknkjgdaaDoor.needE
  split
  · rename_i h5
    rw [if_pos (by omega)]
    have := Int.ediv_le_ediv (c := u.2.1) (by omega) h4
    omega
  · split
    · rename_i h5
      have : 0 ≤ more2 m l' lo i u / u.2.1 := Int.ediv_nonneg (by omega) (by omega)
      omega
    · exact Int.le_refl _
theorem Leq.need (h : Leq m i l l') (g : Good m) (hi : i < m.ps.length) : needS m l i ≤ needS m l' i := by
  have hz : 0 ≤ needS m l' i := needS_nn
  unfold needS at *
  rw [needK_le hz]
  intro s hs u hu
  have hst := g.st hs
  obtain ⟨k, hk⟩ := List.getElem?_of_mem hu
  refine Int.le_trans (h.needE ⟨g, hi, by omega, by omega⟩ hk) ?_
  exact (needK_le hz _).1 (Int.le_refl _) s hs u hu
/-- Lengths that show all are not below what any lengths that are not greater need. -/
theorem shows_need (g : Good m) (hl : LB l') (hn : l'.length = m.ps.length) : showsB m l' = true ↔ ∀ i, i < m.ps.length → needS m l' i ≤ l'.getD i default := by
  unfold showsB
  rw [List.all_eq_true]
  constructor
  · intro h i hi; exact (open_own g hi (by omega) hl).1 (h i (List.mem_range.2 hi))
  · intro h i hi; exact (open_own g (List.mem_range.1 hi) (by have := List.mem_range.1 hi; omega) hl).2 (h i (List.mem_range.1 hi))
def Le (m : Mod) (l l' : List Int) : Prop := ∀ i, i < m.ps.length → l.getD i default ≤ l'.getD i default
theorem next_le (g : Good m) (h6 : l.length = 6) (h : Le m l l') (hl : LB l') (hn : l'.length = m.ps.length) (hs : showsB m l' = true) : Le m (nextS m l) l' := fun i hi => by
  rw [next_at g.n hi]
  have h1 := (shows_need g hl hn).1 hs i hi
  have h2 := Leq.need (m := m) (i := i) (l := l) (l' := l') (fun j hj _ => h j hj) g hi
  have h3 := h i hi
  omega
theorem InB.lb (g : Good m) (h : InB m l) : LB l := fun i => by
  rcases Nat.lt_or_ge i m.ps.length with h1 | h1
  · have := h.b i h1; have := g.p i h1; omega
  · rw [List.getD_eq_getElem?_getD, List.getElem?_eq_none (by rw [h.n]; exact h1)]; exact ⟨Int.le_refl _, by show (0 : Int) ≤ 300; decide⟩
theorem too_le (h : Le m (nextS m l) l') (hb : InB m l') : tooF m (nextS m l) = none := too_none.2 fun i hi => by
  have := h i hi; have := hb.b i hi; omega
/-- If some lengths show all, no round makes a pin too long, and none is longer than there. -/
theorem rnd_le (g : Good m) (hb : InB m l') (hs : showsB m l' = true) : ∀ (f : Nat) (l : List Int) (r : Int), l.length = 6 → Le m l l' → (rndS m f l r).2.2 = -1 ∧ Le m (rndS m f l r).1 l'
  | 0, l, r, _, h => ⟨rfl, h⟩
  | f + 1, l, r, h6, h => by
    have hn := next_le g h6 h (hb.lb g) hb.n hs
    have ht := too_le hn hb
    by_cases he : nextS m l = l
    · rw [rnd_end ht he]; exact ⟨rfl, h⟩
    · rw [rnd_next ht he]; exact rnd_le g hb hs f _ _ (by unfold nextS; exact nx_len) hn
/-- The rounds end where none changes a length. -/
theorem rnd_fix (g : Good m) : ∀ (f : Nat) (l : List Int) (r : Int), l.length = 6 → LB l → 1801 ≤ (f : Int) + l.sum → (rndS m f l r).2.2 = -1 → nextS m (rndS m f l r).1 = (rndS m f l r).1
  | 0, l, r, h6, hl, hf, _ => by have := (lb_sum hl h6).2; omega
  | f + 1, l, r, h6, hl, hf, he => by
    cases ht : tooF m (nextS m l) with
    | some i => rw [rnd_some ht] at he; simp only at he; omega
    | none =>
      by_cases h : nextS m l = l
      · rw [rnd_end ht h]; exact h
      · rw [rnd_next ht h] at he ⊢
        have := next_sum h6 h
        exact rnd_fix g f _ _ (by unfold nextS; exact nx_len) (next_lb g hl ht) (by omega) he
theorem rounds_fix (g : Good m) (h : (roundsS m).2.2 = -1) : nextS m (roundsS m).1 = (roundsS m).1 :=
  rnd_fix g 1801 _ _ own6_len (own6_lb g) (by have := (lb_sum (own6_lb g) own6_len).1; omega) h
theorem own6_le (g : Good m) (hb : InB m l') : Le m (own6 m) l' := fun i hi => by
  have h6 := g.n
  have := hb.b i hi
  rw [own6_at, if_pos (by omega), own_at hi]; omega
theorem rnd_ge : ∀ (f : Nat) (l : List Int) (r : Int), l.length = 6 → ∀ i, l.getD i default ≤ (rndS m f l r).1.getD i default
  | 0, l, r, _, i => Int.le_refl _
  | f + 1, l, r, h6, i => by
    cases ht : tooF m (nextS m l) with
    | some j => rw [rnd_some ht]; exact Int.le_refl _
    | none =>
      by_cases h : nextS m l = l
      · rw [rnd_end ht h]; exact Int.le_refl _
      · rw [rnd_next ht h]; exact Int.le_trans (next_ge h6 i) (rnd_ge f _ _ (by unfold nextS; exact nx_len) i)
theorem lng_0 (hc : (chk m).2.2 = 0) (h : (roundsS m).2.2 = -1) : lngE m = 0 ∧ lngL m = (roundsS m).1.take m.ps.length := by
  have e : lngE m = 0 := by unfold lngE; rw [if_neg (by omega), if_neg (by omega)]
  exact ⟨e, by unfold lngL; rw [if_pos e]⟩
theorem lng_9 (hc : (chk m).2.2 = 0) (h : (roundsS m).2.2 ≠ -1) : lngE m = 9 ∧ lngL m = [] := by
  have e : lngE m = 9 := by unfold lngE; rw [if_neg (by omega), if_pos h]
  exact ⟨e, by unfold lngL; rw [if_neg (by omega)]⟩
theorem lng_or (hc : (chk m).2.2 = 0) : lngE m = 0 ∧ (roundsS m).2.2 = -1 ∨ lngE m = 9 ∧ (roundsS m).2.2 ≠ -1 := by
  by_cases h : (roundsS m).2.2 = -1
  · exact .inl ⟨(lng_0 hc h).1, h⟩
  · exact .inr ⟨(lng_9 hc h).1, h⟩
theorem lng_in (hc : (chk m).2.2 = 0) (h : lngE m = 0) : InB m (lngL m) := by
  have g := chk_good hc
  have h6 := g.n
  rcases lng_or hc with ⟨_, h1⟩ | ⟨h1, _⟩
  · rw [(lng_0 hc h1).2]
    refine ⟨tk_len h6 rounds_len, fun i hi => ?_⟩
    rw [agree_take rounds_len h6 i hi]
    refine ⟨?_, rounds_lm g i hi⟩
    have := rnd_ge (m := m) 1801 (own6 m) 0 own6_len i
    rw [own6_at, if_pos (by omega), own_at hi] at this
    exact this
  · omega
/-- The lengths of Lengths show all. -/
theorem lng_shows (hc : (chk m).2.2 = 0) (h : lngE m = 0) : showsB m (lngL m) = true := by
  have g := chk_good hc
  have h6 := g.n
  have hin := lng_in hc h
  rcases lng_or hc with ⟨_, h1⟩ | ⟨h1, _⟩
  · refine (shows_need g (hin.lb g) hin.n).2 fun i hi => ?_
    have hag : Agree m (lngL m) (roundsS m).1 := fun j hj => by rw [(lng_0 hc h1).2]; exact agree_take rounds_len h6 j hj
    rw [hag.need, hag i hi]
    have hf := rounds_fix g h1
    have := next_at (l6 := (roundsS m).1) h6 hi
    rw [hf] at this
    omega
  · omega
/-- Lengths that show all are not below those of Lengths. -/
theorem lng_least (hc : (chk m).2.2 = 0) (hb : InB m l') (hs : showsB m l' = true) : lngE m = 0 ∧ Le m (lngL m) l' := by
  have g := chk_good hc
  have h6 := g.n
  have h := rnd_le g hb hs 1801 (own6 m) 0 own6_len (own6_le g hb)
  have h1 := lng_0 hc h.1
  refine ⟨h1.1, fun i hi => ?_⟩
  rw [h1.2, agree_take rounds_len h6 i hi]
  exact h.2 i hi
theorem lng_none (hc : (chk m).2.2 = 0) (hb : InB m l') (h : lngE m ≠ 0) : showsB m l' = false := by
  cases e : showsB m l' with
  | false => rfl
  | true => exact absurd (lng_least hc hb e).1 h
end
end Go.Proofs.YthkgnhcknkjgdaaDoor

/-
  Why a pin is stuck.
  No conditions but those in the theorems.
-/
namespace Go.Proofs.YthkgnhcknkjgdaaDoor
open Go
/-- The lengths after some rounds. -/
def itN (m : Mod) (l : List Int) : Nat → List Int
  | 0 => l
  | k + 1 => nextS m (itN m l k)
/-- The reference's lengths after some rounds. -/
def befN (m : Mod) : Nat → List Int
  | 0 => ownS m
  | k + 1 => roundR m (befN m k) m.ps.length
section
variable {m : Mod} {l : List Int} {i k : Nat}
theorem it_comm : ∀ k, itN m (nextS m l) k = itN m l (k + 1)
  | 0 => rfl
  | k + 1 => by show nextS m (itN m (nextS m l) k) = nextS m (itN m l (k + 1)); rw [it_comm k]
theorem it_len (h : l.length = 6) : ∀ k, (itN m l k).length = 6
  | 0 => h
  | _ + 1 => by show (nextS m _).length = 6; unfold nextS; exact nx_len
theorem bef_len : ∀ k, (befN m k).length = m.ps.length
  | 0 => own_len
  | _ + 1 => roundR_len
theorem rnd_it : ∀ (f : Nat) (l : List Int) (r : Int), (rndS m f l r).2.2 ≠ -1 → ∃ k : Nat, k < f ∧ (rndS m f l r).2.1 = r + (k : Int) + 1 ∧ (rndS m f l r).1 = itN m l k ∧ ∀ j, j < k → tooF m (nextS m (itN m l j)) = none
  | 0, l, r, h => absurd rfl h
  | f + 1, l, r, h => by
    cases ht : tooF m (nextS m l) with
    | some i => rw [rnd_some ht]; exact ⟨0, by omega, by simp only; omega, rfl, fun j hj => absurd hj (Nat.not_lt_zero j)⟩
    | none =>
      by_cases he : nextS m l = l
      · rw [rnd_end ht he] at h; exact absurd rfl h
      · rw [rnd_next ht he] at h ⊢
        obtain ⟨k, h1, h2, h3, h4⟩ := rnd_it f _ _ h
        refine ⟨k + 1, by omega, by rw [h2]; omega, by rw [h3, it_comm], fun j hj => ?_⟩
        cases j with
        | zero => exact ht
        | succ j => rw [← it_comm]; exact h4 j (by omega)
theorem bef_it (h6 : m.ps.length ≤ 6) : ∀ k, (∀ j, j < k → tooF m (nextS m (itN m (own6 m) j)) = none) → befN m k = (itN m (own6 m) k).take m.ps.length
  | 0, _ => (own_take h6).symm
  | k + 1, h => by
    show roundR m (befN m k) m.ps.length = (nextS m (itN m (own6 m) k)).take m.ps.length
    rw [bef_it h6 k (fun j hj => h j (by omega)), round_take h6 (it_len own6_len k) (h k (by omega))]
/-- Which round, which pin, which stand, which field: with all lengths that are no less but its own, this field hides the pin. -/
theorem stuck_law (hc : (chk m).2.2 = 0) (h9 : lngE m ≠ 0) : ∃ (r p s : Nat) (f : Int), stuckS m = ((r : Int) + 1, (p : Int), (s : Int), f, 0) ∧ r ≤ 1800 ∧ p < m.ps.length ∧ s < m.ss.length ∧ (∀ j, j ≤ r → LB (befN m j)) ∧ (∀ j, j ≤ r → LM m (befN m j)) ∧
    ∀ l, InB m l → (∀ i, i < m.ps.length → i ≠ p → (befN m r).getD i default ≤ l.getD i default) → f ∈ hidesS m l (m.ss.getD s default).x (m.ss.getD s default).y (m.ss.getD s default).lo p := by
  have g := chk_good hc
  have h6 := g.n
  have hne : (roundsS m).2.2 ≠ -1 := fun e => h9 (lng_0 hc e).1
  obtain ⟨r, hr, e1, e2, hlt⟩ := rnd_it 1801 (own6 m) 0 hne
  obtain ⟨p, ht, ep⟩ := rounds_too hne
  have e1' : (roundsS m).2.1 = (r : Int) + 1 := by show (rndS m 1801 (own6 m) 0).2.1 = _; rw [e1]; omega
  have e2' : (roundsS m).1 = itN m (own6 m) r := e2
  have hbef : ∀ j, j ≤ r → befN m j = (itN m (own6 m) j).take m.ps.length := fun j hj => bef_it h6 j (fun i hi => hlt i (by omega))
  have hLB : ∀ j, j ≤ r → LB (itN m (own6 m) j) := by
    intro j
    induction j with
    | zero => intro _; exact own6_lb g
    | succ j ih => intro hj; exact next_lb g (ih (by omega)) (hlt j (by omega))
  have hLM : ∀ j, j ≤ r → LM m (itN m (own6 m) j) := by
    intro j
    cases j with
    | zero => intro _; exact lm_own g
    | succ j => intro hj; exact lm_next (hlt j (by omega))
  have hp : p < m.ps.length := by
    rcases rounds_pin (m := m) with h | ⟨i, hi, e⟩
    · exact absurd h hne
    · rw [e] at ep; omega
  have hl6 := @rounds_len m
  have htoo : (nextS m (roundsS m).1).getD p default > (m.ps.getD p default).most := by
    have := List.find?_some ht
    exact of_decide_eq_true this
  rw [next_at h6 hp] at htoo
  have hlm := rounds_lm g p hp
  have hnd : ¬ needS m (roundsS m).1 p ≤ (m.ps.getD p default).most := by omega
  have hpm := g.p p hp
  have hop : openB m (stkL m p) p = false := by
    cases e : openB m (stkL m p) p with
    | false => rfl
    | true => exact absurd ((open_iff g hp (by omega) (by omega)).1 e) hnd
  obtain ⟨s, hs⟩ : ∃ s, stkS m p = some s := by
    cases e : stkS m p with
    | some s => exact ⟨s, rfl⟩
    | none =>
      exfalso
      unfold stkS at e
      rw [List.find?_eq_none] at e
      have : openB m (stkL m p) p = true := by
        unfold openB
        rw [List.all_eq_true]
        intro s hs
        have := e s hs
        simpa [stkB] using this
      rw [hop] at this; cases this
  have hs1 := List.mem_range.1 (List.mem_of_find?_eq_some hs)
  have hs2 : stkB m p s = false := by simpa using List.find?_some hs
  refine ⟨r, p, s, (hidesS m (stkL m p) (m.ss.getD s default).x (m.ss.getD s default).y (m.ss.getD s default).lo p).headD 0, ?_, by omega, hp, hs1, fun j hj => by rw [hbef j hj]; exact lb_take (hLB j hj), fun j hj => by rw [hbef j hj]; exact lm_take h6 (it_len own6_len j) (hLM j hj), fun l hl hle => ?_⟩
  · unfold stuckS
    rw [if_neg (by omega), if_neg hne, ep, Int.toNat_natCast, hs]
    simp only
    rw [e1']
  · have hne2 : hidesS m (stkL m p) (m.ss.getD s default).x (m.ss.getD s default).y (m.ss.getD s default).lo p ≠ [] := by
      intro e
      unfold stkB seesB at hs2
      rw [e] at hs2; cases hs2
    have hm : (hidesS m (stkL m p) (m.ss.getD s default).x (m.ss.getD s default).y (m.ss.getD s default).lo p).headD 0 ∈ hidesS m (stkL m p) (m.ss.getD s default).x (m.ss.getD s default).y (m.ss.getD s default).lo p := by
      cases e : hidesS m (stkL m p) (m.ss.getD s default).x (m.ss.getD s default).y (m.ss.getD s default).lo p with
      | nil => exact absurd e hne2
      | cons a t => simp
    generalize (hidesS m (stkL m p) (m.ss.getD s default).x (m.ss.getD s default).y (m.ss.getD s default).lo p).headD 0 = f at hm ⊢
    unfold hidesS at hm ⊢
    obtain ⟨u, hu, rfl⟩ := List.mem_map.1 hm
    obtain ⟨hu1, hu2⟩ := List.mem_filter.1 hu
    refine List.mem_map.2 ⟨u, List.mem_filter.2 ⟨hu1, ?_⟩, rfl⟩
    have hst := g.st hs1
    have hw : Way m (m.ss.getD s default).x (m.ss.getD s default).y p := ⟨g, hp, by omega, by omega⟩
    obtain ⟨k, hk⟩ := List.getElem?_of_mem hu1
    have h1 := hw.step hk
    have hL : Leq m p (stkL m p) l := fun i hi hip => by
      have h2 : (stkL m p).getD i default = (roundsS m).1.getD i default := by
        unfold stkL
        rw [List.getD_eq_getElem?_getD, List.getElem?_set_ne (fun e => hip e.symm), ← List.getD_eq_getElem?_getD]
      rw [h2, e2', ← agree_take (it_len own6_len r) h6 i hi, ← hbef r (Nat.le_refl _)]
      exact hle i hi hip
    have h3 := hL.top (step_ne hw hk)
    have h4 : headS m l p ≤ headS m (stkL m p) p := by
      rw [head_eq, head_eq]
      unfold stkL
      rw [set_at (by omega)]
      have := hl.b p hp
      omega
    have h5 : topS m (stkL m p) u.1 * u.2.2 ≤ topS m l u.1 * u.2.2 := Int.mul_le_mul_of_nonneg_right h3 (by omega)
    have h7 : headS m l p * u.2.1 ≤ headS m (stkL m p) p * u.2.1 := Int.mul_le_mul_of_nonneg_right h4 (by omega)
    unfold hideB at hu2 ⊢
    rw [decide_eq_true_eq] at hu2 ⊢
    omega
theorem stuck_none (hc : (chk m).2.2 = 0) (h0 : lngE m = 0) : stuckS m = (0, 0, 0, 0, 4) := by
  rcases lng_or hc with ⟨_, h1⟩ | ⟨h1, _⟩
  · unfold stuckS; rw [if_neg (by omega), if_pos h1]
  · omega
end
end Go.Proofs.YthkgnhcknkjgdaaDoor

/-
  Without other pins; fewest stands; fewest pins taken off.
  No conditions but those in the theorems.
-/
namespace Go.Proofs.YthkgnhcknkjgdaaDoor
open Go
section
variable {m : Mod} {l : List Int} {i k : Nat}
/-! A longer pin -/
theorem sees_longer {v : Int} {s : Nat} (g : Good m) (hi : i < m.ps.length) (hs : s < m.ss.length) (hv : (m.ps.getD i default).len ≤ v) (h : seesB m (ownS m) (m.ss.getD s default).x (m.ss.getD s default).y (m.ss.getD s default).lo i = true) : seesB m ((ownS m).set i v) (m.ss.getD s default).x (m.ss.getD s default).y (m.ss.getD s default).lo i = true := by
  have hp := g.p i hi
  have hil : i < (ownS m).length := by rw [own_len]; exact hi
  rw [← set_self hil, own_at hi, sees_need g hi hil (by omega) hs] at h
  exact (sees_need g hi hil (by omega) hs).2 (fun u hu => Int.le_trans (h u hu) hv)
theorem own_in (g : Good m) : InB m (ownS m) := ⟨own_len, fun i hi => by have := g.p i hi; rw [own_at hi]; omega⟩
theorem set_in {v : Int} (g : Good m) (hv : (m.ps.getD i default).len ≤ v ∧ v ≤ (m.ps.getD i default).most) : InB m ((ownS m).set i v) := by
  refine ⟨by rw [List.length_set, own_len], fun j hj => ?_⟩
  have hp := g.p j hj
  rcases Decidable.em (j = i) with rfl | hne
  · rw [set_at (by rw [own_len]; exact hj)]; exact hv
  · have e : ((ownS m).set i v).getD j default = (ownS m).getD j default := by rw [List.getD_eq_getElem?_getD, List.getElem?_set_ne (fun e => hne e.symm), ← List.getD_eq_getElem?_getD]
    rw [e, own_at hj]; omega
theorem alone_long {v : Int} {s p : Nat} (hc : (chk m).2.2 = 0) (hs : s < m.ss.length) (hp : p < m.ps.length) (hv : (m.ps.getD p default).len ≤ v ∧ v ≤ (m.ps.getD p default).most) (h : (p : Int) ∈ sureL m s) : (p : Int) ∈ sureL (longM m ((ownS m).set p v)) s := by
  have g := chk_good hc
  have hin := set_in g hv
  have hc2 := long_chk hc hin
  rw [sure_0 (seen_0 hc hs)] at h
  rw [sure_0 (seen_0 hc2 hs)]
  have h1 : seesB m (ownS m) (m.ss.getD s default).x (m.ss.getD s default).y (m.ss.getD s default).lo p = true := by
    have := seen_mem (m := m) (l := ownS m) (s := s) (eye := (m.ss.getD s default).lo) hp
    rw [← this]; exact decide_eq_true h
  have h2 := sees_longer g hp hs hv.1 h1
  refine of_decide_eq_true ((seen_mem (m := longM m ((ownS m).set p v)) (by rw [long_n]; exact hp)).trans ?_)
  rw [long_own hin, long_sees]
  exact h2
/-! A pin taken off -/
theorem with_erase {o : Nat} (ho : o < m.ps.length) : ∀ k, k ≤ m.ps.length → withP m [(o : Int)] k = (m.ps.take k).eraseIdx o
  | 0, _ => by simp [withP]
  | k + 1, hk => by
    have ih := with_erase ho k (by omega)
    have ht : m.ps.take (k + 1) = m.ps.take k ++ [m.ps.getD k default] := by
      rw [List.take_add_one, List.getElem?_eq_getElem (by omega), List.getD_eq_getElem?_getD, List.getElem?_eq_getElem (by omega)]; rfl
    rcases Nat.lt_trichotomy k o with h | h | h
    · rw [with_yes (by simp; omega), ih, ht, List.eraseIdx_of_length_le (by rw [List.length_take]; omega), List.eraseIdx_of_length_le (by rw [List.length_append, List.length_take]; simp; omega)]
    · subst h
      rw [with_no (by simp), ih, ht, List.eraseIdx_of_length_le (by rw [List.length_take]; omega), List.eraseIdx_append_of_length_le (by rw [List.length_take]; omega)]
      have : k - (m.ps.take k).length = 0 := by rw [List.length_take]; omega
      rw [this]; simp
    · rw [with_yes (by simp; omega), ih, ht, List.eraseIdx_append_of_lt_length (by rw [List.length_take]; omega)]
theorem with1 {o : Nat} (ho : o < m.ps.length) : withP m [(o : Int)] m.ps.length = m.ps.eraseIdx o := by rw [with_erase ho _ (Nat.le_refl _), List.take_length]
def nowI (o i : Nat) : Nat := if i > o then i - 1 else i
theorem with1_at {o : Nat} (ho : o < m.ps.length) (hne : i ≠ o) : (withM m [(o : Int)]).ps.getD (nowI o i) default = m.ps.getD i default := by
  show (withP m [(o : Int)] m.ps.length).getD (nowI o i) default = _
  rw [with1 ho, List.getD_eq_getElem?_getD, List.getD_eq_getElem?_getD, List.getElem?_eraseIdx]
  unfold nowI
  rcases Nat.lt_or_ge o i with h | h
  · have h2 : ¬ (i - 1 < o) := by omega
    rw [if_pos (show i > o from h), if_neg h2, show i - 1 + 1 = i by omega]
  · have h2 : ¬ (i > o) := by omega
    rw [if_neg h2, if_pos (show i < o by omega)]
theorem with1_n {o : Nat} (ho : o < m.ps.length) : (withM m [(o : Int)]).ps.length + 1 = m.ps.length := by
  show (withP m [(o : Int)] m.ps.length).length + 1 = _
  rw [with1 ho, List.length_eraseIdx, if_pos ho]; omega
theorem now_lt {o : Nat} (ho : o < m.ps.length) (hi : i < m.ps.length) (hne : i ≠ o) : nowI o i < (withM m [(o : Int)]).ps.length := by
  have := with1_n ho
  unfold nowI; split <;> omega
theorem top_at (g : Good m) {p : PinT} {f : Int} (hp : p ∈ m.ps) (hf : p.y * m.W + p.x = f) : topS m (ownS m) f = m.hs.getD f.toNat default + p.len := by
  obtain ⟨i, hi, rfl⟩ := List.getElem_of_mem hp
  have e : m.ps.getD i default = m.ps[i] := by rw [List.getD_eq_getElem?_getD, List.getElem?_eq_getElem hi]; rfl
  have e2 : fldS m i = f := by unfold fldS; rw [e]; exact hf
  rw [topS_eq, ← e2, pinAt_own g hi]
  simp only
  rw [own_at hi, e]
theorem top_ge (g : Good m) {f : Int} : m.hs.getD f.toNat default ≤ topS m (ownS m) f := by
  rw [topS_eq]
  cases e : pinAt m f with
  | none => simp only; omega
  | some j => have := g.lb j; simp only; omega
theorem with_top {z : List Int} (g : Good m) (gw : Good (withM m z)) {f : Int} : topS (withM m z) (ownS (withM m z)) f ≤ topS m (ownS m) f := by
  cases e : pinAt (withM m z) f with
  | none =>
    rw [topS_eq, e]
    have := top_ge g (f := f)
    simp only
    show m.hs.getD f.toNat default + 0 ≤ _
    omega
  | some j =>
    have hj := pinAtK_some (k := (withM m z).ps.length) e
    have hm : (withM m z).ps.getD j default ∈ (withM m z).ps := K.gt_mem hj.1
    rw [top_at gw hm hj.2, top_at g (with_sub.subset hm) hj.2]
    exact Int.le_refl _
theorem alone_less {s o i : Nat} (hc : (chk m).2.2 = 0) (hs : s < m.ss.length) (ho : o < m.ps.length) (hi : i < m.ps.length) (hne : i ≠ o) (h : (i : Int) ∈ sureL m s) : ((nowI o i : Nat) : Int) ∈ sureL (withM m [(o : Int)]) s := by
  have g := chk_good hc
  have hc2 := with_chk (z := [(o : Int)]) hc
  have gw := chk_good hc2
  rw [sure_0 (seen_0 hc hs)] at h
  rw [sure_0 (seen_0 hc2 hs)]
  have h1 : seesB m (ownS m) (m.ss.getD s default).x (m.ss.getD s default).y (m.ss.getD s default).lo i = true := by
    have := seen_mem (m := m) (l := ownS m) (s := s) (eye := (m.ss.getD s default).lo) hi
    rw [← this]; exact decide_eq_true h
  refine of_decide_eq_true ((seen_mem (now_lt ho hi hne)).trans ?_)
  have e1 := with1_at ho hne
  have hst := g.st hs
  have hw : Way m (m.ss.getD s default).x (m.ss.getD s default).y i := ⟨g, hi, by omega, by omega⟩
  show seesB (withM m [(o : Int)]) (ownS (withM m [(o : Int)])) (m.ss.getD s default).x (m.ss.getD s default).y (m.ss.getD s default).lo (nowI o i) = true
  unfold seesB hidesS at h1 ⊢
  rw [List.isEmpty_iff, List.map_eq_nil_iff, List.filter_eq_nil_iff] at h1 ⊢
  have e2 : stepsS (withM m [(o : Int)]) (m.ss.getD s default).x (m.ss.getD s default).y (nowI o i) = stepsS m (m.ss.getD s default).x (m.ss.getD s default).y i := by unfold stepsS; rw [e1]; rfl
  rw [e2]
  intro u hu h2
  refine h1 u hu ?_
  obtain ⟨k, hk⟩ := List.getElem?_of_mem hu
  have h3 := hw.step hk
  have h4 := with_top g gw (f := u.1)
  have h5 : topS (withM m [(o : Int)]) (ownS (withM m [(o : Int)])) u.1 * u.2.2 ≤ topS m (ownS m) u.1 * u.2.2 := Int.mul_le_mul_of_nonneg_right h4 (by omega)
  have h6 : headS (withM m [(o : Int)]) (ownS (withM m [(o : Int)])) (nowI o i) = headS m (ownS m) i := by
    unfold headS
    rw [own_at (now_lt ho hi hne), own_at hi, e1]; rfl
  unfold hideB at h2 ⊢
  rw [decide_eq_true_eq] at h2 ⊢
  rw [h6] at h2
  omega
/-! The first of the smallest lists -/
theorem pts_mod {n b : Nat} : ptsS n b = ptsS n (b % 2 ^ n) := by
  unfold ptsS
  refine selN_congr fun i hi => ?_
  rw [Nat.testBit_mod_two_pow]; simp [hi]
theorem find_least {T : List Int → Bool} {z : List Int} : ∀ {zs : List (List Int)}, zs.Pairwise ltL → zs.find? T = some z → z ∈ zs ∧ T z = true ∧ ∀ y ∈ zs, T y = true → z.length ≤ y.length := by
  intro zs hp hf
  refine ⟨List.mem_of_find?_eq_some hf, List.find?_some hf, fun y hy hT => ?_⟩
  obtain ⟨_, as, bs, rfl, ha⟩ := List.find?_eq_some_iff_append.1 hf
  rw [List.pairwise_append] at hp
  rcases List.mem_append.1 hy with h | h
  · have := ha y h; rw [hT] at this; cases this
  · rcases List.mem_cons.1 h with rfl | h
    · exact Nat.le_refl _
    · have := List.rel_of_pairwise_cons hp.2.1 h
      unfold ltL at this
      omega
/-- Ascending numbers below n. -/
def ascB (l : List Int) (n : Nat) : Bool := (List.range l.length).all fun i => decide (0 ≤ l.getD i default ∧ l.getD i default < (n : Int)) && (i == 0 || decide (l.getD (i - 1) default < l.getD i default))
theorem selN_pw {p : Nat → Bool} {n : Nat} : (selN p n).Pairwise (· < ·) := by
  unfold selN
  rw [List.pairwise_map]
  exact ((List.pairwise_lt_range).filter p).imp (fun h => by omega)
theorem asc_pts {n s : Nat} : ascB (ptsS n s) n = true := by
  unfold ascB
  rw [List.all_eq_true]
  intro i hi
  have hi' := List.mem_range.1 hi
  have hb := pts_below (n := n) (s := s) i hi'
  rw [Bool.and_eq_true]
  refine ⟨decide_eq_true hb, ?_⟩
  cases i with
  | zero => rfl
  | succ i =>
    rw [Bool.or_eq_true]; right
    refine decide_eq_true ?_
    have := List.pairwise_iff_getElem.1 (selN_pw (p := fun i => s.testBit i) (n := n)) i (i + 1) (by unfold ptsS at hi'; omega) hi' (by omega)
    rw [List.getD_eq_getElem?_getD, List.getD_eq_getElem?_getD, List.getElem?_eq_getElem (by omega), List.getElem?_eq_getElem hi']
    exact this
theorem pts_lst {n b : Nat} (hn : n ≤ 6) : ptsS n b ∈ lstA n (n + 1) := by
  rw [pts_mod]; exact ((lst_spec hn).2.1 (b % 2 ^ n) (Nat.mod_lt _ (Nat.two_pow_pos n))).1
/-- The stands of Fewest. -/
theorem few_law (hc : (chk m).2.2 = 0) : (fewE m = 0 ∧ ascB (fewL m) m.ss.length = true ∧ (∃ s, fewL m = ptsS m.ss.length s) ∧ covB m (fewL m) = true ∧ ∀ b, covB m (ptsS m.ss.length b) = true → (fewL m).length ≤ (ptsS m.ss.length b).length) ∨
    (fewE m = 9 ∧ fewL m = [] ∧ ∀ b, covB m (ptsS m.ss.length b) = false) := by
  have g := chk_good hc
  have hk := g.k
  have hk6 : m.ss.length ≤ 6 := by omega
  have hf := few_ref (m := m) hk6
  obtain ⟨hpw, hin, hout⟩ := lst_spec hk6
  cases e : fewM m with
  | none =>
    right
    rw [e, List.find?_eq_none] at hf
    refine ⟨by unfold fewE; rw [if_neg (by omega), e]; rfl, by unfold fewL; rw [if_neg (by omega), e]; rfl, fun b => ?_⟩
    have := hf _ (pts_lst (b := b) hk6)
    simpa using this
  | some z =>
    left
    rw [e] at hf
    obtain ⟨h1, h2, h3⟩ := find_least hpw hf
    have e1 : fewL m = z := by unfold fewL; rw [if_neg (by omega), e]; rfl
    obtain ⟨s, _, hs⟩ := hout z h1
    refine ⟨by unfold fewE; rw [if_neg (by omega), e]; rfl, by rw [e1, ← hs]; exact asc_pts, ⟨s, by rw [e1, hs]⟩, by rw [e1]; exact h2, fun b hb => ?_⟩
    rw [e1]; exact h3 _ (pts_lst hk6) hb
theorem with_none : withM m [] = m := by
  have e : withP m [] m.ps.length = m.ps := by
    unfold withP
    rw [List.filter_eq_self.2 (fun i _ => by simp)]
    apply List.ext_getElem?
    intro i
    rw [List.getElem?_map]
    rcases Nat.lt_or_ge i m.ps.length with h | h
    · rw [List.getElem?_range h]; simp [List.getD_eq_getElem?_getD, h]
    · rw [List.getElem?_eq_none (by simpa using h), List.getElem?_eq_none h]; rfl
  unfold withM; rw [e]
theorem with_all : withP m (ptsS m.ps.length (2 ^ m.ps.length - 1)) m.ps.length = [] := by
  unfold withP
  rw [List.map_eq_nil_iff, List.filter_eq_nil_iff]
  intro i hi
  have hi' := List.mem_range.1 hi
  have : (i : Int) ∈ ptsS m.ps.length (2 ^ m.ps.length - 1) := mem_sel.2 ⟨i, hi', by simp [hi'], rfl⟩
  simp [this]
/-- The pins of Off. -/
theorem off_law (hc : (chk m).2.2 = 0) : ascB (offL m) m.ps.length = true ∧ (∃ s, offL m = ptsS m.ps.length s) ∧ allB (withM m (offL m)) = true ∧ ∀ b, allB (withM m (ptsS m.ps.length b)) = true → (offL m).length ≤ (ptsS m.ps.length b).length := by
  have g := chk_good hc
  have hn := g.n
  have hf := off_ref (m := m) hn
  obtain ⟨hpw, hin, hout⟩ := lst_spec hn
  cases e : offM m with
  | none =>
    exfalso
    rw [e, List.find?_eq_none] at hf
    have := hf _ (pts_lst (b := 2 ^ m.ps.length - 1) hn)
    have e2 : showsB (withM m (ptsS m.ps.length (2 ^ m.ps.length - 1))) (ownS (withM m (ptsS m.ps.length (2 ^ m.ps.length - 1)))) = true := by
      unfold showsB
      have : (withM m (ptsS m.ps.length (2 ^ m.ps.length - 1))).ps.length = 0 := by show (withP m _ _).length = 0; rw [with_all]; rfl
      rw [this]; rfl
    exact this e2
  | some z =>
    rw [e] at hf
    obtain ⟨h1, h2, h3⟩ := find_least hpw hf
    have e1 : offL m = z := by unfold offL; rw [if_neg (by omega), e]; rfl
    obtain ⟨s, _, hs⟩ := hout z h1
    refine ⟨by rw [e1, ← hs]; exact asc_pts, ⟨s, by rw [e1, hs]⟩, by rw [e1, ← shows_all]; exact h2, fun b hb => ?_⟩
    rw [e1]; exact h3 _ (pts_lst hn) (by rw [shows_all]; exact hb)
/-- Nothing is taken off a model that shows all. -/
theorem off_nil (hc : (chk m).2.2 = 0) (h : showsB m (ownS m) = true) : offL m = [] := by
  have g := chk_good hc
  have hf := off_ref (m := m) g.n
  have e1 : lstA m.ps.length (m.ps.length + 1) = [] :: (List.range m.ps.length).flatMap (fun j => listsS (j + 1) [] m.ps.length) := by
    unfold lstA
    rw [List.range_succ_eq_map, List.flatMap_cons, List.flatMap_map]
    rfl
  rw [e1, List.find?_cons, with_none, h] at hf
  unfold offL
  rw [if_neg (by omega), ← hf]; rfl
theorem off_pos (hc : (chk m).2.2 = 0) (h : lngE m ≠ 0) : 0 < (offL m).length := by
  rcases Nat.eq_zero_or_pos (offL m).length with h0 | h0
  · exfalso
    have e := List.eq_nil_of_length_eq_zero h0
    have h1 := (off_law hc).2.2.1
    rw [e, with_none, ← shows_all] at h1
    have h2 := lng_none hc (own_in (chk_good hc)) h
    rw [h1] at h2; cases h2
  · exact h0
/-- With the lengths of Lengths nothing is taken off. -/
theorem off_long (hc : (chk m).2.2 = 0) (h : lngE m = 0) : offL (longM m (lngL m)) = [] := by
  have hin := lng_in hc h
  refine off_nil (long_chk hc hin) ?_
  rw [shows_all, long_all hin]
  exact lng_shows hc h
end
end Go.Proofs.YthkgnhcknkjgdaaDoor

/-
  Models in which the same is seen: higher ones.
  No conditions but those in the theorems.
-/
namespace Go.Proofs.YthkgnhcknkjgdaaDoor
open Go
/-- Two models in which the same is needed and the same is seen. -/
structure Same (m m' : Mod) : Prop where
  n : m'.ps.length = m.ps.length
  k : m'.ss.length = m.ss.length
  len : ∀ i, i < m.ps.length → (m'.ps.getD i default).len = (m.ps.getD i default).len ∧ (m'.ps.getD i default).most = (m.ps.getD i default).most
  need : ∀ l i, i < m.ps.length → needS m' l i = needS m l i
  lo : ∀ l i s, i < m.ps.length → s < m.ss.length → seesB m' l (m'.ss.getD s default).x (m'.ss.getD s default).y (m'.ss.getD s default).lo i = seesB m l (m.ss.getD s default).x (m.ss.getD s default).y (m.ss.getD s default).lo i
  hi : ∀ l i s, i < m.ps.length → s < m.ss.length → seesB m' l (m'.ss.getD s default).x (m'.ss.getD s default).y (m'.ss.getD s default).hi i = seesB m l (m.ss.getD s default).x (m.ss.getD s default).y (m.ss.getD s default).hi i
section
variable {m m' : Mod} {l : List Int}
theorem Same.own (h : Same m m') : ownS m' = ownS m := agree_eq (n := m.ps.length) (by rw [own_len, h.n]) own_len (fun i hi => by rw [own_at (by rw [h.n]; exact hi), own_at hi, (h.len i hi).1])
theorem Same.own6 (h : Same m m') : own6 m' = own6 m := by
  refine ext6 own6_len own6_len fun i hi => ?_
  rw [own6_at, own6_at, h.own]
theorem Same.next (h : Same m m') (h6 : m.ps.length ≤ 6) : nextS m' l = nextS m l := by
  unfold nextS
  rw [h.n]
  refine ext6 nx_len nx_len fun i hi => ?_
  rw [nx_at hi, nx_at hi]
  split
  · rename_i h1; rw [h.need l i h1]
  · rfl
theorem Same.too (h : Same m m') : tooF m' l = tooF m l := by
  unfold tooF
  rw [h.n]
  exact find_congr fun i hi => by rw [(h.len i hi).2]
theorem Same.rnd (h : Same m m') (h6 : m.ps.length ≤ 6) : ∀ (f : Nat) (l : List Int) (r : Int), rndS m' f l r = rndS m f l r
  | 0, _, _ => rfl
  | f + 1, l, r => by
    unfold rndS
    rw [h.next h6, h.too]
    cases tooF m (nextS m l) with
    | some i => rfl
    | none => simp only; rw [h.rnd h6 f]
theorem Same.rounds (h : Same m m') (h6 : m.ps.length ≤ 6) : roundsS m' = roundsS m := by unfold roundsS; rw [h.own6, h.rnd h6]
theorem Same.lng (h : Same m m') (hc : (chk m).2.2 = 0) (hc' : (chk m').2.2 = 0) : lngE m' = lngE m ∧ lngL m' = lngL m := by
  have e := h.rounds (chk_good hc).n
  have e1 : lngE m' = lngE m := by unfold lngE; rw [e, hc, hc']
  exact ⟨e1, by unfold lngL; rw [e1, e, h.n]⟩
theorem Same.sel (h : Same m m') {p q : Nat → Bool} (hp : ∀ i, i < m.ps.length → p i = q i) : selN p m'.ps.length = selN q m.ps.length := by rw [h.n]; exact selN_congr hp
theorem Same.sure (h : Same m m') {s : Nat} (hs : s < m.ss.length) (hc : (chk m).2.2 = 0) (hc' : (chk m').2.2 = 0) : sureL m' s = sureL m s ∧ mayL m' s = mayL m s := by
  rw [sure_0 (seen_0 hc hs), sure_0 (seen_0 hc' (by rw [h.k]; exact hs)), may_0 (seen_0 hc hs), may_0 (seen_0 hc' (by rw [h.k]; exact hs)), h.own]
  exact ⟨h.sel (fun i hi => h.lo _ i s hi hs), h.sel (fun i hi => h.hi _ i s hi hs)⟩
theorem Same.shows (h : Same m m') : showsB m' l = showsB m l := by
  unfold showsB
  rw [h.n]
  refine all_congr fun i hi => ?_
  unfold openB
  rw [h.k]
  exact all_congr fun s hs => h.lo l i s hi hs
theorem find_ext {T U : List Int → Bool} {zs : List (List Int)} (h : ∀ z, T z = U z) : zs.find? T = zs.find? U := by rw [show T = U from funext h]
/-- The same pins are taken off. -/
theorem off_same (hc : (chk m).2.2 = 0) (hc' : (chk m').2.2 = 0) (hn : m'.ps.length = m.ps.length) (h : ∀ z, Same (withM m z) (withM m' z)) : offL m' = offL m := by
  have e : offM m' = offM m := by
    rw [← off_ref (chk_good hc).n, ← off_ref (chk_good hc').n, hn]
    exact find_ext fun z => by rw [(h z).own, (h z).shows]
  unfold offL
  rw [e, if_neg (by omega), if_neg (by omega)]
theorem Same.cov (h : Same m m') {z : List Int} (hz : Below6 m.ss.length z) : covB m' z = covB m z := by
  unfold covB
  rw [h.n]
  refine all_congr fun i hi => ?_
  rw [Bool.eq_iff_iff, List.any_eq_true, List.any_eq_true]
  have hs : ∀ s ∈ z, sureB m' s.toNat i = sureB m s.toNat i := fun s hs => by
    obtain ⟨j, hj, rfl⟩ := List.getElem_of_mem hs
    have := hz j hj
    rw [List.getD_eq_getElem?_getD, List.getElem?_eq_getElem hj] at this
    simp only [Option.getD_some] at this
    unfold sureB
    rw [h.own]
    exact h.lo _ i _ hi (by omega)
  constructor
  · rintro ⟨s, h1, h2⟩; exact ⟨s, h1, by rw [← hs s h1]; exact h2⟩
  · rintro ⟨s, h1, h2⟩; exact ⟨s, h1, by rw [hs s h1]; exact h2⟩
theorem fewF_congr {p q : Nat → Bool} {n : Nat} (h : ∀ s, p s = q s) : fewS p n = fewS q n := by rw [show p = q from funext h]
theorem Same.few (h : Same m m') (hc : (chk m).2.2 = 0) (hc' : (chk m').2.2 = 0) : fewE m' = fewE m ∧ fewL m' = fewL m := by
  have e : fewM m' = fewM m := by
    unfold fewM
    rw [h.k]
    exact fewF_congr fun s => h.cov pts_below
  unfold fewE fewL
  rw [e, hc, hc']
  exact ⟨rfl, rfl⟩
end
/-! Higher -/
def upS (c : Int) (s : StT) : StT := { s with lo := s.lo + c, hi := s.hi + c }
def highM (m : Mod) (c : Int) : Mod := { m with hs := m.hs.map (· + c), ss := m.ss.map (upS c) }
section
variable {m : Mod} {l : List Int} {c x y eye lo : Int} {i k : Nat} {u : Int × Int × Int}
theorem high_top {f : Int} (h : 0 ≤ f ∧ f < m.hs.length) : topS (highM m c) l f = topS m l f + c := by
  have e : (m.hs.map (· + c)).getD f.toNat default = m.hs.getD f.toNat default + c := by
    rw [List.getD_eq_getElem?_getD, List.getD_eq_getElem?_getD, List.getElem?_map, List.getElem?_eq_getElem (by omega)]; rfl
  show (m.hs.map (· + c)).getD f.toNat default + _ = m.hs.getD f.toNat default + _ + c
  rw [e]
  show m.hs.getD f.toNat default + c + (match pinAt m f with | some i => l.getD i default | none => 0) = m.hs.getD f.toNat default + (match pinAt m f with | some i => l.getD i default | none => 0) + c
  omega
theorem high_hg (g : Good m) (hi : i < m.ps.length) : hgS (highM m c) i = hgS m i + c := by
  have h := g.fld hi
  have hl := g.l
  unfold fldS at h
  show (m.hs.map (· + c)).getD _ default = m.hs.getD _ default + c
  have : ((m.ps.getD i default).y * m.W + (m.ps.getD i default).x).toNat < m.hs.length := by omega
  generalize hj : ((m.ps.getD i default).y * m.W + (m.ps.getD i default).x).toNat = j at this
  have e : (((highM m c).ps.getD i default).y * (highM m c).W + ((highM m c).ps.getD i default).x).toNat = j := hj
  rw [e, List.getD_eq_getElem?_getD, List.getD_eq_getElem?_getD, List.getElem?_map, List.getElem?_eq_getElem this]; rfl
theorem step_in (h : Way m x y i) (hs : (stepsS m x y i)[k]? = some u) : 0 ≤ u.1 ∧ u.1 < m.hs.length := by
  obtain ⟨j, h1, h2, rfl⟩ := steps_at hs
  have := fld_bd h.g.w h.g.d h2
  have := h.g.l
  simp only; omega
theorem high_hide (h : Way m x y i) (hs : (stepsS m x y i)[k]? = some u) : hideB (highM m c) l (eye + c) i u = hideB m l eye i u := by
  have h1 := h.step hs
  unfold hideB
  rw [high_top (step_in h hs), head_eq, head_eq, high_hg h.g h.i]
  refine decide_eq_decide.2 ?_
  have e1 : (topS m l u.1 + c) * u.2.2 = topS m l u.1 * u.2.2 + c * u.2.2 := Int.add_mul _ _ _
  have e2 : (eye + c) * (u.2.2 - u.2.1) = eye * (u.2.2 - u.2.1) + (c * u.2.2 - c * u.2.1) := by rw [Int.add_mul, Int.mul_sub c]
  have e3 : (hgS m i + c + l.getD i default) * u.2.1 = (hgS m i + l.getD i default) * u.2.1 + c * u.2.1 := by rw [← Int.add_mul]; congr 1; omega
  rw [e1, e2, e3]
  omega
theorem high_more (h : Way m x y i) (hs : (stepsS m x y i)[k]? = some u) : more2 (highM m c) l (lo + c) i u = more2 m l lo i u := by
  unfold more2
  rw [high_top (step_in h hs), high_hg h.g h.i]
  have e1 : (topS m l u.1 + c) * u.2.2 = topS m l u.1 * u.2.2 + c * u.2.2 := Int.add_mul _ _ _
  have e2 : (lo + c) * (u.2.2 - u.2.1) = lo * (u.2.2 - u.2.1) + (c * u.2.2 - c * u.2.1) := by rw [Int.add_mul, Int.mul_sub c]
  have e3 : (hgS m i + c) * u.2.1 = hgS m i * u.2.1 + c * u.2.1 := Int.add_mul _ _ _
  rw [e1, e2, e3]
  omega
theorem high_st {s : Nat} (hs : s < m.ss.length) : (highM m c).ss.getD s default = upS c (m.ss.getD s default) := by
  show (m.ss.map (upS c)).getD s default = _
  rw [List.getD_eq_getElem?_getD, List.getD_eq_getElem?_getD, List.getElem?_map, List.getElem?_eq_getElem hs]; rfl
theorem filter_at {E : Type} {p q : E → Bool} {xs : List E} (h : ∀ (k : Nat) u, xs[k]? = some u → p u = q u) : xs.filter p = xs.filter q := List.filter_congr (fun u hu => by
  obtain ⟨k, hk⟩ := List.getElem?_of_mem hu
  exact h k u hk)
theorem high_sees (h : Way m x y i) : seesB (highM m c) l x y (eye + c) i = seesB m l x y eye i := by
  unfold seesB hidesS
  have e : stepsS (highM m c) x y i = stepsS m x y i := rfl
  rw [e, filter_at (fun k u hu => high_hide h hu)]
theorem Good.way {s : Nat} (g : Good m) (hi : i < m.ps.length) (hs : s < m.ss.length) : Way m (m.ss.getD s default).x (m.ss.getD s default).y i := by
  have := g.st hs
  exact ⟨g, hi, by omega, by omega⟩
theorem map_at {E F : Type} {p q : E → F} {xs : List E} (h : ∀ (k : Nat) u, xs[k]? = some u → p u = q u) : xs.map p = xs.map q := List.map_congr_left (fun u hu => by
  obtain ⟨k, hk⟩ := List.getElem?_of_mem hu
  exact h k u hk)
theorem high_need (g : Good m) (hi : i < m.ps.length) : needS (highM m c) l i = needS m l i := by
  have hk : ∀ k, k ≤ m.ss.length → needK (highM m c) l i k = needK m l i k := by
    intro k
    induction k with
    | zero => intro _; rfl
    | succ k ih =>
      intro hk
      unfold needK
      rw [ih (by omega)]
      unfold needA
      rw [high_st (by omega)]
      have e : stepsS (highM m c) (upS c (m.ss.getD k default)).x (upS c (m.ss.getD k default)).y i = stepsS m (m.ss.getD k default).x (m.ss.getD k default).y i := rfl
      rw [e]
      congr 1
      refine map_at fun j u hu => ?_
      unfold needE
      have e2 : (upS c (m.ss.getD k default)).lo = (m.ss.getD k default).lo + c := rfl
      rw [e2, high_more (g.way hi (by omega)) hu]
  have e : (highM m c).ss.length = m.ss.length := by simp [highM]
  unfold needS
  rw [e]; exact hk _ (Nat.le_refl _)
theorem high_same (g : Good m) : Same m (highM m c) where
  n := rfl
  k := by simp [highM]
  len := fun _ _ => ⟨rfl, rfl⟩
  need := fun l i hi => high_need g hi
  lo := fun l i s hi hs => by rw [high_st hs]; exact high_sees (g.way hi hs)
  hi := fun l i s hi hs => by rw [high_st hs]; exact high_sees (g.way hi hs)
theorem high_with {z : List Int} : withM (highM m c) z = highM (withM m z) c := rfl
/-- With higher fields and eyes all is the same. -/
theorem high_law (hc : (chk m).2.2 = 0) (hc' : (chk (highM m c)).2.2 = 0) : (lngE (highM m c) = lngE m ∧ lngL (highM m c) = lngL m) ∧ offL (highM m c) = offL m ∧ ∀ s : Nat, s < m.ss.length → sureL (highM m c) s = sureL m s ∧ mayL (highM m c) s = mayL m s := by
  have h := high_same (c := c) (chk_good hc)
  exact ⟨h.lng hc hc', off_same hc hc' rfl (fun z => by rw [high_with]; exact high_same (chk_good (with_chk hc))), fun s hs => h.sure hs hc hc'⟩
end
end Go.Proofs.YthkgnhcknkjgdaaDoor

/-
  Models that are mirrored, or whose X and Y are exchanged.
  No conditions but those in the theorems.
-/
namespace Go.Proofs.YthkgnhcknkjgdaaDoor
open Go
@[reducible] def ovX (W : Int) (t : Bool) (x y : Int) : Int := if t then y else W - 1 - x
@[reducible] def ovY (t : Bool) (x y : Int) : Int := if t then x else y
def mW (m : Mod) (t : Bool) : Int := if t then m.D else m.W
def mD (m : Mod) (t : Bool) : Int := if t then m.W else m.D
/-- Where the height of a field of the other model lies. -/
def mAt (W : Int) (t : Bool) (w j : Nat) : Int := if t then ((j % w : Nat) : Int) * W + ((j / w : Nat) : Int) else ((j / w : Nat) : Int) * W + W - 1 - ((j % w : Nat) : Int)
def mirH (m : Mod) (t : Bool) (n : Nat) : List Int := (List.range n).map fun j => m.hs.getD (mAt m.W t (mW m t).toNat j).toNat default
def mirP (W : Int) (t : Bool) (p : PinT) : PinT := { p with x := ovX W t p.x p.y, y := ovY t p.x p.y }
def mirS (W : Int) (t : Bool) (s : StT) : StT := { s with x := ovX W t s.x s.y, y := ovY t s.x s.y }
def mirM (m : Mod) (t : Bool) : Mod := { W := mW m t, D := mD m t, hs := mirH m t ((mD m t).toNat * (mW m t).toNat), ps := m.ps.map (mirP m.W t), ss := m.ss.map (mirS m.W t) }
theorem mirH_succ {m : Mod} {t : Bool} {n : Nat} : mirH m t (n + 1) = mirH m t n ++ [m.hs.getD (mAt m.W t (mW m t).toNat n).toNat default] := by unfold mirH; rw [List.range_succ, List.map_append]; rfl
theorem mirH_len {m : Mod} {t : Bool} {n : Nat} : (mirH m t n).length = n := by simp [mirH]
section
variable {m : Mod} {t : Bool} {l : List Int} {x y eye lo : Int} {i k : Nat}
theorem mir_p (hi : i < m.ps.length) : (mirM m t).ps.getD i default = mirP m.W t (m.ps.getD i default) := by
  show (m.ps.map (mirP m.W t)).getD i default = _
  rw [List.getD_eq_getElem?_getD, List.getD_eq_getElem?_getD, List.getElem?_map, List.getElem?_eq_getElem hi]; rfl
theorem mir_s (hi : i < m.ss.length) : (mirM m t).ss.getD i default = mirS m.W t (m.ss.getD i default) := by
  show (m.ss.map (mirS m.W t)).getD i default = _
  rw [List.getD_eq_getElem?_getD, List.getD_eq_getElem?_getD, List.getElem?_map, List.getElem?_eq_getElem hi]; rfl
theorem mir_on : onF (mW m t) (mD m t) (ovX m.W t x y) (ovY t x y) ↔ onF m.W m.D x y := by
  cases t
  · show onF m.W m.D (m.W - 1 - x) y ↔ _
    constructor <;> intro h <;> omega
  · show onF m.D m.W y x ↔ _
    constructor <;> intro h <;> omega
theorem mir_w (g : Good m) : (1 ≤ mW m t ∧ mW m t ≤ 8) ∧ (1 ≤ mD m t ∧ mD m t ≤ 8) := by
  have h1 := g.w
  have h2 := g.d
  cases t
  · exact ⟨h1, h2⟩
  · exact ⟨h2, h1⟩
/-- The number of a field in the other model. -/
def mirF (m : Mod) (t : Bool) (x y : Int) : Int := ovY t x y * mW m t + ovX m.W t x y
theorem div_fld {w a b : Nat} (h : b < w) : (a * w + b) / w = a ∧ (a * w + b) % w = b := by
  constructor
  · rw [Nat.add_comm, Nat.add_mul_div_right _ _ (by omega), Nat.div_eq_of_lt h]; omega
  · rw [Nat.add_comm, Nat.add_mul_mod_self_right, Nat.mod_eq_of_lt h]
theorem mir_at (g : Good m) (h : onF m.W m.D x y) : (mirM m t).hs.getD (mirF m t x y).toNat default = m.hs.getD (y * m.W + x).toNat default := by
  have hw := mir_w (t := t) g
  have ho := mir_on (t := t).2 h
  have hb := fld_bd hw.1 hw.2 ho
  obtain ⟨w, ew⟩ := Int.eq_ofNat_of_zero_le (show 0 ≤ mW m t by omega)
  obtain ⟨d, ed⟩ := Int.eq_ofNat_of_zero_le (show 0 ≤ mD m t by omega)
  obtain ⟨a, ea⟩ := Int.eq_ofNat_of_zero_le (show 0 ≤ ovX m.W t x y from ho.1.1)
  obtain ⟨b, eb⟩ := Int.eq_ofNat_of_zero_le (show 0 ≤ ovY t x y from ho.2.1)
  rw [ew, ed, ea, eb] at hb ho
  have hab : (mirF m t x y).toNat = b * w + a := by
    unfold mirF; rw [ew, ea, eb, ← Int.natCast_mul, ← Int.natCast_add, Int.toNat_natCast]
  have hlt : b * w + a < d * w := by
    have h1 := hb.2.1
    rw [Int.mul_comm (w : Int) (d : Int), ← Int.natCast_mul, ← Int.natCast_mul, ← Int.natCast_add] at h1
    exact Int.ofNat_lt.1 h1
  show (mirH m t ((mD m t).toNat * (mW m t).toNat)).getD _ default = _
  rw [hab, ew, ed, Int.toNat_natCast, Int.toNat_natCast]
  unfold mirH
  rw [List.getD_eq_getElem?_getD, List.getElem?_map, List.getElem?_range hlt, ew, Int.toNat_natCast]
  simp only [Option.map_some, Option.getD_some]
  have hdm := div_fld (w := w) (a := b) (b := a) (by omega)
  have e : mAt m.W t w (b * w + a) = y * m.W + x := by
    unfold mAt
    rw [hdm.1, hdm.2]
    cases t
    · have e1 : m.W - 1 - x = (a : Int) := ea
      have e2 : y = (b : Int) := eb
      simp only [Bool.false_eq_true, if_false]
      rw [← e1, ← e2]; omega
    · have e1 : y = (a : Int) := ea
      have e2 : x = (b : Int) := eb
      simp only [if_true]
      rw [← e1, ← e2]
  rw [e]
theorem mir_inj (g : Good m) {a b : Int} (h : onF m.W m.D x y) (h' : onF m.W m.D a b) : mirF m t x y = mirF m t a b ↔ y * m.W + x = b * m.W + a := by
  constructor
  · intro e
    have := fld_inj (mir_w (t := t) g).1 (mir_on (t := t).2 h) (mir_on (t := t).2 h') e
    have hxy : x = a ∧ y = b := by
      cases t
      · have h1 : m.W - 1 - x = m.W - 1 - a := this.1
        have h2 : y = b := this.2
        omega
      · have h1 : y = b := this.1
        have h2 : x = a := this.2
        omega
    rw [hxy.1, hxy.2]
  · intro e
    have := fld_inj g.w h h' e
    rw [this.1, this.2]
theorem mir_fld (hi : i < m.ps.length) : fldS (mirM m t) i = mirF m t (m.ps.getD i default).x (m.ps.getD i default).y := by
  unfold fldS; rw [mir_p hi]; rfl
theorem mir_pinAt (g : Good m) (h : onF m.W m.D x y) : pinAt (mirM m t) (mirF m t x y) = pinAt m (y * m.W + x) := by
  have e : (mirM m t).ps.length = m.ps.length := by simp [mirM]
  show (List.range (mirM m t).ps.length).find? (fun i => decide (fldS (mirM m t) i = mirF m t x y)) = _
  rw [e]
  refine find_congr fun i hi => decide_eq_decide.2 ?_
  rw [mir_fld hi]
  exact mir_inj g (g.p i hi).1 h
theorem mir_top (g : Good m) (h : onF m.W m.D x y) : topS (mirM m t) l (mirF m t x y) = topS m l (y * m.W + x) := by
  rw [topS_eq, topS_eq, mir_at g h, mir_pinAt g h]
theorem mir_hg (g : Good m) (hi : i < m.ps.length) : hgS (mirM m t) i = hgS m i := by
  have h := mir_at (t := t) g (g.p i hi).1
  have e := mir_fld (m := m) (t := t) hi
  unfold fldS at e
  unfold hgS
  rw [e]; exact h
theorem gcd_neg (a b : Int) : gcdS (-a) b = gcdS a b := by unfold gcdS; rw [Int.neg_gcd]
theorem gcd_comm (a b : Int) : gcdS a b = gcdS b a := by unfold gcdS; rw [Int.gcd_comm]
theorem mir_gS (hi : i < m.ps.length) : gS (mirM m t) (ovX m.W t x y) (ovY t x y) i = gS m x y i := by
  unfold gS
  rw [mir_p hi]
  cases t
  · show gcdS ((m.W - 1 - (m.ps.getD i default).x) - (m.W - 1 - x)) ((m.ps.getD i default).y - y) = _
    rw [show (m.W - 1 - (m.ps.getD i default).x) - (m.W - 1 - x) = -((m.ps.getD i default).x - x) by omega, gcd_neg]
  · show gcdS ((m.ps.getD i default).y - y) ((m.ps.getD i default).x - x) = _
    rw [gcd_comm]
theorem neg_quo {a g : Int} (h : g ∣ a) (h0 : g ≠ 0) : -a / g = -(a / g) := by
  obtain ⟨q, rfl⟩ := h
  rw [Int.mul_ediv_cancel_left _ h0, ← Int.mul_neg, Int.mul_ediv_cancel_left _ h0]
theorem mir_atX (hi : i < m.ps.length) (hg : gS m x y i ≠ 0) : atX (mirM m t) (ovX m.W t x y) (ovY t x y) i k = ovX m.W t (atX m x y i k) (atY m x y i k) ∧ atY (mirM m t) (ovX m.W t x y) (ovY t x y) i k = ovY t (atX m x y i k) (atY m x y i k) := by
  unfold atX atY
  rw [mir_gS hi, mir_p hi]
  cases t
  · constructor
    · show m.W - 1 - x + ((m.W - 1 - (m.ps.getD i default).x) - (m.W - 1 - x)) / gS m x y i * ((k : Int) + 1) = m.W - 1 - (x + ((m.ps.getD i default).x - x) / gS m x y i * ((k : Int) + 1))
      rw [show (m.W - 1 - (m.ps.getD i default).x) - (m.W - 1 - x) = -((m.ps.getD i default).x - x) by omega, neg_quo gS_x hg, Int.neg_mul]
      omega
    · rfl
  · exact ⟨rfl, rfl⟩
def mirU (m : Mod) (t : Bool) (u : Int × Int × Int) : Int × Int × Int := (mirF m t (u.1 % m.W) (u.1 / m.W), u.2)
theorem fld_parts (g : Good m) (h : onF m.W m.D x y) : (y * m.W + x) % m.W = x ∧ (y * m.W + x) / m.W = y := by
  have hw := g.w
  constructor
  · rw [Int.add_comm, Int.add_mul_emod_self_right, Int.emod_eq_of_lt h.1.1 (by omega)]
  · rw [Int.add_comm, Int.add_mul_ediv_right _ _ (by omega), Int.ediv_eq_zero_of_lt h.1.1 (by omega)]; omega
theorem mir_st1 (g : Good m) (hi : i < m.ps.length) (hk : (k : Int) + 1 < gS m x y i) : st1 (mirM m t) (ovX m.W t x y) (ovY t x y) i k = (st1 m x y i k).map (mirU m t) := by
  have hA := mir_atX (t := t) (k := k) (x := x) (y := y) hi (by omega)
  by_cases h : onF m.W m.D (atX m x y i k) (atY m x y i k)
  · have h2 : onF (mirM m t).W (mirM m t).D (atX (mirM m t) (ovX m.W t x y) (ovY t x y) i k) (atY (mirM m t) (ovX m.W t x y) (ovY t x y) i k) := by
      rw [hA.1, hA.2]; exact mir_on.2 h
    rw [st1_some h, st1_some h2, mir_gS hi, hA.1, hA.2]
    unfold mirU
    simp only [Option.map_some]
    rw [(fld_parts g h).1, (fld_parts g h).2]
    rfl
  · have h2 : ¬ onF (mirM m t).W (mirM m t).D (atX (mirM m t) (ovX m.W t x y) (ovY t x y) i k) (atY (mirM m t) (ovX m.W t x y) (ovY t x y) i k) := by
      rw [hA.1, hA.2]; exact fun h3 => h (mir_on.1 h3)
    rw [st1_none h, st1_none h2]; rfl
theorem mir_steps (g : Good m) (hi : i < m.ps.length) : stepsS (mirM m t) (ovX m.W t x y) (ovY t x y) i = (stepsS m x y i).map (mirU m t) := by
  have hk : ∀ k : Nat, (k : Int) + 1 ≤ gS m x y i ∨ k = 0 → stK (mirM m t) (ovX m.W t x y) (ovY t x y) i k = (stK m x y i k).map (mirU m t) := by
    intro k
    induction k with
    | zero => intro _; rfl
    | succ k ih =>
      intro hk
      have h1 : (k : Int) + 1 < gS m x y i := by omega
      have h2 := ih (by omega)
      have h3 := mir_st1 (t := t) g hi h1
      cases e : st1 m x y i k with
      | none => rw [e] at h3; rw [stK_none e, stK_none h3, h2]
      | some u => rw [e] at h3; rw [stK_some e, stK_some (s := mirU m t u) h3, h2, List.map_append]; rfl
  rw [stepsS_eq, stepsS_eq, mir_gS hi]
  exact hk _ (by omega)
theorem mir_utop (h : Way m x y i) {u : Int × Int × Int} (hs : (stepsS m x y i)[k]? = some u) : topS (mirM m t) l (mirU m t u).1 = topS m l u.1 := by
  obtain ⟨j, h1, h2, rfl⟩ := steps_at hs
  unfold mirU
  simp only
  rw [(fld_parts h.g h2).1, (fld_parts h.g h2).2]
  exact mir_top h.g h2
theorem mir_hide (h : Way m x y i) {u : Int × Int × Int} (hs : (stepsS m x y i)[k]? = some u) : hideB (mirM m t) l eye i (mirU m t u) = hideB m l eye i u := by
  have e := mir_utop (t := t) (l := l) h hs
  have e2 : headS (mirM m t) l i = headS m l i := by rw [head_eq, head_eq, mir_hg h.g h.i]
  unfold hideB
  rw [e, e2]; rfl
theorem mir_sees (h : Way m x y i) : seesB (mirM m t) l (ovX m.W t x y) (ovY t x y) eye i = seesB m l x y eye i := by
  have e : (((stepsS m x y i).map (mirU m t)).filter (hideB (mirM m t) l eye i)).isEmpty = ((stepsS m x y i).filter (hideB m l eye i)).isEmpty := by
    rw [List.filter_map, List.isEmpty_map]
    congr 1
    exact filter_at fun k u hu => mir_hide h hu
  unfold seesB hidesS
  rw [mir_steps h.g h.i, List.isEmpty_map, List.isEmpty_map, e]
theorem mir_need (g : Good m) (hi : i < m.ps.length) : needS (mirM m t) l i = needS m l i := by
  have hk : ∀ k, k ≤ m.ss.length → needK (mirM m t) l i k = needK m l i k := by
    intro k
    induction k with
    | zero => intro _; rfl
    | succ k ih =>
      intro hk
      unfold needK
      rw [ih (by omega)]
      unfold needA
      rw [mir_s (by omega)]
      show ((stepsS (mirM m t) (ovX m.W t (m.ss.getD k default).x (m.ss.getD k default).y) (ovY t (m.ss.getD k default).x (m.ss.getD k default).y) i).map (needE (mirM m t) l (m.ss.getD k default).lo i)).foldl max _ = _
      rw [mir_steps g hi, List.map_map]
      congr 1
      refine map_at fun j u hu => ?_
      have e := mir_utop (t := t) (l := l) (g.way hi (by omega)) hu
      show needE (mirM m t) l (m.ss.getD k default).lo i (mirU m t u) = _
      unfold needE more2
      rw [e, mir_hg g hi]; rfl
  have e : (mirM m t).ss.length = m.ss.length := by simp [mirM]
  unfold needS
  rw [e]; exact hk _ (Nat.le_refl _)
theorem mir_same (g : Good m) : Same m (mirM m t) where
  n := by simp [mirM]
  k := by simp [mirM]
  len := fun i hi => by rw [mir_p hi]; exact ⟨rfl, rfl⟩
  need := fun l i hi => mir_need g hi
  lo := fun l i s hi hs => by rw [mir_s hs]; exact mir_sees (g.way hi hs)
  hi := fun l i s hi hs => by rw [mir_s hs]; exact mir_sees (g.way hi hs)
theorem mir_with {z : List Int} : withM (mirM m t) z = mirM (withM m z) t := by
  have e : withP (mirM m t) z (mirM m t).ps.length = (withP m z m.ps.length).map (mirP m.W t) := by
    have e1 : (mirM m t).ps.length = m.ps.length := by simp [mirM]
    rw [e1]
    unfold withP
    rw [List.map_map]
    refine List.map_congr_left fun i hi => ?_
    exact mir_p (List.mem_range.1 (List.mem_filter.1 hi).1)
  unfold withM
  rw [e]; rfl
/-- From the place of Best as many pins are seen. -/
theorem mir_from (g : Good m) (hx : -20 ≤ x ∧ x ≤ 20) (hy : -20 ≤ y ∧ y ≤ 20) : fromL (mirM m t) (ovX m.W t x y) (ovY t x y) eye = fromL m x y eye := by
  have h := mir_same (t := t) g
  unfold fromL
  rw [h.own]
  exact h.sel fun i hi => mir_sees ⟨g, hi, hx, hy⟩
theorem mir_best (g : Good m) : (bestA (mirM m t) eye).2.2.1.length = (bestA m eye).2.2.1.length := by
  have hw := g.w
  have hd := g.d
  have hw' := mir_w (t := t) g
  obtain ⟨⟨a1, a2, a3, a4⟩, a5⟩ := best_spec (m := m) (eye := eye) (by omega) (by omega)
  obtain ⟨⟨b1, b2, b3, b4⟩, b5⟩ := best_spec (m := mirM m t) (eye := eye) (show 0 ≤ mW m t by omega) (show 0 ≤ mD m t by omega)
  apply Nat.le_antisymm
  · rw [b1]
    generalize (bestA (mirM m t) eye).1 = u at *
    generalize (bestA (mirM m t) eye).2.1 = v at *
    have b2' : -1 ≤ u ∧ u ≤ mW m t := b2
    have b3' : -1 ≤ v ∧ v ≤ mD m t := b3
    have b4' : ¬ onF (mW m t) (mD m t) u v := b4
    obtain ⟨x, y, ex, ey, hx, hy⟩ : ∃ x y, ovX m.W t x y = u ∧ ovY t x y = v ∧ (-1 ≤ x ∧ x ≤ m.W) ∧ (-1 ≤ y ∧ y ≤ m.D) := by
      cases t
      · have q1 : -1 ≤ u ∧ u ≤ m.W := b2'
        have q2 : -1 ≤ v ∧ v ≤ m.D := b3'
        exact ⟨m.W - 1 - u, v, by show m.W - 1 - (m.W - 1 - u) = u; omega, rfl, by omega, by omega⟩
      · exact ⟨v, u, rfl, rfl, b3', b2'⟩
    subst ex ey
    rw [mir_from g (by omega) (by omega)]
    exact (a5 x y hx hy (fun h => b4' (mir_on.2 h))).1
  · rw [a1]
    generalize (bestA m eye).1 = x at *
    generalize (bestA m eye).2.1 = y at *
    rw [← mir_from (t := t) g (by omega) (by omega)]
    refine (b5 (ovX m.W t x y) (ovY t x y) ?_ ?_ (fun h => a4 (mir_on.1 h))).1
    · show -1 ≤ ovX m.W t x y ∧ ovX m.W t x y ≤ mW m t
      cases t
      · show -1 ≤ m.W - 1 - x ∧ m.W - 1 - x ≤ m.W; omega
      · exact a3
    · show -1 ≤ ovY t x y ∧ ovY t x y ≤ mD m t
      cases t
      · exact a3
      · exact a2
theorem mir_law (hc : (chk m).2.2 = 0) (hc' : (chk (mirM m t)).2.2 = 0) : (lngE (mirM m t) = lngE m ∧ lngL (mirM m t) = lngL m) ∧ offL (mirM m t) = offL m ∧ (fewE (mirM m t) = fewE m ∧ fewL (mirM m t) = fewL m) ∧ (∀ eye, 0 ≤ eye ∧ eye ≤ 2000 → (bestR (mirM m t) eye).2.2.length = (bestR m eye).2.2.length ∧ bestE (mirM m t) eye = 0 ∧ bestE m eye = 0) ∧ ∀ s : Nat, s < m.ss.length → sureL (mirM m t) s = sureL m s ∧ mayL (mirM m t) s = mayL m s := by
  have h := mir_same (t := t) (chk_good hc)
  refine ⟨h.lng hc hc', off_same hc hc' h.n (fun z => by rw [mir_with]; exact mir_same (chk_good (with_chk hc))), h.few hc hc', fun eye he => ?_, fun s hs => h.sure hs hc hc'⟩
  have e1 : bestE m eye = 0 := by unfold bestE; rw [if_neg (by omega), if_neg (by omega)]
  have e2 : bestE (mirM m t) eye = 0 := by unfold bestE; rw [if_neg (by omega), if_neg (by omega)]
  refine ⟨?_, e2, e1⟩
  unfold bestR
  rw [if_pos e1, if_pos e2]
  exact mir_best (chk_good hc)
end
end Go.Proofs.YthkgnhcknkjgdaaDoor

/-
  What the laws' own small functions return.
  No conditions but those in the theorems.
-/
namespace Go.Proofs.YthkgnhcknkjgdaaDoor
open Go
@[reducible] def eH (x : Int) : List Value := [.int .u16 x]
def turnS (ys : List Int) (n : Nat) : Int := if ys.length = 0 then 0 else ys.getD (n % ys.length) default
theorem turn_bd {ys : List Int} {n : Nat} (h : ∀ x ∈ ys, 0 ≤ x ∧ x ≤ 65535) : 0 ≤ turnS ys n ∧ turnS ys n ≤ 65535 := by
  unfold turnS
  split
  · omega
  · exact h _ (K.gt_mem (Nat.mod_lt n (by omega)))
/-- Any length of a pin. -/
def anyE (m : Mod) (ys : List Int) (i : Nat) : Int := (m.ps.getD i default).len + turnS ys i % ((m.ps.getD i default).most - (m.ps.getD i default).len + 1)
def anyL (m : Mod) (ys : List Int) (k : Nat) : List Int := (List.range k).map (anyE m ys)
section
variable {m : Mod} {ys : List Int} {k i : Nat}
theorem anyL_succ : anyL m ys (k + 1) = anyL m ys k ++ [anyE m ys k] := by unfold anyL; rw [List.range_succ, List.map_append]; rfl
theorem anyL_len : (anyL m ys k).length = k := by simp [anyL]
theorem anyL_at (h : i < k) : (anyL m ys k).getD i default = anyE m ys i := by
  unfold anyL; rw [List.getD_eq_getElem?_getD, List.getElem?_map, List.getElem?_range h]; rfl
theorem anyE_bd (g : Good m) (hi : i < m.ps.length) : (0 ≤ turnS ys i % ((m.ps.getD i default).most - (m.ps.getD i default).len + 1) ∧ turnS ys i % ((m.ps.getD i default).most - (m.ps.getD i default).len + 1) ≤ (m.ps.getD i default).most - (m.ps.getD i default).len) := by
  have h := g.p i hi
  have h1 := Int.emod_nonneg (turnS ys i) (b := (m.ps.getD i default).most - (m.ps.getD i default).len + 1) (by omega)
  have h2 := Int.emod_lt_of_pos (turnS ys i) (b := (m.ps.getD i default).most - (m.ps.getD i default).len + 1) (by omega)
  omega
theorem any_in (g : Good m) : InB m (anyL m ys m.ps.length) := ⟨anyL_len, fun i hi => by
  have := anyE_bd (ys := ys) g hi
  rw [anyL_at hi]; unfold anyE; omega⟩
theorem all_iff (hc : (chk m).2.2 = 0) : allB m = true ↔ ∀ s : Nat, s < m.ss.length → (sureL m s).length = m.ps.length := by
  unfold allB
  rw [List.all_eq_true]
  constructor
  · intro h s hs
    rw [sure_0 (seen_0 hc hs), seenL_full]; exact h s (List.mem_range.2 hs)
  · intro h s hs
    have h1 := h s (List.mem_range.1 hs)
    rw [sure_0 (seen_0 hc (List.mem_range.1 hs)), seenL_full] at h1
    exact h1
theorem asc_f {l : List Int} {n i : Nat} (hi : i < l.length) (h : ¬ ((0 ≤ l.getD i default ∧ l.getD i default < (n : Int)) ∧ (i = 0 ∨ l.getD (i - 1) default < l.getD i default))) : ascB l n = false := by
  unfold ascB
  refine List.all_eq_false.2 ⟨i, List.mem_range.2 hi, fun h2 => h ?_⟩
  rw [Bool.and_eq_true, Bool.or_eq_true, decide_eq_true_eq, decide_eq_true_eq, beq_iff_eq] at h2
  exact h2
theorem asc_t {l : List Int} {n : Nat} (h : ∀ i, i < l.length → ((0 ≤ l.getD i default ∧ l.getD i default < (n : Int)) ∧ (i = 0 ∨ l.getD (i - 1) default < l.getD i default))) : ascB l n = true := by
  unfold ascB
  refine List.all_eq_true.2 fun i hi => ?_
  rw [Bool.and_eq_true, Bool.or_eq_true, decide_eq_true_eq, decide_eq_true_eq, beq_iff_eq]
  exact h i (List.mem_range.1 hi)
theorem bit8_all : (List.range 256).all (fun b => (List.range 6).all fun i => decide ((((b : Nat) : Int).fdiv (2 ^ min (Int.toNat ((i : Nat) : Int)) IntKind.u8.bits)) % 2 = 1) == b.testBit i) = true := by decide +kernel
theorem bit8 {b i : Nat} (hb : b < 256) (hi : i < 6) : decide ((((b : Nat) : Int).fdiv (2 ^ min (Int.toNat ((i : Nat) : Int)) IntKind.u8.bits)) % 2 = 1) = b.testBit i := by
  have h1 := List.all_eq_true.1 bit8_all b (List.mem_range.2 hb)
  have h2 := List.all_eq_true.1 h1 i (List.mem_range.2 hi)
  exact eq_of_beq h2
theorem fdiv_nn {b i : Nat} : 0 ≤ ((b : Nat) : Int).fdiv (2 ^ min (Int.toNat ((i : Nat) : Int)) IntKind.u8.bits) := by
  rw [Int.fdiv_eq_ediv_of_nonneg _ (Int.le_of_lt (Int.pow_pos (by decide)))]
  exact Int.ediv_nonneg (Int.natCast_nonneg _) (Int.le_of_lt (Int.pow_pos (by decide)))
theorem oneN (ps : List PinT) : (ps.flatMap eN).all Value.oneCell' = true := by
  induction ps with
  | nil => rfl
  | cons p ps ih => rw [List.flatMap_cons, List.all_append, ih]; rfl
end
end Go.Proofs.YthkgnhcknkjgdaaDoor

/-
  Lengths made greater, for the first pins.
  No conditions but those in the theorems.
-/
namespace Go.Proofs.YthkgnhcknkjgdaaDoor
open Go
/-- The greater of two lengths, for the first k pins but one. -/
def mxL (l b : List Int) (p k : Nat) : List Int := (List.range l.length).map fun i => if i < k ∧ i ≠ p then max (l.getD i default) (b.getD i default) else l.getD i default
section
variable {m : Mod} {l b : List Int} {p k i : Nat}
theorem mx_len : (mxL l b p k).length = l.length := by simp [mxL]
theorem mx_at (h : i < l.length) : (mxL l b p k).getD i default = if i < k ∧ i ≠ p then max (l.getD i default) (b.getD i default) else l.getD i default := by
  unfold mxL; rw [List.getD_eq_getElem?_getD, List.getElem?_map, List.getElem?_range h]; rfl
theorem mx_0 : mxL l b p 0 = l := by
  refine agree_eq (n := l.length) mx_len rfl (fun i hi => ?_)
  rw [mx_at hi, if_neg (by omega)]
theorem mx_set (h : k < l.length) (hp : k ≠ p) : (mxL l b p k).set k (max ((mxL l b p k).getD k default) (b.getD k default)) = mxL l b p (k + 1) := by
  refine agree_eq (n := l.length) (by rw [List.length_set, mx_len]) mx_len (fun i hi => ?_)
  rw [mx_at hi, mx_at h, if_neg (by omega)]
  rcases Nat.lt_trichotomy i k with h1 | h1 | h1
  · rw [List.getD_eq_getElem?_getD, List.getElem?_set_ne (by omega), ← List.getD_eq_getElem?_getD, mx_at hi]
    by_cases h2 : i ≠ p
    · rw [if_pos ⟨h1, h2⟩, if_pos ⟨by omega, h2⟩]
    · rw [if_neg (by omega), if_neg (by omega)]
  · subst h1
    rw [set_at (by rw [mx_len]; exact h), if_pos ⟨by omega, hp⟩]
  · rw [List.getD_eq_getElem?_getD, List.getElem?_set_ne (by omega), ← List.getD_eq_getElem?_getD, mx_at hi, if_neg (by omega), if_neg (by omega)]
theorem mx_skip : mxL l b p (p + 1) = mxL l b p p := by
  refine agree_eq (n := l.length) mx_len mx_len (fun i hi => ?_)
  rw [mx_at hi, mx_at hi]
  by_cases h : i < p
  · rw [if_pos ⟨by omega, by omega⟩, if_pos ⟨h, by omega⟩]
  · rw [if_neg (by omega), if_neg (by omega)]
theorem mx_in (h : InB m l) (hb : LM m b) : InB m (mxL l b p m.ps.length) := ⟨mx_len.trans h.n, fun i hi => by
  have h1 := h.b i hi
  have h2 := hb i hi
  rw [mx_at (by rw [h.n]; exact hi)]
  split
  · omega
  · exact h1⟩
theorem mx_ge (h : InB m l) (hi : i < m.ps.length) (hne : i ≠ p) : b.getD i default ≤ (mxL l b p m.ps.length).getD i default := by
  rw [mx_at (by rw [h.n]; exact hi), if_pos ⟨hi, hne⟩]; omega
end
end Go.Proofs.YthkgnhcknkjgdaaDoor
