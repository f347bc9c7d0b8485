/-
  Plain lemmas and plain functions, several texts joined.
  Conditions stand in each theorem.
-/
import Derived.Test.YtoemnobfnnjopaaDoorS2
set_option linter.unusedSimpArgs false
set_option linter.unusedVariables false
/-
  What runs down: bad points, water that is poured, filling and carving.
  No conditions but those in the theorems.
-/
namespace Go.Proofs.YtoemnobfnnjopaaDoor
open Go
/-- The heights of points. -/
def ownS (r : List RvT) : List Int := r.map (·.ht)
theorem own_at {r : List RvT} {i : Nat} (h : i < r.length) : (ownS r).getD i default = (r.getD i default).ht := by
  unfold ownS
  rw [List.getD_eq_getElem?_getD, List.getElem?_map, List.getD_eq_getElem?_getD, List.getElem?_eq_getElem h]; rfl
theorem own_len {r : List RvT} : (ownS r).length = r.length := by unfold ownS; rw [List.length_map]
/-- Water does not run on from a point. -/
def badB (r : List RvT) (h : List Int) (i : Nat) : Bool := decide ((r.getD i default).dn ≠ -1) && decide (h.getD i default < h.getD (r.getD i default).dn.toNat default + (r.getD i default).ls)
def badS (r : List RvT) (h : List Int) : List Int := selN (badB r h) r.length
/-- Heights run down. -/
def runB (r : List RvT) (h : List Int) : Bool := decide (h.length = r.length) && (List.range h.length).all (fun i => decide (0 ≤ h.getD i default ∧ h.getD i default ≤ 9000)) && (badS r h).isEmpty
structure Runs (r : List RvT) (h : List Int) : Prop where
  l : h.length = r.length
  b : ∀ i, i < r.length → 0 ≤ h.getD i default ∧ h.getD i default ≤ 9000
  d : ∀ i, i < r.length → (r.getD i default).dn ≠ -1 → h.getD (r.getD i default).dn.toNat default + (r.getD i default).ls ≤ h.getD i default
theorem bad_iff {r : List RvT} {h : List Int} {i : Nat} : badB r h i = true ↔ (r.getD i default).dn ≠ -1 ∧ h.getD i default < h.getD (r.getD i default).dn.toNat default + (r.getD i default).ls := by
  unfold badB; rw [Bool.and_eq_true, decide_eq_true_eq, decide_eq_true_eq]
theorem bad_no {r : List RvT} {h : List Int} {i : Nat} : badB r h i = false ↔ (r.getD i default).dn = -1 ∨ h.getD (r.getD i default).dn.toNat default + (r.getD i default).ls ≤ h.getD i default := by
  rw [← Bool.not_eq_true, bad_iff]
  constructor
  · intro hn
    by_cases h1 : (r.getD i default).dn = -1
    · exact .inl h1
    · exact .inr (Int.not_lt.1 fun h2 => hn ⟨h1, h2⟩)
  · rintro (h1 | h1) ⟨h2, h3⟩
    · exact h2 h1
    · omega
theorem sel_nil {p : Nat → Bool} {n : Nat} : selN p n = [] ↔ ∀ i, i < n → p i = false := by
  constructor
  · intro h i hi
    cases hp : p i with
    | false => rfl
    | true =>
      have : (i : Int) ∈ selN p n := mem_sel.2 ⟨i, hi, hp, rfl⟩
      rw [h] at this; simp at this
  · intro h
    rw [List.eq_nil_iff_forall_not_mem]
    intro x hx
    obtain ⟨i, hi, hp, _⟩ := mem_sel.1 hx
    rw [h i hi] at hp; cases hp
theorem runs_iff {r : List RvT} {h : List Int} : runB r h = true ↔ Runs r h := by
  unfold runB
  rw [Bool.and_eq_true, Bool.and_eq_true, decide_eq_true_eq, List.all_eq_true, List.isEmpty_iff]
  unfold badS
  rw [sel_nil]
  constructor
  · rintro ⟨⟨h1, h2⟩, h3⟩
    refine ⟨h1, fun i hi => of_decide_eq_true (h2 i (List.mem_range.2 (by omega))), fun i hi hd => ?_⟩
    rcases bad_no.1 (h3 i hi) with h4 | h4
    · exact absurd h4 hd
    · exact h4
  · intro g
    refine ⟨⟨g.l, fun i hi => decide_eq_true (g.b i (by have := List.mem_range.1 hi; rw [g.l] at this; exact this))⟩, fun i hi => bad_no.2 ?_⟩
    by_cases hd : (r.getD i default).dn = -1
    · exact .inl hd
    · exact .inr (g.d i hi hd)
/-! Water that is poured at a point. -/
def stopB (r : List RvT) (a j : Nat) : Bool := badB r (ownS r) (stps r j a) || decide ((r.getD (stps r j a) default).dn = -1)
def stopN (r : List RvT) (a : Nat) : Nat := ((List.range (r.length + 1)).find? (stopB r a)).getD 0
def stepL (r : List RvT) (a k : Nat) : List Int := (List.range k).map fun j => ((stps r j a : Nat) : Int)
def pouredS (r : List RvT) (a : Nat) : List Int := stepL r a (stopN r a + 1)
theorem stop_of {r : List RvT} {a d : Nat} (hd : d ≤ r.length) (h1 : stopB r a d = true) (h2 : ∀ j, j < d → stopB r a j = false) : stopN r a = d := by
  unfold stopN
  have : (List.range (r.length + 1)).find? (stopB r a) = some d := by
    rw [List.find?_range_eq_some]
    exact ⟨h1, List.mem_range.2 (by omega), fun j hj => by rw [h2 j hj]; rfl⟩
  rw [this]; rfl
theorem step_s {r : List RvT} {a k : Nat} : stepL r a (k + 1) = stepL r a k ++ [((stps r k a : Nat) : Int)] := by
  unfold stepL; rw [List.range_succ, List.map_append]; rfl
theorem step_len {r : List RvT} {a k : Nat} : (stepL r a k).length = k := by unfold stepL; rw [List.length_map, List.length_range]
section
variable {r : List RvT} {a i k j p : Nat} {h : List Int}
theorem poured_bad (g : Good r) (ha : a < r.length) (hk : k ≤ dep r a) (h1 : ∀ j, j < k → badB r (ownS r) (stps r j a) = false) (h2 : badB r (ownS r) (stps r k a) = true) : pouredS r a = stepL r a (k + 1) := by
  have hd := dep_is g ha
  unfold pouredS
  rw [stop_of (d := k) (by omega) (by unfold stopB; rw [h2]; rfl) (fun j hj => by unfold stopB; rw [h1 j hj, decide_eq_false (hd.2.2 j (by omega))]; rfl)]
theorem poured_all (g : Good r) (ha : a < r.length) (h1 : ∀ j, j ≤ dep r a → badB r (ownS r) (stps r j a) = false) : pouredS r a = stepL r a (dep r a + 1) := by
  have hd := dep_is g ha
  unfold pouredS
  rw [stop_of (d := dep r a) (by omega) (by unfold stopB; rw [decide_eq_true hd.2.1, Bool.or_true]) (fun j hj => by unfold stopB; rw [h1 j (by omega), decide_eq_false (hd.2.2 j hj)]; rfl)]
/-! Filling and carving. -/
def fillF (r : List RvT) (h : List Int) (i n : Nat) : Int := (List.range n).foldl (fun m k => if 0 ≤ drp r i k then max m (h.getD k default + drp r i k) else m) (h.getD i default)
def fillS (r : List RvT) (h : List Int) : List Int := (List.range r.length).map fun i => fillF r h i r.length
def carveF (r : List RvT) (h : List Int) (i n : Nat) : Int := (List.range n).foldl (fun m k => if 0 ≤ drp r k i then min m (h.getD k default - drp r k i) else m) (h.getD i default)
def carveS (r : List RvT) (h : List Int) : List Int := (List.range r.length).map fun i => carveF r h i r.length
theorem fill_s {n : Nat} : fillF r h i (n + 1) = if 0 ≤ drp r i n then max (fillF r h i n) (h.getD n default + drp r i n) else fillF r h i n := by
  unfold fillF; rw [List.range_succ, List.foldl_append]; rfl
theorem carve_s {n : Nat} : carveF r h i (n + 1) = if 0 ≤ drp r n i then min (carveF r h i n) (h.getD n default - drp r n i) else carveF r h i n := by
  unfold carveF; rw [List.range_succ, List.foldl_append]; rfl
theorem map_at {f : Nat → Int} {n : Nat} (hi : i < n) : ((List.range n).map f).getD i default = f i := by
  rw [List.getD_eq_getElem?_getD, List.getElem?_map, List.getElem?_range hi]; rfl
theorem fill_at (hi : i < r.length) : (fillS r h).getD i default = fillF r h i r.length := map_at hi
theorem carve_at (hi : i < r.length) : (carveS r h).getD i default = carveF r h i r.length := map_at hi
theorem fill_len : (fillS r h).length = r.length := by unfold fillS; rw [List.length_map, List.length_range]
theorem carve_len : (carveS r h).length = r.length := by unfold carveS; rw [List.length_map, List.length_range]
theorem fill_ge0 : ∀ n, h.getD i default ≤ fillF r h i n
  | 0 => Int.le_refl _
  | n + 1 => by have := fill_ge0 n; rw [fill_s]; split <;> omega
theorem fill_ge : ∀ n, k < n → 0 ≤ drp r i k → h.getD k default + drp r i k ≤ fillF r h i n
  | 0, hk, _ => absurd hk (Nat.not_lt_zero _)
  | n + 1, hk, hd => by
    rw [fill_s]
    rcases Nat.lt_or_ge k n with h1 | h1
    · have := fill_ge n h1 hd
      split <;> omega
    · have e : n = k := by omega
      subst e
      rw [if_pos hd]; omega
theorem fill_le {x : Int} (h0 : h.getD i default ≤ x) (h1 : ∀ k, 0 ≤ drp r i k → h.getD k default + drp r i k ≤ x) : ∀ n, fillF r h i n ≤ x
  | 0 => h0
  | n + 1 => by
    have := fill_le h0 h1 n
    rw [fill_s]
    split
    · rename_i hd
      have := h1 n hd
      omega
    · omega
theorem carve_le0 : ∀ n, carveF r h i n ≤ h.getD i default
  | 0 => Int.le_refl _
  | n + 1 => by have := carve_le0 n; rw [carve_s]; split <;> omega
theorem carve_le : ∀ n, k < n → 0 ≤ drp r k i → carveF r h i n ≤ h.getD k default - drp r k i
  | 0, hk, _ => absurd hk (Nat.not_lt_zero _)
  | n + 1, hk, hd => by
    rw [carve_s]
    rcases Nat.lt_or_ge k n with h1 | h1
    · have := carve_le n h1 hd
      split <;> omega
    · have e : n = k := by omega
      subst e
      rw [if_pos hd]; omega
theorem carve_ge {x : Int} (h0 : x ≤ h.getD i default) : ∀ n, (∀ k, k < n → 0 ≤ drp r k i → x ≤ h.getD k default - drp r k i) → x ≤ carveF r h i n
  | 0, _ => h0
  | n + 1, h1 => by
    have := carve_ge h0 n (fun k hk => h1 k (by omega))
    rw [carve_s]
    split
    · rename_i hd
      have := h1 n (by omega) hd
      omega
    · omega
theorem drp_0 (g : Good r) (hi : i < r.length) : drp r i i = 0 := by rw [drp_bl g hi bl_refl]; omega
theorem drp_lt (g : Good r) (hi : i < r.length) (h : 0 ≤ drp r i k) : k < r.length := bl_lt g hi ((drp_ge g hi).1 h)
theorem drp_dn (g : Good r) (hi : i < r.length) (hd : (r.getD i default).dn ≠ -1) : drp r i (r.getD i default).dn.toNat = (r.getD i default).ls := by
  rw [drp_bl g hi (bl_down hd), DM_d g hi hd]; omega
theorem dn_lt (g : Good r) (hi : i < r.length) (hd : (r.getD i default).dn ≠ -1) : (r.getD i default).dn.toNat < r.length := by
  have := stp_lt g hi; rw [stp_d hd] at this; exact this
/-- Heights that run down fall along the way. -/
theorem Runs.fall (g : Good r) (R : Runs r h) (hi : i < r.length) (hb : bl r i k) : h.getD k default + (DM r i - DM r k) ≤ h.getD i default := by
  obtain ⟨j, rfl⟩ := hb
  induction j with
  | zero => show h.getD i default + _ ≤ _; simp only [stps]; omega
  | succ j ih =>
    have hl := stps_lt g hi j
    by_cases hd : (r.getD (stps r j i) default).dn = -1
    · rw [stps_st hd]; exact ih
    · have h1 := R.d _ hl hd
      have h2 := DM_d g hl hd
      rw [stps_up hd]; omega
theorem fill_runs (g : Good r) (hl : h.length = r.length) (h0 : ∀ i, i < r.length → 0 ≤ h.getD i default) (h1 : ∀ i, i < r.length → fillF r h i r.length ≤ 9000) : Runs r (fillS r h) := by
  refine ⟨fill_len, fun i hi => ?_, fun i hi hd => ?_⟩
  · rw [fill_at hi]
    have := fill_ge0 (r := r) (h := h) (i := i) r.length
    have := h0 i hi; have := h1 i hi; omega
  · have hlt := dn_lt g hi hd
    rw [fill_at hi, fill_at hlt]
    have e := DM_d g hi hd
    have := fill_le (r := r) (h := h) (i := (r.getD i default).dn.toNat) (x := fillF r h i r.length - (r.getD i default).ls) ?_ ?_ r.length
    · omega
    · have := fill_ge (r := r) (h := h) (i := i) (k := (r.getD i default).dn.toNat) r.length hlt (by rw [drp_dn g hi hd]; have := g.p i hi; omega)
      rw [drp_dn g hi hd] at this; omega
    · intro k hk
      have hb := (drp_ge g hlt).1 hk
      have hb2 := bl_tr (bl_down hd) hb
      have := fill_ge (r := r) (h := h) (i := i) (k := k) r.length (bl_lt g hi hb2) ((drp_ge g hi).2 hb2)
      rw [drp_bl g hi hb2] at this
      rw [drp_bl g hlt hb]; omega
theorem carve_runs (g : Good r) (hl : h.length = r.length) (h0 : ∀ i, i < r.length → h.getD i default ≤ 9000) (h1 : ∀ i, i < r.length → 0 ≤ carveF r h i r.length) : Runs r (carveS r h) := by
  refine ⟨carve_len, fun i hi => ?_, fun i hi hd => ?_⟩
  · rw [carve_at hi]
    have := carve_le0 (r := r) (h := h) (i := i) r.length
    have := h0 i hi; have := h1 i hi; omega
  · have hlt := dn_lt g hi hd
    rw [carve_at hi, carve_at hlt]
    have e := DM_d g hi hd
    have := carve_ge (r := r) (h := h) (i := i) (x := carveF r h (r.getD i default).dn.toNat r.length + (r.getD i default).ls) ?_ r.length ?_
    · omega
    · have := carve_le (r := r) (h := h) (i := (r.getD i default).dn.toNat) (k := i) r.length hi (by rw [drp_dn g hi hd]; have := g.p i hi; omega)
      rw [drp_dn g hi hd] at this; omega
    · intro k hkl hk
      have hb := (drp_ge g hkl).1 hk
      have hb2 := bl_tr hb (bl_down hd)
      have := carve_le (r := r) (h := h) (i := (r.getD i default).dn.toNat) (k := k) r.length hkl ((drp_ge g hkl).2 hb2)
      rw [drp_bl g hkl hb2] at this
      rw [drp_bl g hkl hb]; omega
/-! As the program works them out. -/
/-- The points down from one, and the drops to them. -/
def belS (r : List RvT) (i : Nat) : List (Int × Int) := (List.range (dep r i + 1)).map fun j => (((stps r j i : Nat) : Int), DM r i - DM r (stps r j i))
theorem bel_len : (belS r i).length = dep r i + 1 := by unfold belS; rw [List.length_map, List.length_range]
theorem bel_at (hk : k ≤ dep r i) : (belS r i)[k]? = some (((stps r k i : Nat) : Int), DM r i - DM r (stps r k i)) := by
  unfold belS; rw [List.getElem?_map, List.getElem?_range (by omega)]; rfl
theorem bel_some {x : Int × Int} (hx : (belS r i)[k]? = some x) : k ≤ dep r i ∧ x = (((stps r k i : Nat) : Int), DM r i - DM r (stps r k i)) := by
  have hk : k < (belS r i).length := (List.getElem?_eq_some_iff.1 hx).1
  rw [bel_len] at hk
  rw [bel_at (by omega)] at hx
  exact ⟨by omega, (Option.some.inj hx).symm⟩
theorem stps_inj (g : Good r) (hi : i < r.length) (hj : j ≤ dep r i) (hk : k ≤ dep r i) (e : stps r j i = stps r k i) : j = k := by
  have h1 := dep_stps g hi j
  have h2 := dep_stps g hi k
  rw [e, h2] at h1; omega
def fillI (r : List RvT) (i : Nat) : Nat → Int
  | 0 => 0
  | k + 1 => max (fillI r i k) ((r.getD (stps r k i) default).ht + (DM r i - DM r (stps r k i)))
theorem fillI_bd (g : Good r) (hi : i < r.length) : ∀ k, 0 ≤ fillI r i k ∧ fillI r i k ≤ 13500
  | 0 => by unfold fillI; omega
  | k + 1 => by
    have := fillI_bd g hi k
    have h1 := g.p _ (stps_lt g hi k)
    have h2 := DM_le g hi
    have h3 := DM_le g (stps_lt g hi k)
    unfold fillI; omega
theorem fillI_ge : ∀ k, j < k → (r.getD (stps r j i) default).ht + (DM r i - DM r (stps r j i)) ≤ fillI r i k
  | 0, hk => absurd hk (Nat.not_lt_zero _)
  | k + 1, hk => by
    unfold fillI
    rcases Nat.lt_or_ge j k with h1 | h1
    · have := fillI_ge k h1; omega
    · have e : k = j := by omega
      subst e; omega
theorem fillI_le {x : Int} (h0 : 0 ≤ x) : ∀ k, (∀ j, j < k → (r.getD (stps r j i) default).ht + (DM r i - DM r (stps r j i)) ≤ x) → fillI r i k ≤ x
  | 0, _ => h0
  | k + 1, h1 => by
    have := fillI_le h0 k (fun j hj => h1 j (by omega))
    have := h1 k (by omega)
    unfold fillI; omega
theorem fillI_eq (g : Good r) (hi : i < r.length) : fillI r i (dep r i + 1) = fillF r (ownS r) i r.length := by
  have hp := g.p i hi
  have h0 := fill_ge0 (r := r) (h := ownS r) (i := i) r.length
  rw [own_at hi] at h0
  refine Int.le_antisymm (fillI_le (by omega) _ (fun j hj => ?_)) (fill_le ?_ (fun k hk => ?_) _)
  · have hb : bl r i (stps r j i) := ⟨j, rfl⟩
    have hl := stps_lt g hi j
    have := fill_ge (r := r) (h := ownS r) (i := i) (k := stps r j i) r.length hl ((drp_ge g hi).2 hb)
    rw [drp_bl g hi hb, own_at hl] at this; omega
  · have := fillI_ge (r := r) (i := i) (j := 0) (dep r i + 1) (by omega)
    rw [own_at hi]
    simp only [stps] at this
    omega
  · have hb := (drp_ge g hi).1 hk
    obtain ⟨j, hj, rfl⟩ := (bl_fin g hi).1 hb
    rw [drp_bl g hi hb, own_at (stps_lt g hi j)]
    exact fillI_ge _ (by omega)
/-- What is left of the greatest height above points, after some of them. -/
def cutG (r : List RvT) (p : Nat) : Nat → Int
  | 0 => 9000
  | i + 1 => if 0 ≤ drp r i p then min (cutG r p i) ((r.getD i default).ht - drp r i p) else cutG r p i
theorem cut_le9 : ∀ i, cutG r p i ≤ 9000
  | 0 => Int.le_refl _
  | i + 1 => by have := cut_le9 i; unfold cutG; split <;> omega
theorem cut_ge (g : Good r) : ∀ i, i ≤ r.length → -4500 ≤ cutG r p i
  | 0, _ => by unfold cutG; omega
  | i + 1, hi => by
    have := cut_ge g i (by omega)
    have := g.p i (by omega)
    have := drp_bd g (show i < r.length by omega) (k := p)
    unfold cutG; split <;> omega
theorem cut_mono : ∀ i j, cutG r p (i + j) ≤ cutG r p i
  | i, 0 => Int.le_refl _
  | i, j + 1 => by
    have := cut_mono i j
    show cutG r p (i + j + 1) ≤ _
    rw [cutG]; split <;> omega
theorem cut_eq (g : Good r) (hp : p < r.length) : cutG r p r.length = carveF r (ownS r) p r.length := by
  have h1 : ∀ n, n ≤ r.length → cutG r p n = min 9000 (cutG r p n) ∧ carveF r (ownS r) p n = min ((r.getD p default).ht) (cutG r p n) := by
    intro n
    induction n with
    | zero => intro _; have := g.p p hp; unfold carveF cutG; simp only [List.range_zero, List.foldl_nil]; rw [own_at hp]; omega
    | succ n ih =>
      intro hn
      have h := ih (by omega)
      have h9 := cut_le9 (r := r) (p := p) (n + 1)
      refine ⟨by omega, ?_⟩
      rw [carve_s, own_at (by omega), cutG]
      split <;> omega
  have h2 : ∀ n, p < n → cutG r p n ≤ (r.getD p default).ht := by
    intro n
    induction n with
    | zero => intro h; exact absurd h (Nat.not_lt_zero _)
    | succ n ih =>
      intro h
      rw [cutG]
      rcases Nat.lt_or_ge p n with h3 | h3
      · have := ih h3; split <;> omega
      · have e : n = p := by omega
        subst e
        rw [drp_0 g hp, if_pos (Int.le_refl 0)]; omega
  have := h1 r.length (Nat.le_refl _)
  have := h2 r.length hp
  omega
/-- The list, after i points and k steps down from the next one. -/
def cutL (r : List RvT) (i k : Nat) : List Int := (List.range r.length).map fun (p : Nat) => if (stepL r i k).contains ((p : Nat) : Int) then cutG r p (i + 1) else cutG r p i
theorem cutL_len : (cutL r i k).length = r.length := by unfold cutL; rw [List.length_map, List.length_range]
theorem mem_step {x : Nat} : (x : Int) ∈ stepL r i k ↔ ∃ j, j < k ∧ stps r j i = x := by
  unfold stepL
  rw [List.mem_map]
  constructor
  · rintro ⟨j, hj, e⟩
    exact ⟨j, List.mem_range.1 hj, by omega⟩
  · rintro ⟨j, hj, e⟩
    exact ⟨j, List.mem_range.2 hj, by rw [e]⟩
theorem cutL_at {x : Nat} (hx : x < r.length) : (cutL r i k).getD x default = if (stepL r i k).contains (x : Int) then cutG r x (i + 1) else cutG r x i := map_at hx
theorem cutL_0 : cutL r i 0 = (List.range r.length).map fun p => cutG r p i := by
  unfold cutL; apply List.map_congr_left; intro p _; simp [stepL]
theorem cutL_all (g : Good r) (hi : i < r.length) : cutL r i (dep r i + 1) = cutL r (i + 1) 0 := by
  rw [cutL_0]
  unfold cutL; apply List.map_congr_left; intro p _
  by_cases h : (p : Int) ∈ stepL r i (dep r i + 1)
  · rw [if_pos (by simpa using h)]
  · rw [if_neg (by simpa using h)]
    rw [cutG, if_neg]
    intro hd
    obtain ⟨j, hj, e⟩ := (bl_fin g hi).1 ((drp_ge g hi).1 hd)
    exact h (mem_step.2 ⟨j, by omega, e⟩)
/-- The next step. -/
theorem cutL_cur (g : Good r) (hi : i < r.length) (hk : k ≤ dep r i) : (cutL r i k).getD (stps r k i) default = cutG r (stps r k i) i := by
  rw [cutL_at (stps_lt g hi k), if_neg]
  intro h
  obtain ⟨j, hj, e⟩ := mem_step.1 (by simpa using h)
  have := stps_inj g hi (by omega) hk e
  omega
theorem cut_next (g : Good r) (hi : i < r.length) : cutG r (stps r k i) (i + 1) = min (cutG r (stps r k i) i) ((r.getD i default).ht - (DM r i - DM r (stps r k i))) := by
  have hb : bl r i (stps r k i) := ⟨k, rfl⟩
  rw [cutG, if_pos ((drp_ge g hi).2 hb), drp_bl g hi hb]
theorem cutL_set (g : Good r) (hi : i < r.length) (hk : k ≤ dep r i) : (cutL r i k).set (stps r k i) (cutG r (stps r k i) (i + 1)) = cutL r i (k + 1) := by
  refine list_ext (by rw [List.length_set, cutL_len, cutL_len]) (fun j hj => ?_)
  rw [List.length_set, cutL_len] at hj
  have hs := stps_lt g hi k
  rw [cutL_at hj]
  by_cases e : stps r k i = j
  · subst e
    rw [if_pos (by simp only [List.contains_iff_mem]; exact mem_step.2 ⟨k, by omega, rfl⟩)]
    simp [List.getD_eq_getElem?_getD, List.getElem?_set, cutL_len, hs]
  · have e1 : ((cutL r i k).set (stps r k i) (cutG r (stps r k i) (i + 1))).getD j default = (cutL r i k).getD j default := by
      simp [List.getD_eq_getElem?_getD, List.getElem?_set, e]
    rw [e1, cutL_at hj, step_s]
    congr 1
    simp only [List.contains_iff_mem, List.mem_append, List.mem_singleton, eq_iff_iff]
    constructor
    · exact .inl
    · rintro (h | h)
      · exact h
      · omega
/-! What Fill and Carve return. -/
def fillE (r : List RvT) : Int := if (chk r).2.2 ≠ 0 then (chk r).2.2 else if runB r (fillS r (ownS r)) = true then 0 else 9
def fillL (r : List RvT) : List Int := if fillE r = 0 then fillS r (ownS r) else []
def carveE (r : List RvT) : Int := if (chk r).2.2 ≠ 0 then (chk r).2.2 else if runB r (carveS r (ownS r)) = true then 0 else 9
def carveL (r : List RvT) : List Int := if carveE r = 0 then carveS r (ownS r) else []
theorem own_bd (g : Good r) (hi : i < r.length) : 0 ≤ (ownS r).getD i default ∧ (ownS r).getD i default ≤ 9000 := by
  rw [own_at hi]; have := g.p i hi; omega
theorem fillE_9 (g : Good r) (hc : (chk r).2.2 = 0) (hi : i < r.length) (h : 9000 < fillI r i (dep r i + 1)) : fillE r = 9 := by
  unfold fillE
  rw [if_neg (by omega), if_neg]
  intro hr
  have := (runs_iff.1 hr).b i hi
  rw [fill_at hi, ← fillI_eq g hi] at this; omega
theorem fillE_0 (g : Good r) (hc : (chk r).2.2 = 0) (h : ∀ i, i < r.length → fillI r i (dep r i + 1) ≤ 9000) : fillE r = 0 := by
  unfold fillE
  rw [if_neg (by omega), if_pos]
  exact runs_iff.2 (fill_runs g own_len (fun i hi => (own_bd g hi).1) (fun i hi => by rw [← fillI_eq g hi]; exact h i hi))
theorem carveE_9 (g : Good r) (hc : (chk r).2.2 = 0) (hi : i < r.length) (h : cutG r (stps r k i) (i + 1) < 0) : carveE r = 9 := by
  have hs := stps_lt g hi k
  unfold carveE
  rw [if_neg (by omega), if_neg]
  intro hr
  have := (runs_iff.1 hr).b _ hs
  rw [carve_at hs, ← cut_eq g hs] at this
  have h2 := cut_mono (r := r) (p := stps r k i) (i + 1) (r.length - (i + 1))
  rw [show i + 1 + (r.length - (i + 1)) = r.length by omega] at h2
  omega
theorem carveE_0 (g : Good r) (hc : (chk r).2.2 = 0) (h : ∀ i, i < r.length → ∀ k, k ≤ dep r i → 0 ≤ cutG r (stps r k i) (i + 1)) : carveE r = 0 := by
  unfold carveE
  rw [if_neg (by omega), if_pos]
  refine runs_iff.2 (carve_runs g own_len (fun i hi => (own_bd g hi).2) (fun p hp => ?_))
  have : ∀ n, n ≤ r.length → 0 ≤ cutG r p n := by
    intro n
    induction n with
    | zero => intro _; unfold cutG; omega
    | succ n ih =>
      intro hn
      have h1 := ih (by omega)
      by_cases hd : 0 ≤ drp r n p
      · obtain ⟨j, hj, e⟩ := (bl_fin g (show n < r.length by omega)).1 ((drp_ge g (by omega)).1 hd)
        have := h n (by omega) j hj
        rw [e] at this; exact this
      · rw [cutG, if_neg hd]; exact h1
  rw [← cut_eq g hp]; exact this _ (Nat.le_refl _)
theorem cutL_fin (g : Good r) : cutL r r.length 0 = carveS r (ownS r) := by
  rw [cutL_0]; unfold carveS
  apply List.map_congr_left
  intro p hp
  exact cut_eq g (List.mem_range.1 hp)
end
/-- What Bad returns. -/
def badL (r : List RvT) : List Int := if (chk r).2.2 ≠ 0 then [] else badS r (ownS r)
/-- What Poured returns. -/
def pouE (r : List RvT) (a : Int) : Int := if (chk r).2.2 ≠ 0 then (chk r).2.2 else if 0 ≤ a ∧ a ≤ (r.length : Int) - 1 then 0 else 4
def pouL (r : List RvT) (a : Int) : List Int := if pouE r a = 0 then pouredS r a.toNat else []
end Go.Proofs.YtoemnobfnnjopaaDoor

/-
  The table of drops, as it is filled; points out of reach, conflicts, corrections.
  No conditions but those in the theorems.
-/
namespace Go.Proofs.YtoemnobfnnjopaaDoor
open Go
/-- A table of nine rows. -/
def dcell (f : Nat → Nat → Int) : List Value := (List.range 81).map fun j => .int .i64 (f (j / 9) (j % 9))
theorem dcell_len {f : Nat → Nat → Int} : (dcell f).length = 81 := by unfold dcell; rw [List.length_map, List.length_range]
theorem dcell_at {f : Nat → Nat → Int} {j : Nat} (hj : j < 81) : (dcell f)[j]? = some (.int .i64 (f (j / 9) (j % 9))) := by
  unfold dcell; rw [List.getElem?_map, List.getElem?_range hj]; rfl
theorem riv_at {f : Nat → Nat → Int} {S : Value} {i k : Nat} (hi : i < 9) (hk : k < 9) : (S :: dcell f)[0 + 1 + i * 9 + k * 1]? = some (.int .i64 (f i k)) := by
  rw [show 0 + 1 + i * 9 + k * 1 = (i * 9 + k) + 1 by omega, List.getElem?_cons_succ, dcell_at (by omega), show (i * 9 + k) / 9 = i by omega, show (i * 9 + k) % 9 = k by omega]
theorem dcell_ext {f h : Nat → Nat → Int} (e : ∀ a b, a < 9 → b < 9 → f a b = h a b) : dcell f = dcell h := by
  unfold dcell; apply List.map_congr_left; intro j hj
  have := List.mem_range.1 hj
  rw [e _ _ (by omega) (by omega)]
theorem riv_set {f h : Nat → Nat → Int} {S : Value} {i k : Nat} {v : Int} (hi : i < 9) (hk : k < 9) (e : ∀ a b, a < 9 → b < 9 → h a b = if a = i ∧ b = k then v else f a b) : K.setn (S :: dcell f) (0 + 1 + i * 9 + k * 1) (.int .i64 v) = S :: dcell h := by
  rw [K.setn_eq, show 0 + 1 + i * 9 + k * 1 = (i * 9 + k) + 1 by omega, List.set_cons_succ]
  congr 1
  apply List.ext_getElem?
  intro j
  rw [List.getElem?_set, dcell_len]
  by_cases hj : j < 81
  · rw [dcell_at hj, dcell_at hj, e _ _ (by omega) (by omega)]
    by_cases h1 : i * 9 + k = j
    · rw [if_pos h1, if_pos (by omega), if_pos ⟨by omega, by omega⟩]
    · rw [if_neg h1, if_neg (by omega)]
  · rw [List.getElem?_eq_none (l := dcell h) (by rw [dcell_len]; omega), List.getElem?_eq_none (l := dcell f) (by rw [dcell_len]; omega)]
    split
    · rename_i h1
      rw [if_neg (by omega)]
    · rfl
/-- The drop from one point to another, or 0 where there are no points. -/
def drT (r : List RvT) (a b : Nat) : Int := if a < r.length ∧ b < r.length then drp r a b else 0
/-- With i rows done, and k fields of the next one set to none. -/
def dA (r : List RvT) (i k a b : Nat) : Int := if a < i then (if b < r.length then drp r a b else 0) else if a = i ∧ b < k then -1 else 0
/-- With m steps down from it done. -/
def dB (r : List RvT) (i m a b : Nat) : Int := if a < i then (if b < r.length then drp r a b else 0) else if a = i ∧ b < r.length then (if (stepL r i m).contains ((b : Nat) : Int) then DM r i - DM r b else -1) else 0
section
variable {r : List RvT} {i k m a b : Nat}
theorem dA_0 : dcell (dA r 0 0) = dcell (fun _ _ => 0) := dcell_ext fun a b _ _ => by unfold dA; rw [if_neg (by omega), if_neg (by omega)]
theorem dA_next {S : Value} (hi : i < 9) (hk : k < 9) : K.setn (S :: dcell (dA r i k)) (0 + 1 + i * 9 + k * 1) (.int .i64 (-1)) = S :: dcell (dA r i (k + 1)) := riv_set hi hk fun a b _ _ => by
  unfold dA
  by_cases h1 : a < i
  · rw [if_pos h1, if_pos h1, if_neg (show ¬ (a = i ∧ b = k) by omega)]
  · rw [if_neg h1, if_neg h1]
    by_cases h2 : a = i ∧ b = k
    · rw [if_pos h2, if_pos (by omega)]
    · rw [if_neg h2]
      by_cases h3 : a = i ∧ b < k
      · rw [if_pos h3, if_pos (by omega)]
      · rw [if_neg h3, if_neg (by omega)]
theorem dB_0 : dcell (dA r i r.length) = dcell (dB r i 0) := dcell_ext fun a b _ _ => by
  unfold dA dB stepL
  simp
theorem dB_next {S : Value} (g : Good r) (hi : i < r.length) (hm : m ≤ dep r i) : K.setn (S :: dcell (dB r i m)) (0 + 1 + i * 9 + stps r m i * 1) (.int .i64 (DM r i - DM r (stps r m i))) = S :: dcell (dB r i (m + 1)) := by
  have hs := stps_lt g hi m
  have hn := g.n
  refine riv_set (by omega) (by omega) fun a b _ _ => ?_
  unfold dB
  by_cases h1 : a < i
  · rw [if_pos h1, if_pos h1, if_neg (show ¬ (a = i ∧ b = stps r m i) by omega)]
  · rw [if_neg h1, if_neg h1]
    by_cases h2 : a = i ∧ b = stps r m i
    · rw [if_pos h2, if_pos (by omega), if_pos (by simp only [List.contains_iff_mem]; exact mem_step.2 ⟨m, by omega, h2.2.symm⟩), h2.2]
    · rw [if_neg h2]
      by_cases h3 : a = i ∧ b < r.length
      · rw [if_pos h3, if_pos h3]
        have e : (stepL r i (m + 1)).contains ((b : Nat) : Int) = (stepL r i m).contains ((b : Nat) : Int) := by
          rw [Bool.eq_iff_iff]
          simp only [List.contains_iff_mem, step_s, List.mem_append, List.mem_singleton]
          constructor
          · rintro (h | h)
            · exact h
            · omega
          · exact .inl
        rw [e]
      · rw [if_neg h3, if_neg h3]
theorem dB_all (g : Good r) (hi : i < r.length) : dcell (dB r i (dep r i + 1)) = dcell (dA r (i + 1) 0) := dcell_ext fun a b _ _ => by
  unfold dB dA
  by_cases h1 : a < i
  · rw [if_pos h1, if_pos (show a < i + 1 by omega)]
  · rw [if_neg h1]
    by_cases h2 : a = i
    · subst h2
      rw [if_pos (show a < a + 1 by omega)]
      by_cases h3 : b < r.length
      · rw [if_pos ⟨rfl, h3⟩, if_pos h3]
        by_cases h4 : bl r a b
        · obtain ⟨j, hj, e⟩ := (bl_fin g hi).1 h4
          rw [drp_bl g hi h4, if_pos (by simp only [List.contains_iff_mem]; exact mem_step.2 ⟨j, by omega, e⟩)]
        · rw [drp_no g hi h4, if_neg]
          simp only [List.contains_iff_mem]
          intro h5
          obtain ⟨j, _, e⟩ := mem_step.1 h5
          exact h4 ⟨j, e⟩
      · rw [if_neg (by omega), if_neg h3]
    · rw [if_neg (by omega), if_neg (by omega), if_neg (by omega)]
theorem dA_all : dcell (dA r r.length 0) = dcell (drT r) := dcell_ext fun a b _ _ => by
  unfold dA drT
  by_cases h1 : a < r.length
  · rw [if_pos h1]
    by_cases h2 : b < r.length
    · rw [if_pos h2, if_pos ⟨h1, h2⟩]
    · rw [if_neg h2, if_neg (by omega)]
  · rw [if_neg h1, if_neg (by omega), if_neg (by omega)]
theorem drT_in (hi : a < r.length) (hk : b < r.length) : drT r a b = drp r a b := if_pos ⟨hi, hk⟩
end
/-! Out of reach, in conflict. -/
def outAt (r : List RvT) (i k : Nat) : Bool := decide (drp r i k > (r.getD i default).ht) || decide (drp r k i > 9000 - (r.getD i default).ht)
def outS (r : List RvT) (i : Nat) : Bool := (List.range r.length).any (outAt r i)
def conS (r : List RvT) (i k : Nat) : Bool := if drp r i k = -1 then decide (drp r k i ≠ -1) && decide ((r.getD k default).ht - (r.getD i default).ht < drp r k i) else decide ((r.getD i default).ht - (r.getD k default).ht < drp r i k)
/-- The first k points do not stand against i. -/
def corAt (r : List RvT) (s i k : Nat) : Bool := s.testBit k || !conS r i k
def corIn (r : List RvT) (s i : Nat) : Bool := s.testBit i || (!outS r i && (List.range i).all (corAt r s i))
def corS (r : List RvT) (s : Nat) : Bool := (List.range r.length).all (corIn r s)
section
variable {r : List RvT} {s i k : Nat}
theorem out_t (hk : k < r.length) (h : drp r i k > (r.getD i default).ht ∨ drp r k i > 9000 - (r.getD i default).ht) : outS r i = true := by
  unfold outS
  rw [List.any_eq_true]
  refine ⟨k, List.mem_range.2 hk, ?_⟩
  unfold outAt
  rcases h with h | h
  · rw [decide_eq_true h]; rfl
  · rw [decide_eq_true h, Bool.or_true]
theorem out_f (h : ∀ k, k < r.length → ¬ (drp r i k > (r.getD i default).ht) ∧ ¬ (drp r k i > 9000 - (r.getD i default).ht)) : outS r i = false := by
  unfold outS
  rw [List.any_eq_false]
  intro k hk
  obtain ⟨h1, h2⟩ := h k (List.mem_range.1 hk)
  unfold outAt
  rw [decide_eq_false h1, decide_eq_false h2]; simp
theorem cor_f (hi : i < r.length) (h1 : s.testBit i = false) (h : outS r i = true) : corS r s = false := by
  unfold corS
  rw [List.all_eq_false]
  exact ⟨i, List.mem_range.2 hi, by unfold corIn; rw [h1, h]; simp⟩
theorem cor_f2 (hi : i < r.length) (hk : k < i) (h1 : s.testBit i = false) (h2 : s.testBit k = false) (h : conS r i k = true) : corS r s = false := by
  unfold corS
  rw [List.all_eq_false]
  refine ⟨i, List.mem_range.2 hi, ?_⟩
  have : (List.range i).all (corAt r s i) = false := by
    rw [List.all_eq_false]
    exact ⟨k, List.mem_range.2 hk, by unfold corAt; rw [h2, h]; simp⟩
  unfold corIn
  rw [h1, this]; simp
theorem cor_in1 (h : s.testBit i = true) : corIn r s i = true := by unfold corIn; rw [h]; rfl
theorem cor_in2 (h : outS r i = false) (h2 : ∀ k, k < i → corAt r s i k = true) : corIn r s i = true := by
  have : (List.range i).all (corAt r s i) = true := List.all_eq_true.2 fun k hk => h2 k (List.mem_range.1 hk)
  unfold corIn
  rw [h, this]; simp
theorem cor_t (h : ∀ i, i < r.length → corIn r s i = true) : corS r s = true := List.all_eq_true.2 fun i hi => h i (List.mem_range.1 hi)
end
end Go.Proofs.YtoemnobfnnjopaaDoor
