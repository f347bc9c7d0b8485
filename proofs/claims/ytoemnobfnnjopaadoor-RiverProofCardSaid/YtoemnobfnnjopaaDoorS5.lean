/-
  Plain lemmas and plain functions, several texts joined.
  Conditions stand in each theorem.
-/
import Derived.Test.YtoemnobfnnjopaaDoorS4
set_option linter.unusedSimpArgs false
set_option linter.unusedVariables false
/-
  The least change, as the program works it out.
  No conditions but those in the theorems.
-/
namespace Go.Proofs.YtoemnobfnnjopaaDoor
open Go
def neverS : Int := 1099511627776
/-- The mouth. -/
def mthS (r : List RvT) : Nat := ((List.range r.length).find? fun i => decide ((r.getD i default).dn = -1)).getD 0
def lev3 (r : List RvT) (i : Nat) : List Int := [(r.getD i default).ht - DM r i, 9000 - DM r i, 0]
def levU (r : List RvT) : Nat → List Int
  | 0 => []
  | i + 1 => levU r i ++ lev3 r i
def sortS (l : List Int) : List Int := l.mergeSort fun x y => decide (x ≤ y)
def levS (r : List RvT) : List Int := sortS (levU r r.length)
/-- A level is not for a point. -/
def skipB (r : List RvT) (fx : List Int) (a : Nat) (low l : Int) : Bool := decide (l < low) || (decide (¬ (0 ≤ l + DM r a ∧ l + DM r a ≤ 9000)) || (decide (a < fx.length) && decide (fx.getD a default ≠ l + DM r a)))
def ownC (r : List RvT) (a : Nat) (l : Int) : Int := max (l + DM r a - (r.getD a default).ht) ((r.getD a default).ht - (l + DM r a))
def sumF (rec : Nat → Int → Int) (r : List RvT) (a : Nat) (l : Int) : Nat → Int
  | 0 => ownC r a l
  | k + 1 => if (r.getD k default).dn = (a : Int) then sumF rec r a l k + rec k l else sumF rec r a l k
def minF (rec : Nat → Int → Int) (r : List RvT) (lv fx : List Int) (a : Nat) (low : Int) : Nat → Int
  | 0 => neverS
  | j + 1 => if skipB r fx a low (lv.getD j default) = true then minF rec r lv fx a low j else min (minF rec r lv fx a low j) (sumF rec r a (lv.getD j default) r.length)
/-- The least change of a point and all above it, if it is at least at some level. -/
def costF (r : List RvT) (lv fx : List Int) : Nat → Nat → Int → Int
  | 0 => fun _ _ => neverS
  | f + 1 => fun a low => minF (costF r lv fx f) r lv fx a low lv.length
def askS (r : List RvT) (lv fx : List Int) : Int := costF r lv fx (r.length + 1) (mthS r) (-9000)
/-- The heights of the first points. -/
def hgtF (r : List RvT) (ch : Int) : Nat → List Int
  | 0 => []
  | i + 1 => hgtF r ch i ++ [((levS r).find? fun l => decide (askS r (levS r) (hgtF r ch i ++ [l + DM r i]) = ch)).getD ((levS r).getD ((levS r).length - 1) default) + DM r i]
def chgS (r : List RvT) : Int := askS r (levS r) []
def lstC (r : List RvT) : Int := if (chk r).2.2 ≠ 0 then 0 else chgS r
def lstL (r : List RvT) : List Int := if (chk r).2.2 ≠ 0 then [] else hgtF r (chgS r) r.length
section
variable {r : List RvT} {lv fx : List Int} {rec : Nat → Int → Int} {a i j k f : Nat} {l low : Int}
theorem mth_is (g : Good r) : mthS r < r.length ∧ (r.getD (mthS r) default).dn = -1 ∧ ∀ i, i < r.length → (r.getD i default).dn = -1 → i = mthS r := by
  obtain ⟨k, hk, hd, hu⟩ := g.m
  have e : mthS r = k := by
    unfold mthS
    have : (List.range r.length).find? (fun i => decide ((r.getD i default).dn = -1)) = some k := by
      rw [List.find?_range_eq_some]
      exact ⟨decide_eq_true hd, List.mem_range.2 hk, fun j hj => by
        have : (r.getD j default).dn ≠ -1 := fun h => by have := hu j (by omega) h; omega
        rw [decide_eq_false this]; rfl⟩
    rw [this]; rfl
  rw [e]; exact ⟨hk, hd, hu⟩
/-- The mouth is below all. -/
theorem bl_mth (g : Good r) (hi : i < r.length) : bl r i (mthS r) := by
  have h := dep_is g hi
  have := (mth_is g).2.2 _ (stps_lt g hi (dep r i)) h.2.1
  exact ⟨dep r i, this⟩
theorem drp_mth (g : Good r) (hi : i < r.length) : drp r i (mthS r) = DM r i := by
  rw [drp_bl g hi (bl_mth g hi), DM_m (mth_is g).2.1]; omega
theorem levU_len : ∀ i, (levU r i).length = 3 * i
  | 0 => rfl
  | i + 1 => by rw [levU, List.length_append, levU_len i]; show 3 * i + 3 = _; omega
theorem levU_mem (g : Good r) : ∀ i, i ≤ r.length → ∀ x ∈ levU r i, -4500 ≤ x ∧ x ≤ 9000
  | 0, _, x, hx => by simp [levU] at hx
  | i + 1, hi, x, hx => by
    rw [levU, List.mem_append] at hx
    have h1 := g.p i (by omega)
    have h2 := DM_le g (show i < r.length by omega)
    rcases hx with hx | hx
    · exact levU_mem g i (by omega) x hx
    · simp only [lev3, List.mem_cons, List.not_mem_nil, or_false] at hx
      omega
theorem sort_perm {l : List Int} : (sortS l).Perm l := List.mergeSort_perm _ _
theorem levS_len : (levS r).length = 3 * r.length := by unfold levS; rw [sort_perm.length_eq, levU_len]
theorem levS_mem (g : Good r) {x : Int} (h : x ∈ levS r) : -4500 ≤ x ∧ x ≤ 9000 := levU_mem g _ (Nat.le_refl _) x (sort_perm.mem_iff.1 h)
theorem levS_at (g : Good r) (hj : j < (levS r).length) : -4500 ≤ (levS r).getD j default ∧ (levS r).getD j default ≤ 9000 := levS_mem g (K.gt_mem hj)
theorem minF_skip (h : skipB r fx a low (lv.getD j default) = true) : minF rec r lv fx a low (j + 1) = minF rec r lv fx a low j := by rw [minF, if_pos h]
theorem minF_more (h : skipB r fx a low (lv.getD j default) = false) : minF rec r lv fx a low (j + 1) = min (minF rec r lv fx a low j) (sumF rec r a (lv.getD j default) r.length) := by rw [minF, if_neg (by rw [h]; decide)]
theorem sumF_yes (h : (r.getD k default).dn = (a : Int)) : sumF rec r a l (k + 1) = sumF rec r a l k + rec k l := by rw [sumF, if_pos h]
theorem sumF_no (h : (r.getD k default).dn ≠ (a : Int)) : sumF rec r a l (k + 1) = sumF rec r a l k := by rw [sumF, if_neg h]
theorem skip_no (h : skipB r fx a low l = false) : ¬ l < low ∧ (0 ≤ l + DM r a ∧ l + DM r a ≤ 9000) ∧ (a < fx.length → fx.getD a default = l + DM r a) := by
  unfold skipB at h
  rw [Bool.or_eq_false_iff, Bool.or_eq_false_iff, decide_eq_false_iff_not, decide_eq_false_iff_not, Bool.and_eq_false_iff, decide_eq_false_iff_not, decide_eq_false_iff_not] at h
  obtain ⟨h1, h2, h3⟩ := h
  refine ⟨h1, Decidable.not_not.1 h2, fun h4 => ?_⟩
  rcases h3 with h3 | h3
  · exact absurd h4 h3
  · exact Decidable.not_not.1 h3
theorem skip_n (h1 : ¬ l < low) (h2 : 0 ≤ l + DM r a ∧ l + DM r a ≤ 9000) (h3 : a < fx.length → fx.getD a default = l + DM r a) : skipB r fx a low l = false := by
  unfold skipB
  rw [decide_eq_false h1, decide_eq_false (fun h => h h2)]
  by_cases h4 : a < fx.length
  · rw [decide_eq_true h4, decide_eq_false (fun h => h (h3 h4))]; rfl
  · rw [decide_eq_false h4]; rfl
theorem skip_y (h : l < low ∨ ¬ (0 ≤ l + DM r a ∧ l + DM r a ≤ 9000) ∨ (a < fx.length ∧ fx.getD a default ≠ l + DM r a)) : skipB r fx a low l = true := by
  unfold skipB
  rcases h with h | h | ⟨h1, h2⟩
  · rw [decide_eq_true h]; rfl
  · rw [decide_eq_true h]; simp
  · rw [decide_eq_true h1, decide_eq_true h2]; simp
theorem ownC_bd (g : Good r) (ha : a < r.length) (h : 0 ≤ l + DM r a ∧ l + DM r a ≤ 9000) : 0 ≤ ownC r a l ∧ ownC r a l ≤ 9000 := by
  have := g.p a ha
  unfold ownC; omega
/-- A cost of no point is never asked. -/
def recB (r : List RvT) (rec : Nat → Int → Int) : Prop := ∀ k, k < r.length → ∀ l, 0 ≤ rec k l ∧ rec k l ≤ neverS
theorem sumF_bd' (hr : recB r rec) (h0 : 0 ≤ ownC r a l ∧ ownC r a l ≤ 9000) : ∀ k, k ≤ r.length → 0 ≤ sumF rec r a l k ∧ sumF rec r a l k ≤ 9000 + k * neverS
  | 0, _ => by simp only [sumF]; omega
  | k + 1, hk => by
    have h1 := sumF_bd' hr h0 k (by omega)
    have h2 := hr k (by omega) l
    rw [sumF]
    have e : ((k + 1 : Nat) : Int) * neverS = (k : Int) * neverS + neverS := by push_cast; rw [Int.add_mul, Int.one_mul]
    rw [e]
    have : 0 ≤ neverS := by decide
    split <;> omega
theorem minF_bd' (g : Good r) (ha : a < r.length) (hr : recB r rec) : ∀ j, 0 ≤ minF rec r lv fx a low j ∧ minF rec r lv fx a low j ≤ neverS
  | 0 => by simp only [minF]; exact ⟨by decide, Int.le_refl _⟩
  | j + 1 => by
    have h1 := minF_bd' g ha hr j
    rw [minF]
    split
    · exact h1
    · rename_i h
      have h2 := skip_no (Bool.eq_false_iff.2 h)
      have h3 := sumF_bd' hr (ownC_bd g ha h2.2.1) r.length (Nat.le_refl _)
      omega
theorem cost_bd (g : Good r) : ∀ f, recB r (costF r lv fx f)
  | 0 => fun k _ l => ⟨by show (0 : Int) ≤ neverS; decide, Int.le_refl _⟩
  | f + 1 => fun k hk l => minF_bd' g hk (cost_bd g f) _
end
/-- What is kept of costs. -/
def spotV (a l : Int) : Value := .agg #[.int .i64 a, .int .i64 l]
def KnOk (r : List RvT) (lv fx : List Int) (kvs : List (Value × Int)) : Prop := ∀ p ∈ kvs, ∃ (a : Nat) (l : Int), p.1 = spotV a l ∧ a < r.length ∧ (-9000 ≤ l ∧ l ≤ 9000) ∧ p.2 = costF r lv fx (r.length + 1 - dep r a) a l
theorem kn_nil {r : List RvT} {lv fx : List Int} : KnOk r lv fx [] := by intro p hp; simp at hp
theorem spot_inj {a a' l l' : Int} (h : spotV a l = spotV a' l') : a = a' ∧ l = l' := by
  unfold spotV at h
  injection h with h
  have h2 := congrArg Array.toList h
  simp only [List.cons.injEq] at h2
  obtain ⟨h3, h4, _⟩ := h2
  injection h3 with _ h3
  injection h4 with _ h4
  exact ⟨h3, h4⟩
theorem kn_at {r : List RvT} {lv fx : List Int} {kvs : List (Value × Int)} {a : Nat} {l n : Int} (h : KnOk r lv fx kvs) (hm : (spotV a l, n) ∈ kvs) : n = costF r lv fx (r.length + 1 - dep r a) a l := by
  obtain ⟨a', l', e, _, _, hv⟩ := h _ hm
  obtain ⟨h1, h2⟩ := spot_inj e
  have : a = a' := by omega
  subst this; subst h2
  exact hv
theorem kn_put {r : List RvT} {lv fx : List Int} {kvs kvs' : List (Value × Int)} {a : Nat} {l : Int} (h : KnOk r lv fx kvs) (ha : a < r.length) (hl : -9000 ≤ l ∧ l ≤ 9000) (hp : K.PutQ kvs (spotV a l) (costF r lv fx (r.length + 1 - dep r a) a l) kvs') : KnOk r lv fx kvs' := by
  intro p hpm
  rcases hp with ⟨_, rfl⟩ | ⟨j, n, _, rfl⟩
  · rcases List.mem_append.1 hpm with h2 | h2
    · exact h p h2
    · simp at h2; subst h2; exact ⟨a, l, rfl, ha, hl, rfl⟩
  · rcases List.mem_or_eq_of_mem_set hpm with h2 | h2
    · exact h p h2
    · subst h2; exact ⟨a, l, rfl, ha, hl, rfl⟩
theorem find_at {p : Int → Bool} {l : List Int} {j : Nat} (hj : j < l.length) (h0 : ∀ k, k < j → p (l.getD k default) = false) (h1 : p (l.getD j default) = true) : l.find? p = some (l.getD j default) := by
  rw [List.find?_eq_some_iff_getElem]
  have e : l.getD j default = l[j] := by rw [List.getD_eq_getElem?_getD, List.getElem?_eq_getElem hj]; rfl
  refine ⟨h1, j, hj, e.symm, fun k hk => ?_⟩
  have e2 : l.getD k default = l[k] := by rw [List.getD_eq_getElem?_getD, List.getElem?_eq_getElem (by omega)]; rfl
  rw [← e2, h0 k hk]; rfl
theorem find_no {p : Int → Bool} {l : List Int} (h0 : ∀ k, k < l.length → p (l.getD k default) = false) : l.find? p = none := by
  rw [List.find?_eq_none]
  intro x hx
  obtain ⟨k, hk, rfl⟩ := List.mem_iff_getElem.1 hx
  have e2 : l.getD k default = l[k] := by rw [List.getD_eq_getElem?_getD, List.getElem?_eq_getElem hk]; rfl
  rw [← e2, h0 k hk]; decide
section
variable {r : List RvT} {ch : Int} {i j : Nat}
theorem hgt_len : ∀ i, (hgtF r ch i).length = i
  | 0 => rfl
  | i + 1 => by rw [hgtF, List.length_append, hgt_len i]; rfl
/-- The fixed heights of a try. -/
def tryL (r : List RvT) (ch : Int) (i j : Nat) : List Int := hgtF r ch i ++ [(levS r).getD j default + DM r i]
theorem try_len : (tryL r ch i j).length = i + 1 := by unfold tryL; rw [List.length_append, hgt_len]; rfl
theorem hgt_found (hj : j < (levS r).length) (h0 : ∀ k, k < j → askS r (levS r) (tryL r ch i k) ≠ ch) (h1 : askS r (levS r) (tryL r ch i j) = ch) : hgtF r ch (i + 1) = tryL r ch i j := by
  rw [hgtF, find_at (p := fun l => decide (askS r (levS r) (hgtF r ch i ++ [l + DM r i]) = ch)) hj (fun k hk => decide_eq_false (h0 k hk)) (decide_eq_true h1)]
  rfl
theorem hgt_last (hn : 0 < (levS r).length) (h0 : ∀ k, k < (levS r).length → askS r (levS r) (tryL r ch i k) ≠ ch) : hgtF r ch (i + 1) = tryL r ch i ((levS r).length - 1) := by
  rw [hgtF, find_no (p := fun l => decide (askS r (levS r) (hgtF r ch i ++ [l + DM r i]) = ch)) (fun k hk => decide_eq_false (h0 k hk))]
  rfl
end
end Go.Proofs.YtoemnobfnnjopaaDoor
