/-
  Plain lemmas and plain functions, several texts joined.
  Conditions stand in each theorem.
-/
import Derived.Test.YtoemnobfnnjopaaDoorSL
set_option linter.unusedSimpArgs false
set_option linter.unusedVariables false
/-
  Steeper rivers: what is bad stays bad, and no less is to be changed.
  No conditions but those in the theorems.
-/
namespace Go.Proofs.YtoemnobfnnjopaaDoor
open Go
/-- Each of the first k points, turned. -/
def mapP (f : Nat → RvT → RvT) (r : List RvT) (k : Nat) : List RvT := (List.range r.length).map fun i => if i < k then f i (r.getD i default) else r.getD i default
section
variable {f : Nat → RvT → RvT} {r : List RvT} {i k : Nat}
theorem mp_len : (mapP f r k).length = r.length := by simp [mapP]
theorem mp_at (h : i < r.length) : (mapP f r k).getD i default = if i < k then f i (r.getD i default) else r.getD i default := by
  unfold mapP; rw [List.getD_eq_getElem?_getD, List.getElem?_map, List.getElem?_range h]; rfl
theorem mp_0 : mapP f r 0 = r := by
  refine list_extE mp_len (fun j hj => ?_)
  rw [mp_len] at hj
  rw [mp_at hj, if_neg (Nat.not_lt_zero _)]
theorem mp_set (h : k < r.length) : (mapP f r k).set k (f k (r.getD k default)) = mapP f r (k + 1) := by
  refine list_extE (by rw [List.length_set, mp_len, mp_len]) (fun j hj => ?_)
  rw [List.length_set, mp_len] at hj
  rw [set_at (by rw [mp_len]; exact h), mp_at hj, mp_at hj]
  by_cases e : k = j
  · subst e; rw [if_pos rfl, if_pos (Nat.lt_succ_self k)]
  · rw [if_neg e]
    by_cases h1 : j < k
    · rw [if_pos h1, if_pos (by omega)]
    · rw [if_neg h1, if_neg (by omega)]
theorem mp_same (h : k < r.length) (e : f k (r.getD k default) = r.getD k default) : mapP f r (k + 1) = mapP f r k := by
  refine list_extE (by rw [mp_len, mp_len]) (fun j hj => ?_)
  rw [mp_len] at hj
  rw [mp_at hj, mp_at hj]
  by_cases h1 : j < k
  · rw [if_pos h1, if_pos (by omega)]
  · rw [if_neg h1]
    by_cases h2 : j = k
    · subst h2; rw [if_pos (Nat.lt_succ_self _), e]
    · rw [if_neg (by omega)]
theorem mp_out (h : ¬ i < r.length) : (mapP f r k).getD i default = r.getD i default := by
  rw [List.getD_eq_getElem?_getD, List.getD_eq_getElem?_getD, List.getElem?_eq_none (by rw [mp_len]; omega), List.getElem?_eq_none (by omega)]
theorem mp_full (h : i < r.length) : (mapP f r r.length).getD i default = f i (r.getD i default) := by rw [mp_at h, if_pos h]
end
/-- A point with a greater Least, by turns. -/
def stpF (t : Nat → Int) (i : Nat) (p : RvT) : RvT := if p.dn ≠ -1 then { p with ls := min 500 (p.ls + t i % 50) } else p
def steepS (r : List RvT) (t : Nat → Int) : List RvT := mapP (stpF t) r r.length
section
variable {r : List RvT} {t : Nat → Int} {i : Nat} {h : List Int}
theorem st_dn : (stpF t i (r.getD i default)).dn = (r.getD i default).dn ∧ (stpF t i (r.getD i default)).nm = (r.getD i default).nm ∧ (stpF t i (r.getD i default)).ht = (r.getD i default).ht := by
  unfold stpF; split <;> exact ⟨rfl, rfl, rfl⟩
theorem st_len : (steepS r t).length = r.length := mp_len
theorem st_like : Like r (steepS r t) := by
  refine ⟨st_len, fun i => ?_, fun i => ?_⟩
  all_goals
    unfold steepS
    by_cases h : i < r.length
    · rw [mp_full h]
      first
        | exact st_dn.1
        | exact st_dn.2.1
    · rw [mp_out h]
theorem st_ht : ((steepS r t).getD i default).ht = (r.getD i default).ht := by
  unfold steepS
  by_cases h : i < r.length
  · rw [mp_full h]; exact st_dn.2.2
  · rw [mp_out h]
theorem st_ls (g : Good r) (hi : i < r.length) : (r.getD i default).ls ≤ ((steepS r t).getD i default).ls ∧ ((steepS r t).getD i default).ls ≤ 500 ∧ ((r.getD i default).dn = -1 → ((steepS r t).getD i default).ls = (r.getD i default).ls) := by
  have hp := g.p i hi
  have hm := Int.emod_nonneg (t i) (show (50 : Int) ≠ 0 by decide)
  unfold steepS
  rw [mp_full hi]
  unfold stpF
  split
  · rename_i hd
    refine ⟨?_, ?_, fun e => absurd e hd⟩
    · show _ ≤ min 500 _; omega
    · show min 500 _ ≤ _; omega
  · exact ⟨Int.le_refl _, hp.1.1.2, fun _ => rfl⟩
theorem st_chk (hc : (chk r).2.2 = 0) : chk (steepS r t) = (0, 0, 0) := by
  have g := chk_good hc
  refine chk_like st_like hc (fun i hi => ?_)
  have hp := g.p i hi
  have hs := st_ls (t := t) g hi
  rw [st_ht, st_like.d]
  exact ⟨⟨by omega, hp.1.2⟩, fun e => by rw [hs.2.2 e]; exact hp.2.2 e⟩
theorem st_runs (g : Good r) (R : Runs (steepS r t) h) : Runs r h := by
  obtain ⟨a, b, c⟩ := R
  rw [st_len] at a b c
  refine ⟨a, b, fun i hi hd => ?_⟩
  have h1 := c i hi (by rw [st_like.d]; exact hd)
  rw [st_like.d] at h1
  have := (st_ls (t := t) g hi).1
  omega
theorem st_own : ownS (steepS r t) = ownS r := by
  refine list_ext (by rw [own_len, own_len, st_len]) (fun j hj => ?_)
  rw [own_len, st_len] at hj
  rw [own_at (by rw [st_len]; exact hj), own_at hj, st_ht]
theorem st_bad (g : Good r) (hi : i < r.length) (hb : badB r h i = true) : badB (steepS r t) h i = true := by
  have h1 := bad_iff.1 hb
  have := (st_ls (t := t) g hi).1
  rw [bad_iff, st_like.d]
  exact ⟨h1.1, by omega⟩
/-- No bad point is lost. -/
theorem st_mem (hc : (chk r).2.2 = 0) {x : Int} (hx : x ∈ badL r) : x ∈ badL (steepS r t) := by
  have g := chk_good hc
  have hc2 : (chk (steepS r t)).2.2 = 0 := by rw [st_chk hc]
  unfold badL at hx ⊢
  rw [if_neg (by omega)] at hx ⊢
  unfold badS at hx ⊢
  obtain ⟨i, hi, hb, rfl⟩ := mem_sel.1 hx
  exact mem_sel.2 ⟨i, by rw [st_len]; exact hi, by rw [st_own]; exact st_bad g hi hb, rfl⟩
theorem st_few (hc : (chk r).2.2 = 0) : (fewL r).length ≤ (fewL (steepS r t)).length :=
  few_more hc (by rw [st_chk hc]) st_len (fun h R => st_runs (chk_good hc) R) (fun j _ => st_ht)
theorem chg_like {s : List RvT} (e : ∀ i, i < r.length → (s.getD i default).ht = (r.getD i default).ht) : ∀ n, n ≤ r.length → chgF s h n = chgF r h n
  | 0, _ => rfl
  | n + 1, hn => by rw [chgF, chgF, chg_like e n (by omega), e n (by omega)]
/-- No less is to be changed. -/
theorem st_least (hc : (chk r).2.2 = 0) : lstC r ≤ lstC (steepS r t) := by
  have g := chk_good hc
  have hc2 : (chk (steepS r t)).2.2 = 0 := by rw [st_chk hc]
  have g2 := chk_good hc2
  obtain ⟨R, e⟩ := least_is g2
  have h1 := least_min g (st_runs g R)
  unfold lstC
  rw [if_neg (by omega), if_neg (by omega)]
  unfold chgV at e h1
  rw [st_len, chg_like (fun i _ => st_ht) _ (Nat.le_refl _)] at e
  rw [st_len] at h1
  omega
end
end Go.Proofs.YtoemnobfnnjopaaDoor

/-
  What Least returns.
  No conditions but those in the theorems.
-/
namespace Go.Proofs.YtoemnobfnnjopaaDoor
open Go
section
variable {r : List RvT} {h : List Int}
theorem least_L (hc : (chk r).2.2 = 0) : Runs r (lstL r) ∧ chgV r (lstL r) = lstC r ∧ (∀ h, Runs r h → lstC r ≤ chgV r h) ∧ (lstC r = 0 ↔ badL r = []) := by
  have g := chk_good hc
  have e1 : lstL r = hgtF r (chgS r) r.length := by unfold lstL; rw [if_neg (by omega)]
  have e2 : lstC r = chgS r := by unfold lstC; rw [if_neg (by omega)]
  have e3 : badL r = badS r (ownS r) := by unfold badL; rw [if_neg (by omega)]
  rw [e1, e2, e3]
  exact ⟨(least_is g).1, (least_is g).2, fun h R => least_min g R, least_0 g⟩
theorem run_bd (R : Runs r h) : ∀ j, j < r.length → -100000 ≤ h.getD j default ∧ h.getD j default ≤ 100000 := fun j hj => by
  have := R.b j hj; omega
/-- Half way between two. -/
def midF (a b : List Int) (k : Nat) : List Int := (List.range k).map fun i => (a.getD i default + b.getD i default) / 2
theorem mid_s {a b : List Int} {k : Nat} : midF a b (k + 1) = midF a b k ++ [(a.getD k default + b.getD k default) / 2] := by unfold midF; rw [List.range_succ, List.map_append]; rfl
theorem mid_len {a b : List Int} {k : Nat} : (midF a b k).length = k := by unfold midF; rw [List.length_map, List.length_range]
theorem mid_at {a b : List Int} {k i : Nat} (hi : i < k) : (midF a b k).getD i default = (a.getD i default + b.getD i default) / 2 := map_at hi
end
end Go.Proofs.YtoemnobfnnjopaaDoor
