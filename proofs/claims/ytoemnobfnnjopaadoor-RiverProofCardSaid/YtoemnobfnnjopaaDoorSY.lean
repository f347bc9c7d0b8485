/-
  Plain lemmas and plain functions, several texts joined.
  Conditions stand in each theorem.
-/
import Derived.Test.YtoemnobfnnjopaaDoorS5
set_option linter.unusedSimpArgs false
set_option linter.unusedVariables false
/-
  The mouth is fewer steps away than there are points.
  No conditions but those in the theorems.
-/
namespace Go.Proofs.YtoemnobfnnjopaaDoor
open Go
theorem dep_lt {r : List RvT} {i : Nat} (g : Good r) (hi : i < r.length) : dep r i < r.length := by
  have h1 : ((List.range (dep r i + 1)).map fun k => stps r k i).Nodup := by
    unfold List.Nodup
    rw [List.pairwise_map]
    refine List.Pairwise.imp_of_mem (R := fun a b => a ≠ b) ?_ (List.nodup_range (n := dep r i + 1))
    intro a b ha hb hab e
    exact hab (stps_inj g hi (by have := List.mem_range.1 ha; omega) (by have := List.mem_range.1 hb; omega) e)
  have h2 := h1.length_le_of_subset (l₂ := List.range r.length) (fun x hx => by
    obtain ⟨k, _, rfl⟩ := List.mem_map.1 hx
    exact List.mem_range.2 (stps_lt g hi k))
  rw [List.length_map, List.length_range, List.length_range] at h2
  omega
theorem step_at {r : List RvT} {a n k : Nat} (hk : k < n) : (stepL r a n).getD k default = ((stps r k a : Nat) : Int) := map_at hk
end Go.Proofs.YtoemnobfnnjopaaDoor

/-
  Heights that run down, from turns.
  No conditions but those in the theorems.
-/
namespace Go.Proofs.YtoemnobfnnjopaaDoor
open Go
/-- So much is left for a point, by the first k points above it. -/
def mostF (r : List RvT) (i : Nat) : Nat → Int
  | 0 => 9000
  | k + 1 => min (mostF r i k) (9000 - max 0 (drp r k i))
def AF (r : List RvT) (t : Nat → Int) : Nat → Nat → Int
  | 0, _ => 0
  | f + 1, i => min (mostF r i r.length) ((if (r.getD i default).dn = -1 then 0 else AF r t f (r.getD i default).dn.toNat + (r.getD i default).ls) + t i)
def anyV (r : List RvT) (t : Nat → Int) (i : Nat) : Int := AF r t r.length i
def lowV (r : List RvT) (t : Nat → Int) (i : Nat) : Int := if (r.getD i default).dn = -1 then 0 else anyV r t (r.getD i default).dn.toNat + (r.getD i default).ls
def anyS (r : List RvT) (t : Nat → Int) : List Int := (List.range r.length).map (anyV r t)
/-- Those that are done. -/
def hsD (r : List RvT) (t : Nat → Int) (D : List Bool) : List Int := (List.range r.length).map fun i => if D.getD i default = true then anyV r t i else 0
section
variable {r : List RvT} {t : Nat → Int} {i k : Nat} {D : List Bool}
theorem AF_eq (g : Good r) : ∀ f f' i, i < r.length → dep r i < f → dep r i < f' → AF r t f i = AF r t f' i
  | 0, _, _, _, h, _ => absurd h (Nat.not_lt_zero _)
  | _, 0, _, _, _, h => absurd h (Nat.not_lt_zero _)
  | f + 1, f' + 1, i, hi, h, h' => by
    rw [AF, AF]
    by_cases hd : (r.getD i default).dn = -1
    · rw [if_pos hd, if_pos hd]
    · have := dep_d g hi hd
      rw [if_neg hd, if_neg hd, AF_eq g f f' _ (dn_lt g hi hd) (by omega) (by omega)]
theorem any_eq (g : Good r) (hi : i < r.length) : anyV r t i = min (mostF r i r.length) (lowV r t i + t i) := by
  have hd := dep_lt g hi
  have e : anyV r t i = AF r t (r.length + 1) i := AF_eq g _ _ _ hi hd (by omega)
  rw [e, AF]
  unfold lowV anyV
  rfl
theorem most_bd (g : Good r) : ∀ n, n ≤ r.length → 4500 ≤ mostF r i n ∧ mostF r i n ≤ 9000
  | 0, _ => by unfold mostF; omega
  | n + 1, h => by
    have := most_bd g n (by omega)
    have := drp_bd (k := i) g (show n < r.length by omega)
    unfold mostF; omega
theorem most_le : ∀ n, k < n → mostF r i n ≤ 9000 - max 0 (drp r k i)
  | 0, h => absurd h (Nat.not_lt_zero _)
  | n + 1, h => by
    unfold mostF
    rcases Nat.lt_or_ge k n with h1 | h1
    · have := most_le n h1; omega
    · rw [show k = n by omega]; omega
theorem most_ge {x : Int} (h0 : x ≤ 9000) : ∀ n, (∀ k, k < n → x ≤ 9000 - max 0 (drp r k i)) → x ≤ mostF r i n
  | 0, _ => h0
  | n + 1, h => by
    have := most_ge h0 n (fun k hk => h k (by omega))
    have := h n (by omega)
    unfold mostF; omega
theorem any_bd (g : Good r) (ht : ∀ i, 0 ≤ t i) : ∀ i, i < r.length → 0 ≤ anyV r t i ∧ anyV r t i ≤ 9000 := by
  refine down_ind g (fun i hi hm => ?_) (fun i hi hm hlt ih => ?_)
  · have h1 := any_eq (t := t) g hi
    have h2 := most_bd (i := i) g r.length (Nat.le_refl _)
    have h3 : lowV r t i = 0 := by unfold lowV; rw [if_pos hm]
    have := ht i
    omega
  · have h1 := any_eq (t := t) g hi
    have h2 := most_bd (i := i) g r.length (Nat.le_refl _)
    have h3 : lowV r t i = anyV r t (r.getD i default).dn.toNat + (r.getD i default).ls := by unfold lowV; rw [if_neg hm]
    have := ht i
    have := g.p i hi
    omega
theorem low_bd (g : Good r) (ht : ∀ i, 0 ≤ t i) (hi : i < r.length) : 0 ≤ lowV r t i ∧ lowV r t i ≤ 9500 := by
  unfold lowV
  split
  · omega
  · rename_i hm
    have := any_bd g ht _ (dn_lt g hi hm)
    have := g.p i hi
    omega
theorem any_at (hi : i < r.length) : (anyS r t).getD i default = anyV r t i := map_at hi
theorem any_len : (anyS r t).length = r.length := by unfold anyS; rw [List.length_map, List.length_range]
/-- They run down. -/
theorem any_runs (g : Good r) (ht : ∀ i, 0 ≤ t i) : Runs r (anyS r t) := by
  refine ⟨any_len, fun i hi => ?_, fun i hi hd => ?_⟩
  · rw [any_at hi]; exact any_bd g ht i hi
  · have hl := dn_lt g hi hd
    rw [any_at hi, any_at hl]
    have h1 := any_eq (t := t) g hi
    have h1d := any_eq (t := t) g hl
    have h3 : lowV r t i = anyV r t (r.getD i default).dn.toNat + (r.getD i default).ls := by unfold lowV; rw [if_neg hd]
    have := ht i
    have hp := g.p i hi
    have hm : mostF r (r.getD i default).dn.toNat r.length + (r.getD i default).ls ≤ mostF r i r.length := by
      have hb : ∀ k, k < r.length → 0 ≤ drp r k i → mostF r (r.getD i default).dn.toNat r.length ≤ 9000 - (drp r k i + (r.getD i default).ls) := fun k hk hk2 => by
        have b1 := (drp_ge g hk).1 hk2
        have b2 := bl_tr b1 (bl_down hd)
        have := most_le (r := r) (i := (r.getD i default).dn.toNat) r.length hk
        rw [drp_bl g hk b2] at this
        have := DM_d g hi hd
        rw [drp_bl g hk b1]
        omega
      have h0 := hb i hi (by rw [drp_0 g hi]; omega)
      rw [drp_0 g hi] at h0
      refine most_ge (by omega) _ (fun k hk => ?_)
      rcases Int.lt_or_le (drp r k i) 0 with h | h
      · omega
      · have := hb k hk h; omega
    omega
theorem hsD_len : (hsD r t D).length = r.length := by unfold hsD; rw [List.length_map, List.length_range]
theorem hsD_at (hi : i < r.length) : (hsD r t D).getD i default = if D.getD i default = true then anyV r t i else 0 := map_at hi
theorem hsD_0 : hsD r t (List.replicate r.length false) = List.replicate r.length 0 := by
  unfold hsD
  apply List.ext_getElem (by simp)
  intro j h1 h2
  have hj : j < r.length := by simpa using h1
  simp [List.getElem_replicate, List.getD_eq_getElem?_getD, hj]
theorem hsD_set (hi : i < r.length) (hl : D.length = r.length) : (hsD r t D).set i (anyV r t i) = hsD r t (D.set i true) := by
  refine list_ext (by rw [List.length_set, hsD_len, hsD_len]) (fun j hj => ?_)
  rw [List.length_set, hsD_len] at hj
  rw [hsD_at hj]
  by_cases e : i = j
  · subst e
    simp [List.getD_eq_getElem?_getD, List.getElem?_set, hsD_len, hl, hi]
  · have e1 : ((hsD r t D).set i (anyV r t i)).getD j default = (hsD r t D).getD j default := by
      simp [List.getD_eq_getElem?_getD, List.getElem?_set, e]
    have e2 : (D.set i true).getD j default = D.getD j default := by
      simp [List.getD_eq_getElem?_getD, List.getElem?_set, e]
    rw [e1, e2, hsD_at hj]
theorem hsD_all (h : ∀ j, j < r.length → D.getD j default = true) : hsD r t D = anyS r t := by
  unfold hsD anyS
  apply List.map_congr_left
  intro j hj
  rw [if_pos (h j (List.mem_range.1 hj))]
theorem set_get (hl : D.length = r.length) (hi : i < r.length) : (D.set i true).getD i default = true := by
  simp [List.getD_eq_getElem?_getD, List.getElem?_set, hl, hi]
theorem set_old {j : Nat} (h : D.getD j default = true) : (D.set i true).getD j default = true := by
  by_cases e : i = j
  · subst e
    rw [List.getD_eq_getElem?_getD, List.getElem?_set]
    by_cases hi : i < D.length
    · simp [hi]
    · rw [List.getD_eq_getElem?_getD, List.getElem?_eq_none (by omega)] at h; exact absurd h (by decide)
  · rw [List.getD_eq_getElem?_getD, List.getElem?_set, if_neg e, ← List.getD_eq_getElem?_getD]; exact h
end
end Go.Proofs.YtoemnobfnnjopaaDoor

/-
  Rivers with other heights or other steepness: what stays.
  No conditions but those in the theorems.
-/
namespace Go.Proofs.YtoemnobfnnjopaaDoor
open Go
/-- The same points, with the same ways down. -/
structure Like (r s : List RvT) : Prop where
  l : s.length = r.length
  d : ∀ i, (s.getD i default).dn = (r.getD i default).dn
  n : ∀ i, (s.getD i default).nm = (r.getD i default).nm
/-- And as steep. -/
structure Same (r s : List RvT) : Prop extends Like r s where
  s : ∀ i, (s.getD i default).ls = (r.getD i default).ls
theorem rvE_0 {r : List RvT} (h : (chk r).2.2 = 0) : (1 ≤ r.length ∧ r.length ≤ 9) ∧ (∀ i, i < r.length → rvE r i = 0) ∧ (mouS r r.length).length = 1 ∧ ∀ i, i < r.length → reaB r i = true := by
  have g := chk_good h
  have h1 := g.n
  have h2 : (K.fst (rvE r) (List.range r.length)).2 = 0 := Decidable.not_not.1 fun hn => by
    rw [chk_2 h1 hn] at h; exact hn h
  have hall : ∀ i, i < r.length → rvE r i = 0 := by
    intro i hi
    by_cases h0 : ∃ k, k < r.length ∧ rvE r k ≠ 0
    · exfalso
      have hex : ∃ k, k < r.length ∧ rvE r k ≠ 0 ∧ ∀ j, j < k → rvE r j = 0 := by
        obtain ⟨k, hk, hne⟩ := h0
        induction k using Nat.strongRecOn with
        | _ k ih =>
          by_cases hs : ∃ j, j < k ∧ rvE r j ≠ 0
          · obtain ⟨j, hj, hj2⟩ := hs
            exact ih j hj (by omega) hj2
          · exact ⟨k, hk, hne, fun j hj => Decidable.not_not.1 fun hn => hs ⟨j, hj, hn⟩⟩
      obtain ⟨k, hk, hne, hj⟩ := hex
      rw [fst_at hk hj hne] at h2
      exact hne h2
    · exact Decidable.not_not.1 fun hn => h0 ⟨i, hi, hn⟩
  refine ⟨h1, hall, ?_, fun i hi => decide_eq_true (g.r i hi)⟩
  rcases Nat.lt_or_ge (mouS r r.length).length 1 with h3 | h3
  · rw [chk_3 h1 h2 (by omega)] at h; simp at h
  · rcases Nat.lt_or_ge 1 (mouS r r.length).length with h4 | h4
    · rw [chk_4 h1 h2 h4] at h; simp at h
    · omega
section
variable {r s : List RvT} {i k : Nat}
theorem Like.stp (h : Like r s) : stp s i = stp r i := by unfold Go.Proofs.YtoemnobfnnjopaaDoor.stp; rw [h.d]
theorem Like.stps (h : Like r s) : ∀ k i, stps s k i = stps r k i
  | 0, _ => rfl
  | k + 1, i => by rw [Go.Proofs.YtoemnobfnnjopaaDoor.stps, h.stps k i, h.stp]; rfl
theorem Like.nms (h : Like r s) {b : ByteArray} : ((s.take i).any fun q => nmEq q.nm b) = ((r.take i).any fun q => nmEq q.nm b) := by
  have e : (s.take i).map (·.nm) = (r.take i).map (·.nm) := by
    apply List.ext_getElem (by simp [h.l])
    intro j h1 h2
    simp only [List.length_map, List.length_take] at h1 h2
    have := h.n j
    rw [List.getD_eq_getElem?_getD, List.getD_eq_getElem?_getD, List.getElem?_eq_getElem (by omega), List.getElem?_eq_getElem (by omega)] at this
    simpa using this
  have e2 : ∀ l : List RvT, (l.any fun q => nmEq q.nm b) = (l.map (·.nm)).any fun q => nmEq q b := fun l => by rw [List.any_map]; rfl
  rw [e2, e2, e]
theorem chk_like (h : Like r s) (hc : (chk r).2.2 = 0) (hp : ∀ i, i < r.length → ((0 ≤ (s.getD i default).ls ∧ (s.getD i default).ls ≤ 500) ∧ (0 ≤ (s.getD i default).ht ∧ (s.getD i default).ht ≤ 9000)) ∧ ((s.getD i default).dn = -1 → (s.getD i default).ls = 0)) : chk s = (0, 0, 0) := by
  obtain ⟨h1, h2, h3, h4⟩ := rvE_0 hc
  have hl := h.l
  refine chk_0 (by omega) (fst_0 fun i hi => ?_) ?_ (fun j hj => ?_)
  · rw [hl] at hi
    have h5 := rv_ok (h2 i hi)
    have h6 := pos_ok h5.2.2
    have hpi := hp i hi
    rw [rv_p (by rw [h.n]; exact h5.1) (by rw [h.n, h.nms]; exact h5.2.1)]
    refine pos_0 hpi.1 (by rw [h.d, hl]; exact h6.2.1) ?_
    rintro (h7 | ⟨h7, h8⟩)
    · exact h6.2.2 (.inl (by rw [← h.d]; exact h7))
    · exact h8 (hpi.2 h7)
  · have e : mouS s s.length = mouS r r.length := by
      unfold mouS; rw [hl]
      exact List.filter_congr fun i _ => by rw [h.d]
    rw [e]; exact h3
  · have := h4 j (by omega)
    unfold reaB at this ⊢
    rw [hl, h.stps, h.d]; exact this
theorem Like.dep (h : Like r s) : dep s i = dep r i := by
  have e : (fun k => decide ((s.getD (Go.Proofs.YtoemnobfnnjopaaDoor.stps s k i) default).dn = -1)) = fun k => decide ((r.getD (Go.Proofs.YtoemnobfnnjopaaDoor.stps r k i) default).dn = -1) := by
    funext k; rw [h.stps, h.d]
  unfold Go.Proofs.YtoemnobfnnjopaaDoor.dep
  rw [h.l, e]
theorem Like.bl (h : Like r s) : bl s i k ↔ bl r i k := by
  unfold Go.Proofs.YtoemnobfnnjopaaDoor.bl
  constructor
  · rintro ⟨j, e⟩; exact ⟨j, by rw [← h.stps]; exact e⟩
  · rintro ⟨j, e⟩; exact ⟨j, by rw [h.stps]; exact e⟩
theorem Like.blB (h : Like r s) : blB s i k = blB r i k := by
  have e : (fun j => Go.Proofs.YtoemnobfnnjopaaDoor.stps s j i == k) = fun j => Go.Proofs.YtoemnobfnnjopaaDoor.stps r j i == k := by
    funext j; rw [h.stps]
  unfold Go.Proofs.YtoemnobfnnjopaaDoor.blB
  rw [h.l, e]
theorem Same.DF (h : Same r s) : ∀ f i, DF s f i = DF r f i
  | 0, _ => rfl
  | f + 1, i => by rw [Go.Proofs.YtoemnobfnnjopaaDoor.DF, Go.Proofs.YtoemnobfnnjopaaDoor.DF, h.d, h.s, h.DF f]
theorem Same.DM (h : Same r s) : DM s i = DM r i := by unfold Go.Proofs.YtoemnobfnnjopaaDoor.DM; rw [h.l, h.DF]
theorem Same.drp (h : Same r s) : drp s i k = drp r i k := by unfold Go.Proofs.YtoemnobfnnjopaaDoor.drp; rw [h.blB, h.DM, h.DM]
theorem Same.badB (h : Same r s) {l : List Int} : badB s l i = badB r l i := by unfold Go.Proofs.YtoemnobfnnjopaaDoor.badB; rw [h.d, h.s]
theorem Same.badS (h : Same r s) {l : List Int} : badS s l = badS r l := by
  unfold Go.Proofs.YtoemnobfnnjopaaDoor.badS; rw [h.l]; exact selN_congr fun i _ => h.badB
theorem Same.runs (h : Same r s) {l : List Int} : Runs s l ↔ Runs r l := by
  constructor
  · rintro ⟨a, b, c⟩
    rw [h.l] at a b c
    refine ⟨a, b, fun i hi hd => ?_⟩
    have := c i hi (by rw [h.d]; exact hd)
    rwa [h.d, h.s] at this
  · rintro ⟨a, b, c⟩
    refine ⟨by rw [h.l]; exact a, fun i hi => b i (by rw [← h.l]; exact hi), fun i hi hd => ?_⟩
    rw [h.l] at hi
    rw [h.d] at hd ⊢
    rw [h.s]
    exact c i hi hd
end
/-- Other heights, for the first k points. -/
def wthP (r : List RvT) (l : List Int) (k : Nat) : List RvT := (List.range r.length).map fun i => if i < k then { r.getD i default with ht := l.getD i default } else r.getD i default
def wthS (r : List RvT) (l : List Int) : List RvT := wthP r l r.length
section
variable {r : List RvT} {l : List Int} {i k : Nat}
theorem wp_len : (wthP r l k).length = r.length := by simp [wthP]
theorem wp_at (h : i < r.length) : (wthP r l k).getD i default = if i < k then { r.getD i default with ht := l.getD i default } else r.getD i default := by
  unfold wthP; rw [List.getD_eq_getElem?_getD, List.getElem?_map, List.getElem?_range h]; rfl
theorem wp_0 : wthP r l 0 = r := by
  apply List.ext_getElem?
  intro i
  rcases Nat.lt_or_ge i r.length with h | h
  · have e := wp_at (r := r) (l := l) (k := 0) h
    rw [if_neg (Nat.not_lt_zero i), List.getD_eq_getElem?_getD, List.getD_eq_getElem?_getD, List.getElem?_eq_getElem h, List.getElem?_eq_getElem (by rw [wp_len]; exact h)] at e
    rw [List.getElem?_eq_getElem h, List.getElem?_eq_getElem (by rw [wp_len]; exact h)]
    exact congrArg some e
  · rw [List.getElem?_eq_none h, List.getElem?_eq_none (by rw [wp_len]; exact h)]
theorem set_at {E : Type} [Inhabited E] {xs : List E} {x : E} {i j : Nat} (hi : i < xs.length) : (xs.set i x).getD j default = if i = j then x else xs.getD j default := by
  rw [List.getD_eq_getElem?_getD, List.getElem?_set]
  by_cases e : i = j
  · subst e; rw [if_pos rfl, if_pos rfl, if_pos hi]; rfl
  · rw [if_neg e, if_neg e, ← List.getD_eq_getElem?_getD]
theorem list_extE {E : Type} [Inhabited E] {a b : List E} (hl : a.length = b.length) (h : ∀ j, j < a.length → a.getD j default = b.getD j default) : a = b := by
  apply List.ext_getElem hl
  intro i h1 h2
  have := h i h1
  rwa [List.getD_eq_getElem?_getD, List.getD_eq_getElem?_getD, List.getElem?_eq_getElem h1, List.getElem?_eq_getElem h2] at this
theorem wp_set (h : k < r.length) : (wthP r l k).set k { (wthP r l k).getD k default with ht := l.getD k default } = wthP r l (k + 1) := by
  refine list_extE (by rw [List.length_set, wp_len, wp_len]) (fun j hj => ?_)
  rw [List.length_set, wp_len] at hj
  rw [set_at (by rw [wp_len]; exact h), wp_at h, wp_at hj, wp_at hj, if_neg (Nat.lt_irrefl k)]
  by_cases e : k = j
  · subst e; rw [if_pos rfl, if_pos (Nat.lt_succ_self k)]
  · rw [if_neg e]
    by_cases h1 : j < k
    · rw [if_pos h1, if_pos (by omega)]
    · rw [if_neg h1, if_neg (by omega)]
theorem w_len : (wthS r l).length = r.length := wp_len
theorem w_at (h : i < r.length) : (wthS r l).getD i default = { r.getD i default with ht := l.getD i default } := by unfold wthS; rw [wp_at h, if_pos h]
theorem w_out (h : ¬ i < r.length) : (wthS r l).getD i default = r.getD i default := by
  rw [List.getD_eq_getElem?_getD, List.getD_eq_getElem?_getD, List.getElem?_eq_none (by rw [w_len]; omega), List.getElem?_eq_none (by omega)]
theorem w_same : Same r (wthS r l) := by
  refine ⟨⟨w_len, fun i => ?_, fun i => ?_⟩, fun i => ?_⟩
  all_goals
    by_cases h : i < r.length
    · rw [w_at h]
    · rw [w_out h]
theorem w_own (h : l.length = r.length) : ownS (wthS r l) = l := by
  refine list_ext (by rw [own_len, w_len, h]) (fun j hj => ?_)
  rw [own_len, w_len] at hj
  rw [own_at (by rw [w_len]; exact hj), w_at hj]
theorem w_chk (hc : (chk r).2.2 = 0) (hl : ∀ i, i < r.length → 0 ≤ l.getD i default ∧ l.getD i default ≤ 9000) : chk (wthS r l) = (0, 0, 0) := by
  have g := chk_good hc
  refine chk_like (w_same (l := l)).toLike hc (fun i hi => ?_)
  have := g.p i hi
  rw [w_at hi]
  exact ⟨⟨this.1.1, hl i hi⟩, this.2.2⟩
theorem eR_len (p : RvT) : (eR p).length = 4 := rfl
theorem oneR (ps : List RvT) : (ps.flatMap eR).all Value.oneCell' = true := by
  induction ps with
  | nil => rfl
  | cons p ps ih => rw [List.flatMap_cons, List.all_append, ih]; rfl
end
end Go.Proofs.YtoemnobfnnjopaaDoor

/-
  Filled and carved: the least and the greatest that run down.
  No conditions but those in the theorems.
-/
namespace Go.Proofs.YtoemnobfnnjopaaDoor
open Go
/-- Some of the first k heights is lower, or higher, than that of its point. -/
def lowB (r : List RvT) (h : List Int) (k : Nat) : Bool := (List.range k).any fun i => decide (h.getD i default < (r.getD i default).ht)
def higB (r : List RvT) (h : List Int) (k : Nat) : Bool := (List.range k).any fun i => decide (h.getD i default > (r.getD i default).ht)
/-- The one or the other. -/
def two {E : Type} (n : Nat) (a b : E) : E := if n = 0 then a else b
section
variable {r : List RvT} {h : List Int} {i k a : Nat}
theorem low_s : lowB r h (k + 1) = (lowB r h k || decide (h.getD k default < (r.getD k default).ht)) := by
  unfold lowB; rw [List.range_succ, List.any_append]; simp
theorem hig_s : higB r h (k + 1) = (higB r h k || decide (h.getD k default > (r.getD k default).ht)) := by
  unfold higB; rw [List.range_succ, List.any_append]; simp
theorem low_no (hl : lowB r h k = false) (hi : i < k) : (r.getD i default).ht ≤ h.getD i default := by
  have := List.any_eq_false.1 hl i (List.mem_range.2 hi)
  simpa using this
theorem hig_no (hl : higB r h k = false) (hi : i < k) : h.getD i default ≤ (r.getD i default).ht := by
  have := List.any_eq_false.1 hl i (List.mem_range.2 hi)
  simpa using this
theorem fill_under (g : Good r) (R : Runs r h) (hl : lowB r h r.length = false) (hi : i < r.length) : fillF r (ownS r) i r.length ≤ h.getD i default := by
  refine fill_le (by rw [own_at hi]; exact low_no hl hi) (fun k hk => ?_) _
  have hb := (drp_ge g hi).1 hk
  have hkl := bl_lt g hi hb
  have := R.fall g hi hb
  have := low_no hl hkl
  rw [own_at hkl, drp_bl g hi hb]; omega
theorem carve_over (g : Good r) (R : Runs r h) (hl : higB r h r.length = false) (hi : i < r.length) : h.getD i default ≤ carveF r (ownS r) i r.length := by
  refine carve_ge (by rw [own_at hi]; exact hig_no hl hi) _ (fun k hkl hk => ?_)
  have hb := (drp_ge g hkl).1 hk
  have := R.fall g hkl hb
  have := hig_no hl hkl
  rw [own_at hkl, drp_bl g hkl hb]; omega
theorem fillE_cases (hc : (chk r).2.2 = 0) : fillE r = 0 ∨ fillE r = 9 := by
  unfold fillE; rw [if_neg (by omega)]; split <;> simp
theorem carveE_cases (hc : (chk r).2.2 = 0) : carveE r = 0 ∨ carveE r = 9 := by
  unfold carveE; rw [if_neg (by omega)]; split <;> simp
theorem fill_low (g : Good r) (hc : (chk r).2.2 = 0) (R : Runs r h) (he : fillE r ≠ 0) : lowB r h r.length = true := by
  cases e : lowB r h r.length with
  | true => rfl
  | false =>
    exfalso
    apply he
    unfold fillE
    rw [if_neg (by omega), if_pos]
    refine runs_iff.2 (fill_runs g own_len (fun i hi => (own_bd g hi).1) (fun i hi => ?_))
    have := fill_under g R e hi
    have := R.b i hi
    omega
theorem carve_hig (g : Good r) (hc : (chk r).2.2 = 0) (R : Runs r h) (he : carveE r ≠ 0) : higB r h r.length = true := by
  cases e : higB r h r.length with
  | true => rfl
  | false =>
    exfalso
    apply he
    unfold carveE
    rw [if_neg (by omega), if_pos]
    refine runs_iff.2 (carve_runs g own_len (fun i hi => (own_bd g hi).2) (fun i hi => ?_))
    have := carve_over g R e hi
    have := R.b i hi
    omega
theorem fill_ok (he : fillE r = 0) : fillL r = fillS r (ownS r) ∧ Runs r (fillL r) := by
  have hl : fillL r = fillS r (ownS r) := by unfold fillL; rw [if_pos he]
  refine ⟨hl, ?_⟩
  rw [hl]
  unfold fillE at he
  split at he
  · rename_i h; exact absurd he h
  · split at he
    · rename_i h; exact runs_iff.1 h
    · omega
theorem carve_ok (he : carveE r = 0) : carveL r = carveS r (ownS r) ∧ Runs r (carveL r) := by
  have hl : carveL r = carveS r (ownS r) := by unfold carveL; rw [if_pos he]
  refine ⟨hl, ?_⟩
  rw [hl]
  unfold carveE at he
  split at he
  · rename_i h; exact absurd he h
  · split at he
    · rename_i h; exact runs_iff.1 h
    · omega
/-- Water that is poured then runs to the mouth. -/
theorem pour_runs (hc : (chk r).2.2 = 0) (R : Runs r h) (ha : a < r.length) : pouE (wthS r h) (a : Int) = 0 ∧ pouL (wthS r h) (a : Int) = stepL r a (dep r a + 1) := by
  have hk := w_chk hc R.b
  have g2 : Good (wthS r h) := chk_good (by rw [hk])
  have hs := w_same (r := r) (l := h)
  have he : pouE (wthS r h) (a : Int) = 0 := by unfold pouE; rw [hk, if_neg (by simp), if_pos (by rw [w_len]; omega)]
  refine ⟨he, ?_⟩
  have hd := hs.toLike.dep (i := a)
  have : pouL (wthS r h) (a : Int) = stepL (wthS r h) a (dep (wthS r h) a + 1) := by
    unfold pouL
    rw [if_pos he, Int.toNat_natCast]
    refine poured_all g2 (by rw [w_len]; exact ha) (fun j hj => ?_)
    rw [w_own R.l, hs.badB]
    have g := chk_good hc
    have hlt := stps_lt g ha j
    rw [hs.toLike.stps]
    by_cases hm : (r.getD (stps r j a) default).dn = -1
    · exact bad_no.2 (.inl hm)
    · exact bad_no.2 (.inr (R.d _ hlt hm))
  rw [this, hd]
  unfold stepL
  apply List.map_congr_left
  intro j _
  rw [hs.toLike.stps]
theorem rd_two {w : World} {A B : Option Addr} {xs ys : List Int} {n : Nat} (h1 : K.Rd w A 1 K.eI xs) (h2 : K.Rd w B 1 K.eI ys) : K.Rd w (two n A B) 1 K.eI (two n xs ys) := by
  unfold two
  split
  · exact h1
  · exact h2
end
end Go.Proofs.YtoemnobfnnjopaaDoor
