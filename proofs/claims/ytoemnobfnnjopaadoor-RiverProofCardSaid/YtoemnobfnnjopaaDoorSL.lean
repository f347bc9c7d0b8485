/-
  Plain lemmas and plain functions, several texts joined.
  Conditions stand in each theorem.
-/
import Derived.Test.YtoemnobfnnjopaaDoorSZ
set_option linter.unusedSimpArgs false
set_option linter.unusedVariables false
/-
  The least change: levels of points, moved to those that are asked for; the search finds the least.
  No conditions but those in the theorems.
-/
namespace Go.Proofs.YtoemnobfnnjopaaDoor
open Go
/-- The sum of the first k values. -/
def sg (f : Nat → Int) : Nat → Int
  | 0 => 0
  | k + 1 => sg f k + f k
section
variable {f h : Nat → Int} {n m : Nat}
theorem sg_congr : ∀ {n : Nat}, (∀ i, i < n → f i = h i) → sg f n = sg h n
  | 0, _ => rfl
  | n + 1, e => by rw [sg, sg, sg_congr (n := n) (fun i hi => e i (by omega)), e n (by omega)]
theorem sg_le : ∀ {n : Nat}, (∀ i, i < n → f i ≤ h i) → sg f n ≤ sg h n
  | 0, _ => Int.le_refl _
  | n + 1, e => by
    have := sg_le (n := n) (fun i hi => e i (by omega))
    have := e n (by omega)
    rw [sg, sg]; omega
theorem sg_lt {i : Nat} : ∀ {n : Nat}, i < n → (∀ i, i < n → f i ≤ h i) → f i < h i → sg f n < sg h n
  | 0, hi, _, _ => absurd hi (Nat.not_lt_zero _)
  | n + 1, hi, e, e2 => by
    have h1 := e n (by omega)
    rw [sg, sg]
    rcases Nat.lt_or_ge i n with h2 | h2
    · have := sg_lt (n := n) h2 (fun i hi => e i (by omega)) e2; omega
    · have h3 : i = n := by omega
      subst h3
      have := sg_le (n := i) (fun i hi => e i (by omega)); omega
theorem sg_add : ∀ n, sg (fun i => f i + h i) n = sg f n + sg h n
  | 0 => rfl
  | n + 1 => by rw [sg, sg, sg, sg_add n]; omega
theorem sg_0 : ∀ {n : Nat}, (∀ i, i < n → f i = 0) → sg f n = 0
  | 0, _ => rfl
  | n + 1, e => by rw [sg, sg_0 (n := n) (fun i hi => e i (by omega)), e n (by omega)]; rfl
theorem sg_bd {b : Int} : ∀ {n : Nat}, (∀ i, i < n → f i ≤ b) → sg f n ≤ b * (n : Int)
  | 0, _ => by simp [sg]
  | n + 1, e => by
    have := sg_bd (n := n) (fun i hi => e i (by omega))
    have := e n (by omega)
    have e2 : b * ((n + 1 : Nat) : Int) = b * (n : Int) + b := by push_cast; rw [Int.mul_add, Int.mul_one]
    rw [sg, e2]; omega
theorem sg_ge0 : ∀ {n : Nat}, (∀ i, i < n → 0 ≤ f i) → 0 ≤ sg f n
  | 0, _ => Int.le_refl _
  | n + 1, e => by
    have := sg_ge0 (n := n) (fun i hi => e i (by omega))
    have := e n (by omega)
    rw [sg]; omega
theorem sg_term {i : Nat} : ∀ {n : Nat}, i < n → (∀ i, i < n → 0 ≤ f i) → f i ≤ sg f n
  | 0, hi, _ => absurd hi (Nat.not_lt_zero _)
  | n + 1, hi, e => by
    have h1 := e n (by omega)
    rw [sg]
    rcases Nat.lt_or_ge i n with h2 | h2
    · have := sg_term (n := n) h2 (fun i hi => e i (by omega)); omega
    · have h3 : i = n := by omega
      subst h3
      have := sg_ge0 (n := i) (fun i hi => e i (by omega)); omega
theorem sg_one {p : Nat → Prop} [DecidablePred p] {c : Int} {k : Nat} : ∀ {n : Nat}, k < n → p k → (∀ i, i < n → p i → i = k) → sg (fun i => if p i then c else 0) n = c
  | 0, hi, _, _ => absurd hi (Nat.not_lt_zero _)
  | n + 1, hi, e, e2 => by
    rw [sg]
    rcases Nat.lt_or_ge k n with h2 | h2
    · rw [sg_one (n := n) h2 e (fun i hi => e2 i (by omega)), if_neg (fun h => by have := e2 n (by omega) h; omega)]; omega
    · have h3 : k = n := by omega
      subst h3
      rw [sg_0 (fun i hi => if_neg (fun h => by have := e2 i (by omega) h; omega)), if_pos e]; omega
theorem sg_comm {F : Nat → Nat → Int} : ∀ m, sg (fun k => sg (F k) n) m = sg (fun i => sg (fun k => F k i) m) n
  | 0 => (sg_0 (fun _ _ => rfl)).symm
  | m + 1 => by rw [sg, sg_comm m, ← sg_add]; exact sg_congr (fun i _ => rfl)
end
/-- Levels of points. -/
structure Lv (r : List RvT) (x : Nat → Int) : Prop where
  b : ∀ i, i < r.length → 0 ≤ x i + DM r i ∧ x i + DM r i ≤ 9000
  d : ∀ i, i < r.length → (r.getD i default).dn ≠ -1 → x (r.getD i default).dn.toNat ≤ x i
def cstF (r : List RvT) (x : Nat → Int) (n : Nat) : Int := sg (fun i => ownC r i (x i)) n
def cstV (r : List RvT) (x : Nat → Int) : Int := cstF r x r.length
/-- How much heights differ from those of the first k points. -/
def chgF (r : List RvT) (h : List Int) : Nat → Int
  | 0 => 0
  | k + 1 => chgF r h k + max (h.getD k default - (r.getD k default).ht) ((r.getD k default).ht - h.getD k default)
def chgV (r : List RvT) (h : List Int) : Int := chgF r h r.length
theorem chgF_bd {r : List RvT} {h : List Int} (g : Good r) (hb : ∀ j, j < r.length → -100000 ≤ h.getD j default ∧ h.getD j default ≤ 100000) : ∀ k, k ≤ r.length → 0 ≤ chgF r h k ∧ chgF r h k ≤ 109000 * (k : Int)
  | 0, _ => by unfold chgF; omega
  | k + 1, hk => by
    have := chgF_bd g hb k (by omega)
    have := hb k (by omega)
    have := g.p k (by omega)
    unfold chgF; omega
section
variable {r : List RvT} {x : Nat → Int} {i k a f : Nat} {h lv fx : List Int} {v : Int}
theorem lv_chg (e : ∀ i, i < r.length → h.getD i default = x i + DM r i) : ∀ n, n ≤ r.length → chgF r h n = cstF r x n
  | 0, _ => rfl
  | n + 1, hn => by
    have e1 := lv_chg e n (by omega)
    have e2 := e n (by omega)
    unfold chgF
    rw [e1, e2]; rfl
theorem lv_of (g : Good r) (R : Runs r h) : Lv r (fun i => h.getD i default - DM r i) := by
  refine ⟨fun i hi => ?_, fun i hi hd => ?_⟩
  · have := R.b i hi
    show 0 ≤ h.getD i default - DM r i + DM r i ∧ h.getD i default - DM r i + DM r i ≤ 9000
    omega
  · have h1 := R.d i hi hd
    have h2 := DM_d g hi hd
    show h.getD _ default - DM r _ ≤ h.getD i default - DM r i
    omega
theorem lv_runs (g : Good r) (L : Lv r x) (hl : h.length = r.length) (e : ∀ i, i < r.length → h.getD i default = x i + DM r i) : Runs r h := by
  refine ⟨hl, fun i hi => by rw [e i hi]; exact L.b i hi, fun i hi hd => ?_⟩
  have h1 := L.d i hi hd
  have h2 := DM_d g hi hd
  rw [e i hi, e _ (dn_lt g hi hd)]; omega
theorem lv_ge0 (g : Good r) (L : Lv r x) : ∀ i, i < r.length → 0 ≤ x i := by
  refine down_ind g (fun i hi hm => ?_) (fun i hi hm hlt ih => ?_)
  · have := L.b i hi; rw [DM_m hm] at this; omega
  · have := L.d i hi hm; omega
theorem levU_in : ∀ {n : Nat}, i < n → ∀ v ∈ lev3 r i, v ∈ levU r n
  | 0, hi, _, _ => absurd hi (Nat.not_lt_zero _)
  | n + 1, hi, v, hv => by
    unfold levU
    rcases Nat.lt_or_ge i n with h1 | h1
    · exact List.mem_append_left _ (levU_in h1 v hv)
    · have : i = n := by omega
      subst this; exact List.mem_append_right _ hv
theorem levS_in (hi : i < r.length) (hv : v ∈ lev3 r i) : v ∈ levS r := sort_perm.mem_iff.2 (levU_in hi v hv)
/-- The points of a level that is not asked for are moved up, or down. -/
def upX (x : Nat → Int) (v : Int) (i : Nat) : Int := if x i = v then v + 1 else x i
def dnX (x : Nat → Int) (v : Int) (i : Nat) : Int := if x i = v then v - 1 else x i
theorem up_lv (g : Good r) (L : Lv r x) (hv : v ∉ levS r) : Lv r (upX x v) := by
  refine ⟨fun i hi => ?_, fun i hi hd => ?_⟩
  · have := L.b i hi
    unfold upX
    split
    · rename_i e
      have : v ≠ 9000 - DM r i := fun e2 => hv (levS_in hi (by rw [e2]; simp [lev3]))
      omega
    · exact this
  · have := L.d i hi hd
    unfold upX
    split <;> split <;> omega
theorem dn_lv (g : Good r) (L : Lv r x) (hv : v ∉ levS r) : Lv r (dnX x v) := by
  refine ⟨fun i hi => ?_, fun i hi hd => ?_⟩
  · have h1 := L.b i hi
    have h2 := lv_ge0 g L i hi
    have h3 := DM_le g hi
    unfold dnX
    split
    · rename_i e
      have : v ≠ 0 := fun e2 => hv (levS_in hi (by rw [e2]; simp [lev3]))
      omega
    · exact h1
  · have := L.d i hi hd
    unfold dnX
    split <;> split <;> omega
theorem both_cst (hv : v ∉ levS r) : cstV r (upX x v) + cstV r (dnX x v) = cstV r x + cstV r x := by
  unfold cstV cstF
  rw [← sg_add, ← sg_add]
  refine sg_congr fun i hi => ?_
  have : v ≠ (r.getD i default).ht - DM r i := fun e2 => hv (levS_in hi (by rw [e2]; simp [lev3]))
  unfold ownC upX dnX
  split
  · rename_i e; rw [e]; omega
  · rfl
theorem cst_ge0 : 0 ≤ cstV r x := sg_ge0 fun i _ => by unfold ownC; omega
theorem round_lv (g : Good r) : ∀ (N : Nat) (x : Nat → Int), Lv r x → (cstV r x * 100000 + 81000 - sg x r.length).toNat = N → ∃ y, Lv r y ∧ (∀ i, i < r.length → y i ∈ levS r) ∧ cstV r y ≤ cstV r x := by
  intro N
  induction N using Nat.strongRecOn with
  | _ N ih =>
    intro x L hN
    by_cases hall : ∀ i, i < r.length → x i ∈ levS r
    · exact ⟨x, L, hall, Int.le_refl _⟩
    · have hex : ∃ i, i < r.length ∧ x i ∉ levS r := by
        refine Decidable.not_not.1 fun hn => hall fun i hi => Decidable.not_not.1 fun h2 => hn ⟨i, hi, h2⟩
      obtain ⟨i, hi, hv⟩ := hex
      have hb := both_cst (x := x) hv
      have hu := up_lv g L hv
      have hd := dn_lv g L hv
      have hn := g.n.2
      have sb : ∀ y, Lv r y → sg y r.length ≤ 81000 := fun y Ly => by
        have := sg_bd (f := y) (b := 9000) (n := r.length) (fun j hj => by have := Ly.b j hj; have := DM_le g hj; omega)
        omega
      have s0 := sb x L
      have s1 := sb _ hu
      have s2 := sb _ hd
      have c0 := cst_ge0 (r := r) (x := x)
      have c1 := cst_ge0 (r := r) (x := upX x (x i))
      have c2 := cst_ge0 (r := r) (x := dnX x (x i))
      by_cases hc : cstV r (upX x (x i)) ≤ cstV r x
      · have h1 : sg x r.length < sg (upX x (x i)) r.length := sg_lt hi (fun j _ => by unfold upX; split <;> omega) (by unfold upX; rw [if_pos rfl]; omega)
        obtain ⟨y, a, b, c⟩ := ih _ (by omega) _ hu rfl
        exact ⟨y, a, b, by omega⟩
      · have h1 : sg x r.length ≤ sg (dnX x (x i)) r.length + 9 := by
          have h2 : sg x r.length ≤ sg (fun j => dnX x (x i) j + 1) r.length := sg_le fun j _ => by unfold dnX; split <;> omega
          have h3 := sg_add (f := dnX x (x i)) (h := fun _ => 1) r.length
          have h4 := sg_bd (f := fun _ => 1) (b := 1) (n := r.length) (fun _ _ => Int.le_refl _)
          omega
        obtain ⟨y, a, b, c⟩ := ih _ (by omega) _ hd rfl
        exact ⟨y, a, b, by omega⟩
/-! All above a point. -/
def subV (r : List RvT) (c : Nat → Int) (a : Nat) : Int := sg (fun i => if blB r i a = true then c i else 0) r.length
theorem dn_bl (hk : (r.getD k default).dn = (a : Int)) : bl r k a := by
  have := bl_down (r := r) (i := k) (by rw [hk]; omega)
  rwa [hk, Int.toNat_natCast] at this
theorem dn_dep (g : Good r) (hkl : k < r.length) (hk : (r.getD k default).dn = (a : Int)) : dep r k = dep r a + 1 := by
  have := dep_d g hkl (by rw [hk]; omega)
  rwa [hk, Int.toNat_natCast] at this
theorem tree_sum (g : Good r) (c : Nat → Int) (ha : a < r.length) : subV r c a = c a + sg (fun k => if (r.getD k default).dn = (a : Int) then subV r c k else 0) r.length := by
  have e1 : sg (fun k => if (r.getD k default).dn = (a : Int) then subV r c k else 0) r.length = sg (fun k => sg (fun i => if (r.getD k default).dn = (a : Int) ∧ blB r i k = true then c i else 0) r.length) r.length := by
    refine sg_congr fun k hk => ?_
    by_cases h1 : (r.getD k default).dn = (a : Int)
    · rw [if_pos h1]
      exact sg_congr fun i _ => by
        by_cases h2 : blB r i k = true
        · rw [if_pos h2, if_pos ⟨h1, h2⟩]
        · rw [if_neg h2, if_neg fun h => h2 h.2]
    · rw [if_neg h1]
      exact (sg_0 fun i _ => if_neg fun h => h1 h.1).symm
  have e2 : c a = sg (fun i => if i = a then c a else 0) r.length := (sg_one (p := fun i => i = a) ha rfl (fun i _ h => h)).symm
  rw [e1, sg_comm, e2, ← sg_add]
  refine sg_congr fun i hi => ?_
  by_cases hia : i = a
  · subst hia
    rw [if_pos ((blB_iff g hi).2 bl_refl), if_pos rfl, sg_0 (fun k hk => if_neg fun h => ?_)]
    · omega
    · have h1 := dn_bl h.1
      have h2 := (blB_iff g hi).1 h.2
      have := bl_two g hk hi h1 h2
      have := dn_dep g hk h.1
      subst k; omega
  · rw [if_neg hia]
    by_cases hb : blB r i a = true
    · rw [if_pos hb]
      have hbl := (blB_iff g hi).1 hb
      obtain ⟨j, hj, e⟩ := (bl_fin g hi).1 hbl
      have hj0 : 0 < j := by
        rcases Nat.eq_zero_or_pos j with h0 | h0
        · subst h0; exact absurd e hia
        · exact h0
      have hnm := (dep_is g hi).2.2 (j - 1) (by omega)
      have hup := stps_up hnm
      rw [show j - 1 + 1 = j by omega, e] at hup
      have hkl := stps_lt g hi (j - 1)
      have hpk := g.p _ hkl
      have hk0 : (r.getD (stps r (j - 1) i) default).dn = (a : Int) := by omega
      have hb0 : bl r i (stps r (j - 1) i) := ⟨j - 1, rfl⟩
      rw [sg_one (p := fun k => (r.getD k default).dn = (a : Int) ∧ blB r i k = true) hkl ⟨hk0, (blB_iff g hi).2 hb0⟩ (fun k hk h => ?_)]
      · omega
      · have d1 := dn_dep g hk h.1
        have d2 := dn_dep g hkl hk0
        have b1 := (blB_iff g hi).1 h.2
        by_cases ek : k = stps r (j - 1) i
        · exact ek
        · rcases bl_cmp b1 hb0 with h3 | h3
          · have := bl_anti g hk h3 ek; omega
          · have := bl_anti g hkl h3 (Ne.symm ek); omega
    · rw [if_neg hb, sg_0 (fun k hk => if_neg fun h => ?_)]
      · rfl
      · exact hb ((blB_iff g hi).2 (bl_tr ((blB_iff g hi).1 h.2) (dn_bl h.1)))
theorem sub_all (g : Good r) (c : Nat → Int) : subV r c (mthS r) = sg c r.length := sg_congr fun i hi => if_pos ((blB_iff g hi).2 (bl_mth g hi))
theorem sumF_sg {rec : Nat → Int → Int} {l : Int} : ∀ k, sumF rec r a l k = ownC r a l + sg (fun k => if (r.getD k default).dn = (a : Int) then rec k l else 0) k
  | 0 => by rw [sumF, sg]; omega
  | k + 1 => by rw [sumF, sg, sumF_sg k]; split <;> omega
theorem minF_le {rec : Nat → Int → Int} {low : Int} {j : Nat} : ∀ {m : Nat}, j < m → skipB r fx a low (lv.getD j default) = false → minF rec r lv fx a low m ≤ sumF rec r a (lv.getD j default) r.length
  | 0, hj, _ => absurd hj (Nat.not_lt_zero _)
  | m + 1, hj, hs => by
    rcases Nat.lt_or_ge j m with h1 | h1
    · have := minF_le h1 hs (rec := rec)
      unfold minF
      split <;> omega
    · have : j = m := by omega
      subst this
      rw [minF_more hs]; omega
theorem minF_at {rec : Nat → Int → Int} {low : Int} : ∀ {m : Nat}, m ≤ lv.length → minF rec r lv fx a low m < neverS → ∃ l, l ∈ lv ∧ skipB r fx a low l = false ∧ sumF rec r a l r.length = minF rec r lv fx a low m
  | 0, _, h => by rw [minF] at h; omega
  | m + 1, hm, h => by
    cases hs : skipB r fx a low (lv.getD m default) with
    | true => rw [minF_skip hs] at h ⊢; exact minF_at (by omega) h
    | false =>
      rw [minF_more hs] at h ⊢
      by_cases hc : sumF rec r a (lv.getD m default) r.length ≤ minF rec r lv fx a low m
      · exact ⟨_, K.gt_mem hm, hs, by omega⟩
      · obtain ⟨l, h1, h2, h3⟩ := minF_at (rec := rec) (low := low) (m := m) (by omega) (by omega)
        exact ⟨l, h1, h2, by omega⟩
/-- Levels that are asked for, and keep what is fixed. -/
structure Adm (r : List RvT) (lv fx : List Int) (x : Nat → Int) : Prop extends Lv r x where
  m : ∀ i, i < r.length → x i ∈ lv
  f : ∀ i, i < r.length → i < fx.length → fx.getD i default = x i + DM r i
theorem cost_lb (g : Good r) (X : Adm r lv fx x) : ∀ f a low, a < r.length → dep r a + f = r.length + 1 → low ≤ x a → costF r lv fx f a low ≤ subV r (fun i => ownC r i (x i)) a
  | 0, a, _, ha, hf, _ => by have := dep_lt g ha; omega
  | f + 1, a, low, ha, hf, hl => by
    obtain ⟨j, hj, e⟩ := List.mem_iff_getElem.1 (X.m a ha)
    have e : lv.getD j default = x a := by rw [List.getD_eq_getElem?_getD, List.getElem?_eq_getElem hj]; exact e
    have hs : skipB r fx a low (lv.getD j default) = false := by rw [e]; exact skip_n (by omega) (X.b a ha) (fun h => X.f a ha h)
    have h1 := minF_le (rec := costF r lv fx f) hj hs
    rw [e, sumF_sg] at h1
    rw [tree_sum g _ ha]
    show minF (costF r lv fx f) r lv fx a low lv.length ≤ _
    refine Int.le_trans h1 (Int.add_le_add_left (sg_le fun k hk => ?_) _)
    split
    · rename_i hd
      have h2 := X.d k hk (by rw [hd]; omega)
      rw [hd, Int.toNat_natCast] at h2
      have h3 := dn_dep g hk hd
      exact cost_lb g X f k (x a) hk (by omega) h2
    · exact Int.le_refl _
theorem ask_le (g : Good r) (X : Adm r lv fx x) : askS r lv fx ≤ cstV r x := by
  have hm := mth_is g
  have := cost_lb g X (r.length + 1) (mthS r) (-9000) hm.1 (by rw [(dep_m g hm.1).2 hm.2.1]; omega) (by have := lv_ge0 g X.toLv _ hm.1; omega)
  rw [sub_all g] at this
  exact this
/-- The level that the search finds for a point. -/
def bstL (r : List RvT) (lv fx : List Int) (rec : Nat → Int → Int) (a : Nat) (low : Int) : Int := (lv.find? fun l => !skipB r fx a low l && decide (sumF rec r a l r.length = minF rec r lv fx a low lv.length)).getD 0
theorem bst_is {rec : Nat → Int → Int} {low : Int} (h : minF rec r lv fx a low lv.length < neverS) : bstL r lv fx rec a low ∈ lv ∧ skipB r fx a low (bstL r lv fx rec a low) = false ∧ sumF rec r a (bstL r lv fx rec a low) r.length = minF rec r lv fx a low lv.length := by
  obtain ⟨l, h1, h2, h3⟩ := minF_at (Nat.le_refl _) h
  cases e : lv.find? fun l => !skipB r fx a low l && decide (sumF rec r a l r.length = minF rec r lv fx a low lv.length) with
  | none =>
    have := List.find?_eq_none.1 e l h1
    rw [h2, decide_eq_true h3] at this
    exact absurd rfl this
  | some l' =>
    have e2 : bstL r lv fx rec a low = l' := by unfold bstL; rw [e]; rfl
    have h4 := List.find?_some e
    have h5 := List.mem_of_find?_eq_some e
    rw [Bool.and_eq_true, Bool.not_eq_true'] at h4
    rw [e2]
    exact ⟨h5, h4.1, of_decide_eq_true h4.2⟩
def XF (r : List RvT) (lv fx : List Int) : Nat → Nat → Int
  | 0, _ => 0
  | f + 1, i => bstL r lv fx (costF r lv fx (r.length - dep r i)) i (if (r.getD i default).dn = -1 then -9000 else XF r lv fx f (r.getD i default).dn.toNat)
def lowX (r : List RvT) (lv fx : List Int) (i : Nat) : Int := if (r.getD i default).dn = -1 then -9000 else XF r lv fx r.length (r.getD i default).dn.toNat
theorem XF_fuel (g : Good r) : ∀ f f' i, i < r.length → dep r i < f → dep r i < f' → XF r lv fx f i = XF r lv fx f' i
  | 0, _, _, _, h, _ => absurd h (Nat.not_lt_zero _)
  | _, 0, _, _, _, h => absurd h (Nat.not_lt_zero _)
  | f + 1, f' + 1, i, hi, h, h' => by
    rw [XF, XF]
    by_cases hd : (r.getD i default).dn = -1
    · rw [if_pos hd, if_pos hd]
    · have := dep_d g hi hd
      rw [if_neg hd, if_neg hd, XF_fuel g f f' _ (dn_lt g hi hd) (by omega) (by omega)]
theorem X_eq (g : Good r) (hi : i < r.length) : XF r lv fx r.length i = bstL r lv fx (costF r lv fx (r.length - dep r i)) i (lowX r lv fx i) := by
  have hd := dep_lt g hi
  rw [XF_fuel g r.length (r.length + 1) i hi hd (by omega), XF]; rfl
theorem X_is (g : Good r) (h : askS r lv fx < neverS) : ∀ i, i < r.length → costF r lv fx (r.length + 1 - dep r i) i (lowX r lv fx i) < neverS := by
  refine down_ind g (fun i hi hm => ?_) (fun i hi hm hlt ih => ?_)
  · have e := (mth_is g).2.2 i hi hm
    rw [(dep_m g hi).2 hm]
    unfold lowX
    rw [if_pos hm, e]
    exact h
  · have hdl := dep_lt g hlt
    have hdd := dep_d g hi hm
    rw [show r.length + 1 - dep r (r.getD i default).dn.toNat = r.length - dep r (r.getD i default).dn.toNat + 1 by omega] at ih
    have hb := bst_is (r := r) (lv := lv) (fx := fx) (rec := costF r lv fx (r.length - dep r (r.getD i default).dn.toNat)) (a := (r.getD i default).dn.toNat) (low := lowX r lv fx (r.getD i default).dn.toNat) ih
    rw [← X_eq g hlt, sumF_sg] at hb
    have hp := g.p i hi
    have hcb := cost_bd (lv := lv) (fx := fx) g (r.length - dep r (r.getD i default).dn.toNat)
    have ht := sg_term (f := fun k => if (r.getD k default).dn = (((r.getD i default).dn.toNat : Nat) : Int) then costF r lv fx (r.length - dep r (r.getD i default).dn.toNat) k (XF r lv fx r.length (r.getD i default).dn.toNat) else 0) hi (fun k hk => by
      split
      · exact (hcb k hk _).1
      · omega)
    rw [if_pos (by omega)] at ht
    have ho : 0 ≤ ownC r (r.getD i default).dn.toNat (XF r lv fx r.length (r.getD i default).dn.toNat) := by unfold ownC; omega
    have hl : lowX r lv fx i = XF r lv fx r.length (r.getD i default).dn.toNat := by unfold lowX; rw [if_neg hm]
    rw [hl, show r.length + 1 - dep r i = r.length - dep r (r.getD i default).dn.toNat by omega]
    have h3 := hb.2.2
    have h4 : minF (costF r lv fx (r.length - dep r (r.getD i default).dn.toNat)) r lv fx (r.getD i default).dn.toNat (lowX r lv fx (r.getD i default).dn.toNat) lv.length < neverS := ih
    omega
theorem X_at (g : Good r) (h : askS r lv fx < neverS) (hi : i < r.length) : XF r lv fx r.length i ∈ lv ∧ skipB r fx i (lowX r lv fx i) (XF r lv fx r.length i) = false ∧ sumF (costF r lv fx (r.length - dep r i)) r i (XF r lv fx r.length i) r.length = costF r lv fx (r.length + 1 - dep r i) i (lowX r lv fx i) := by
  have hd := dep_lt g hi
  have h1 := X_is g h i hi
  rw [show r.length + 1 - dep r i = r.length - dep r i + 1 by omega] at h1 ⊢
  have hb := bst_is (r := r) (lv := lv) (fx := fx) (rec := costF r lv fx (r.length - dep r i)) (a := i) (low := lowX r lv fx i) h1
  rw [← X_eq g hi] at hb
  exact hb
theorem X_sub (g : Good r) (h : askS r lv fx < neverS) : ∀ f a, a < r.length → dep r a + f = r.length + 1 → subV r (fun i => ownC r i (XF r lv fx r.length i)) a = costF r lv fx f a (lowX r lv fx a)
  | 0, a, ha, hf => by have := dep_lt g ha; omega
  | f + 1, a, ha, hf => by
    have h1 := (X_at g h ha).2.2
    rw [show r.length + 1 - dep r a = f + 1 by omega, show r.length - dep r a = f by omega, sumF_sg] at h1
    rw [tree_sum g _ ha, ← h1]
    congr 1
    refine sg_congr fun k hk => ?_
    by_cases hd : (r.getD k default).dn = (a : Int)
    · rw [if_pos hd, if_pos hd]
      have hdd := dn_dep g hk hd
      have hl : lowX r lv fx k = XF r lv fx r.length a := by unfold lowX; rw [if_neg (by rw [hd]; omega), hd, Int.toNat_natCast]
      rw [X_sub g h f k hk (by omega), hl]
    · rw [if_neg hd, if_neg hd]
theorem ask_is (g : Good r) (h : askS r lv fx < neverS) : ∃ x, Adm r lv fx x ∧ cstV r x = askS r lv fx := by
  refine ⟨XF r lv fx r.length, ⟨⟨fun i hi => ?_, fun i hi hd => ?_⟩, fun i hi => (X_at g h hi).1, fun i hi hf => ?_⟩, ?_⟩
  · exact (skip_no (X_at g h hi).2.1).2.1
  · have := (skip_no (X_at g h hi).2.1).1
    unfold lowX at this
    rw [if_neg hd] at this
    exact Int.not_lt.1 this
  · exact (skip_no (X_at g h hi).2.1).2.2 hf
  · have hm := mth_is g
    have := X_sub g h (r.length + 1) (mthS r) hm.1 (by rw [(dep_m g hm.1).2 hm.2.1]; omega)
    rw [sub_all g] at this
    unfold cstV cstF
    rw [this]
    unfold lowX
    rw [if_pos hm.2.1]; rfl
/-- Levels of nothing. -/
theorem adm_0 (g : Good r) : Adm r (levS r) [] (fun _ => 0) := by
  refine ⟨⟨fun i hi => by have := DM_le g hi; show 0 ≤ 0 + DM r i ∧ 0 + DM r i ≤ 9000; omega, fun _ _ _ => Int.le_refl _⟩, fun i hi => levS_in hi (by simp [lev3]), fun i _ hf => absurd hf (Nat.not_lt_zero _)⟩
theorem chg_few (g : Good r) : chgS r < neverS := by
  have h1 := ask_le g (adm_0 g)
  have h2 : cstV r (fun _ => 0) ≤ 9000 * (r.length : Int) := sg_bd fun i hi => by
    have := DM_le g hi
    exact (ownC_bd (l := 0) g hi (by omega)).2
  have := g.n.2
  have : neverS = 1099511627776 := rfl
  unfold chgS
  omega
/-- No heights that run down change less. -/
theorem least_min (g : Good r) (R : Runs r h) : chgS r ≤ chgV r h := by
  have L := lv_of g R
  obtain ⟨y, Ly, hm, hc⟩ := round_lv g _ _ L rfl
  have h1 := ask_le (fx := []) g ⟨Ly, hm, fun i _ hf => absurd hf (Nat.not_lt_zero _)⟩
  have h2 := lv_chg (h := h) (x := fun i => h.getD i default - DM r i) (fun i _ => by show _ = h.getD i default - DM r i + DM r i; omega) r.length (Nat.le_refl _)
  unfold chgV chgS
  rw [h2]
  exact Int.le_trans h1 hc
theorem snoc_at {l : List Int} {y : Int} (hi : i < l.length) : (l ++ [y]).getD i default = l.getD i default := by
  rw [List.getD_eq_getElem?_getD, List.getElem?_append_left hi, List.getD_eq_getElem?_getD]
theorem snoc_end {l : List Int} {y : Int} : (l ++ [y]).getD l.length default = y := by
  rw [List.getD_eq_getElem?_getD, List.getElem?_append_right (Nat.le_refl _), Nat.sub_self]; rfl
theorem hgt_ask (g : Good r) : ∀ i, i ≤ r.length → askS r (levS r) (hgtF r (chgS r) i) = chgS r
  | 0, _ => rfl
  | i + 1, hi => by
    have ih := hgt_ask g i (by omega)
    have hf := chg_few g
    obtain ⟨x, X, hc⟩ := ask_is g (show askS r (levS r) (hgtF r (chgS r) i) < neverS by omega)
    have hl := hgt_len (r := r) (ch := chgS r) i
    have key : askS r (levS r) (hgtF r (chgS r) i ++ [x i + DM r i]) = chgS r := by
      have h1 : askS r (levS r) (hgtF r (chgS r) i ++ [x i + DM r i]) ≤ cstV r x := by
        refine ask_le g ⟨X.toLv, X.m, fun j hj hjf => ?_⟩
        rw [List.length_append, hl, List.length_singleton] at hjf
        rcases Nat.lt_or_ge j i with h2 | h2
        · rw [snoc_at (by omega)]; exact X.f j hj (by omega)
        · have : j = i := by omega
          subst this
          have e := snoc_end (l := hgtF r (chgS r) j) (y := x j + DM r j)
          rw [hl] at e; exact e
      obtain ⟨y, Y, hy⟩ := ask_is g (show askS r (levS r) (hgtF r (chgS r) i ++ [x i + DM r i]) < neverS by omega)
      have h2 : askS r (levS r) (hgtF r (chgS r) i) ≤ cstV r y := by
        refine ask_le g ⟨Y.toLv, Y.m, fun j hj hjf => ?_⟩
        have := Y.f j hj (by rw [List.length_append]; omega)
        rwa [snoc_at (by omega)] at this
      omega
    rw [hgtF]
    cases e : (levS r).find? fun l => decide (askS r (levS r) (hgtF r (chgS r) i ++ [l + DM r i]) = chgS r) with
    | none =>
      have := List.find?_eq_none.1 e (x i) (X.m i (by omega))
      exact absurd (decide_eq_true key) this
    | some l =>
      have := List.find?_some e
      exact of_decide_eq_true this
/-- The heights of Least run down, and change as much as it tells. -/
theorem least_is (g : Good r) : Runs r (hgtF r (chgS r) r.length) ∧ chgV r (hgtF r (chgS r) r.length) = chgS r := by
  have h1 := hgt_ask g r.length (Nat.le_refl _)
  have hf := chg_few g
  obtain ⟨x, X, hc⟩ := ask_is g (show askS r (levS r) (hgtF r (chgS r) r.length) < neverS by omega)
  have hl := hgt_len (r := r) (ch := chgS r) r.length
  have hx : ∀ i, i < r.length → (hgtF r (chgS r) r.length).getD i default = x i + DM r i := fun i hi => X.f i hi (by omega)
  refine ⟨lv_runs g X.toLv hl hx, ?_⟩
  unfold chgV
  rw [lv_chg hx r.length (Nat.le_refl _)]
  show cstV r x = _
  omega
/-- The least change is nothing just if nothing is bad. -/
theorem chgF_0 (e : ∀ i, i < r.length → h.getD i default = (r.getD i default).ht) : ∀ n, n ≤ r.length → chgF r h n = 0
  | 0, _ => rfl
  | n + 1, hn => by
    have := chgF_0 e n (by omega)
    have := e n (by omega)
    unfold chgF; omega
theorem chgF_mono (hn : ∀ n, 0 ≤ chgF r h n) (hk : i < k) : (max (h.getD i default - (r.getD i default).ht) ((r.getD i default).ht - h.getD i default)) ≤ chgF r h k := by
  induction k with
  | zero => exact absurd hk (Nat.not_lt_zero _)
  | succ k ih =>
    have h1 := hn k
    rcases Nat.lt_or_ge i k with h2 | h2
    · have := ih h2; unfold chgF; omega
    · have : i = k := by omega
      subst this
      rw [chgF]; omega
theorem chgF_ge0 : ∀ n, 0 ≤ chgF r h n
  | 0 => Int.le_refl _
  | n + 1 => by have := chgF_ge0 n; unfold chgF; omega
theorem least_0 (g : Good r) : chgS r = 0 ↔ badS r (ownS r) = [] := by
  constructor
  · intro h0
    obtain ⟨R, hc⟩ := least_is g
    have e : hgtF r (chgS r) r.length = ownS r := by
      refine list_ext (by rw [R.l, own_len]) (fun j hj => ?_)
      rw [R.l] at hj
      have := chgF_mono (r := r) (h := hgtF r (chgS r) r.length) chgF_ge0 hj
      unfold chgV at hc
      rw [own_at hj]; omega
    rw [e] at R
    have := runs_iff.2 R
    unfold runB at this
    rw [Bool.and_eq_true, List.isEmpty_iff] at this
    exact this.2
  · intro hb
    have R : Runs r (ownS r) := by
      refine ⟨own_len, fun i hi => own_bd g hi, fun i hi hd => ?_⟩
      rcases bad_no.1 (sel_nil.1 hb i hi) with h | h
      · exact absurd h hd
      · exact h
    have h1 := least_min g R
    have h2 : chgV r (ownS r) = 0 := chgF_0 (fun i hi => own_at hi) _ (Nat.le_refl _)
    obtain ⟨_, hc⟩ := least_is g
    have := chgF_ge0 (r := r) (h := hgtF r (chgS r) r.length) r.length
    unfold chgV at hc
    omega
end
end Go.Proofs.YtoemnobfnnjopaaDoor
