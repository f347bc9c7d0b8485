/-
  Plain lemmas and plain functions, several texts joined.
  Conditions stand in each theorem.
-/
import Derived.Test.YtoemnobfnnjopaaDoorSV
set_option linter.unusedSimpArgs false
set_option linter.unusedVariables false
/-
  Chains of points in conflict: as few as the most points without conflicts, by taking the points from the farthest down.
  No conditions but those in the theorems.
-/
namespace Go.Proofs.YtoemnobfnnjopaaDoor
open Go
/-- The level of a point's own height. -/
def lev (r : List RvT) (i : Nat) : Int := (r.getD i default).ht - DM r i
/-- A point above another one, with a lesser level. -/
def LT (r : List RvT) (i k : Nat) : Prop := bl r i k ∧ lev r i < lev r k
/-- How many. -/
def cn (n : Nat) (p : Nat → Bool) : Int := sg (fun i => if p i = true then 1 else 0) n
section
variable {r : List RvT} {i k n : Nat} {p q : Nat → Bool} {S : Nat → Bool}
theorem con_iff (g : Good r) (hi : i < r.length) (hk : k < r.length) : conS r i k = true ↔ LT r i k ∨ LT r k i := by
  constructor
  · intro h
    refine Classical.byContradiction fun hn => ?_
    have : conS r i k = false := con_f g hi hk (fun hb => by
      have : ¬ lev r i < lev r k := fun h => hn (.inl ⟨hb, h⟩)
      unfold lev at this; omega) (fun hb => by
      have : ¬ lev r k < lev r i := fun h => hn (.inr ⟨hb, h⟩)
      unfold lev at this; omega)
    rw [this] at h; cases h
  · intro h
    cases e : conS r i k with
    | true => rfl
    | false =>
      exfalso
      rcases h with ⟨hb, hl⟩ | ⟨hb, hl⟩
      · have := con_n1 g hi e hb
        unfold lev at hl; omega
      · by_cases hik : i = k
        · subst hik; omega
        · have := con_n2 g hi hk hik e hb
          unfold lev at hl; omega
theorem cn_sel : ∀ n, cn n p = ((selN p n).length : Int)
  | 0 => rfl
  | n + 1 => by
    have := cn_sel n
    unfold cn at this ⊢
    rw [sg, this, selN_succ, List.length_append]
    cases h : p n with
    | true => rw [if_pos rfl, if_pos rfl]; simp
    | false => rw [if_neg (by decide), if_neg (by decide)]; simp
theorem sel_not : ∀ n, (selN p n).length + (selN (fun i => !p i) n).length = n
  | 0 => rfl
  | n + 1 => by
    have := sel_not n
    rw [selN_succ, selN_succ, List.length_append, List.length_append]
    cases h : p n <;> simp <;> omega
theorem least_dep (f : Nat → Nat) (hx : ∃ u, S u = true) : ∃ v, S v = true ∧ ∀ u, S u = true → f v ≤ f u := by
  obtain ⟨u, hu⟩ := hx
  have : ∀ N u, S u = true → f u = N → ∃ v, S v = true ∧ ∀ u, S u = true → f v ≤ f u := by
    intro N
    induction N using Nat.strongRecOn with
    | _ N ih =>
      intro u hu hN
      by_cases h : ∀ w, S w = true → f u ≤ f w
      · exact ⟨u, hu, h⟩
      · have : ∃ w, S w = true ∧ f w < f u := Classical.byContradiction fun hn => h fun w hw => Nat.not_lt.1 fun h2 => hn ⟨w, hw, h2⟩
        obtain ⟨w, hw, h2⟩ := this
        exact ih (f w) (by omega) w hw rfl
  exact this _ u hu rfl
/-- Points as chains, each told by its lowest point. -/
structure Chains (r : List RvT) (S : Nat → Bool) (rt : Nat → Nat) : Prop where
  a : ∀ u, S u = true → S (rt u) = true ∧ rt (rt u) = rt u ∧ bl r u (rt u) ∧ lev r u ≤ lev r (rt u)
  c : ∀ u w, S u = true → S w = true → rt u = rt w → u ≠ w → LT r u w ∨ LT r w u
  m : ∀ (Q : Nat → Bool) (x : Int), (∀ u w, S u = true → S w = true → bl r u w → Q u = Q w) → ∃ A : Nat → Bool, (∀ u, A u = true → S u = true ∧ Q u = true ∧ x ≤ lev r u) ∧ (∀ u w, A u = true → A w = true → ¬ LT r u w) ∧ cn r.length (fun u => S u && (Q u && (decide (rt u = u) && decide (x ≤ lev r u)))) ≤ cn r.length A
theorem lt_irr : ¬ LT r i i := fun h => by have := h.2; omega
theorem bool4 {a b : Bool} {P R : Prop} [Decidable P] [Decidable R] : (a && (b && (decide P && decide R))) = true ↔ a = true ∧ b = true ∧ P ∧ R := by
  rw [Bool.and_eq_true, Bool.and_eq_true, Bool.and_eq_true, decide_eq_true_iff, decide_eq_true_iff]
theorem chains_ex (g : Good r) : ∀ N (S : Nat → Bool), (∀ u, S u = true → u < r.length) → (selN S r.length).length = N → ∃ rt, Chains r S rt
  | 0, S, hS, hN => by
    have hno : ∀ u, S u = false := fun u => by
      cases h : S u with
      | false => rfl
      | true =>
        have : (u : Int) ∈ selN S r.length := mem_sel.2 ⟨u, hS u h, h, rfl⟩
        rw [List.eq_nil_of_length_eq_zero hN] at this; simp at this
    refine ⟨id, fun u hu => absurd hu (by rw [hno]; decide), fun u w hu => absurd hu (by rw [hno]; decide), fun Q x _ => ⟨fun _ => false, fun u hu => absurd hu Bool.false_ne_true, fun u w hu => absurd hu Bool.false_ne_true, ?_⟩⟩
    have e : (fun u => S u && (Q u && (decide (id u = u) && decide (x ≤ lev r u)))) = fun _ => false := by funext u; rw [hno]; rfl
    rw [e]; exact Int.le_refl _
  | N + 1, S, hS, hN => by
    have hne : ∃ u, S u = true := by
      have hpos : 0 < (selN S r.length).length := by omega
      obtain ⟨u, _, h, _⟩ := mem_sel.1 (K.gt_mem hpos)
      exact ⟨u, h⟩
    obtain ⟨v, hv, hmin⟩ := least_dep (dep r) hne
    have hvl := hS v hv
    -- without v
    have hS' : ∀ u, (S u && decide (u ≠ v)) = true ↔ S u = true ∧ u ≠ v := fun u => by rw [Bool.and_eq_true, decide_eq_true_iff]
    have hlen : (selN (fun u => S u && decide (u ≠ v)) r.length).length = N := by
      have h2 : sg (fun i => if i = v then (1 : Int) else 0) r.length = 1 := sg_one (p := fun i => i = v) hvl rfl (fun i _ h => h)
      have h1 : cn r.length S = cn r.length (fun u => S u && decide (u ≠ v)) + sg (fun i => if i = v then (1 : Int) else 0) r.length := by
        unfold cn
        rw [← sg_add]
        refine sg_congr fun i _ => ?_
        by_cases e : i = v
        · subst e; rw [hv]; simp
        · cases h : S i <;> simp [e, h]
      rw [h2] at h1
      rw [cn_sel, cn_sel] at h1; omega
    obtain ⟨rt, hc⟩ := chains_ex g N (fun u => S u && decide (u ≠ v)) (fun u hu => hS u ((hS' u).1 hu).1) hlen
    have ha : ∀ u, S u = true → u ≠ v → (S (rt u) = true ∧ rt u ≠ v) ∧ rt (rt u) = rt u ∧ bl r u (rt u) ∧ lev r u ≤ lev r (rt u) := fun u hu hn => by
      have := hc.a u ((hS' u).2 ⟨hu, hn⟩)
      exact ⟨(hS' _).1 this.1, this.2⟩
    have hcc : ∀ u w, S u = true → u ≠ v → S w = true → w ≠ v → rt u = rt w → u ≠ w → LT r u w ∨ LT r w u := fun u w hu hn hw hn2 => hc.c u w ((hS' u).2 ⟨hu, hn⟩) ((hS' w).2 ⟨hw, hn2⟩)
    -- nothing is below v
    have hlow : ∀ u, S u = true → bl r v u → u = v := fun u hu hb => by
      refine Decidable.not_not.1 fun hn => ?_
      have := bl_anti g hvl hb (Ne.symm hn)
      have := hmin u hu
      omega
    have hU : ∀ u w, S u = true → u ≠ v → S w = true → w ≠ v → bl r u w → blB r u v = blB r w v := fun u w hu hn hw hn2 hb => by
      rw [Bool.eq_iff_iff, blB_iff g (hS u hu), blB_iff g (hS w hw)]
      constructor
      · intro h
        rcases bl_cmp hb h with h2 | h2
        · exact h2
        · exact absurd (hlow w hw h2) hn2
      · exact fun h => bl_tr hb h
    -- v follows the chain whose lowest point has the greatest level below that of v, or begins one
    have hrt : ∃ rt2 : Nat → Nat, rt2 v = v ∧ (∀ u, S u = true → u ≠ v → (rt2 u = v ∧ bl r u v ∧ lev r u < lev r v) ∨ (rt2 u = rt u ∧ rt2 (rt u) = rt u)) ∧ (∀ u w, S u = true → u ≠ v → S w = true → w ≠ v → rt2 u = v → rt2 w = v → rt u = rt w) ∧ ∀ x, (∀ c, S c = true → c ≠ v → rt c = c → bl r c v → lev r c < lev r v → lev r c < x) ∨ ∃ b, S b = true ∧ b ≠ v ∧ rt b = b ∧ rt2 b = v ∧ bl r b v ∧ x ≤ lev r b := by
      by_cases hcand : ∃ b, (S b && (decide (b ≠ v) && (decide (rt b = b) && (blB r b v && decide (lev r b < lev r v))))) = true
      · obtain ⟨b, hb, hmax⟩ := least_dep (fun u => (20000 - lev r u).toNat) hcand
        have hcd : ∀ u, (S u && (decide (u ≠ v) && (decide (rt u = u) && (blB r u v && decide (lev r u < lev r v))))) = true ↔ S u = true ∧ u ≠ v ∧ rt u = u ∧ blB r u v = true ∧ lev r u < lev r v := fun u => by
          rw [Bool.and_eq_true, Bool.and_eq_true, Bool.and_eq_true, Bool.and_eq_true, decide_eq_true_iff, decide_eq_true_iff, decide_eq_true_iff]
        obtain ⟨b1, b2, b3, b4, b5⟩ := (hcd b).1 hb
        have bbl := (blB_iff g (hS b b1)).1 b4
        have hlv : ∀ u, u < r.length → lev r u ≤ 9000 := fun u hu => by
          have := g.p u hu
          have := DM_le g hu
          unfold lev; omega
        have hbm : ∀ u, S u = true → u ≠ v → rt u = u → bl r u v → lev r u < lev r v → lev r u ≤ lev r b := fun u h1 h2 h3 h4 h5 => by
          have := hmax u ((hcd u).2 ⟨h1, h2, h3, (blB_iff g (hS u h1)).2 h4, h5⟩)
          have := hlv u (hS u h1)
          have := hlv b (hS b b1)
          omega
        have r2n : ∀ u, ¬ (u = v ∨ rt u = b) → (if u = v ∨ rt u = b then v else rt u) = rt u := fun u h => if_neg h
        refine ⟨fun u => if u = v ∨ rt u = b then v else rt u, if_pos (.inl rfl), fun u h1 h2 => ?_, fun u w h1 h2 h3 h4 h5 h6 => ?_, fun x => ?_⟩
        · by_cases h3 : rt u = b
          · refine .inl ⟨if_pos (.inr h3), ?_⟩
            have := (ha u h1 h2).2.2
            rw [h3] at this
            exact ⟨bl_tr this.1 bbl, by omega⟩
          · have := ha u h1 h2
            exact .inr ⟨r2n u (by rintro (h | h); exact h2 h; exact h3 h), (r2n (rt u) (by rintro (h | h); exact this.1.2 h; exact h3 (this.2.1 ▸ h))).trans this.2.1⟩
        · have key : ∀ u, S u = true → u ≠ v → (if u = v ∨ rt u = b then v else rt u) = v → rt u = b := fun u h1 h2 h3 => by
            refine Classical.byContradiction fun h4 => ?_
            rw [r2n u (by rintro (h | h); exact h2 h; exact h4 h)] at h3
            exact (ha u h1 h2).1.2 h3
          exact (key u h1 h2 h5).trans (key w h3 h4 h6).symm
        · by_cases hx : x ≤ lev r b
          · exact .inr ⟨b, b1, b2, b3, if_pos (.inr b3), bbl, hx⟩
          · exact .inl fun c h1 h2 h3 h4 h5 => by have := hbm c h1 h2 h3 h4 h5; omega
      · refine ⟨fun u => if u = v then v else rt u, if_pos rfl, fun u h1 h2 => .inr ⟨if_neg h2, (if_neg (ha u h1 h2).1.2).trans (ha u h1 h2).2.1⟩, fun u w h1 h2 h3 h4 h5 h6 => ?_, fun x => .inl fun c h1 h2 h3 h4 h5 => ?_⟩
        · simp only [h2, if_false] at h5
          exact absurd h5 (ha u h1 h2).1.2
        · refine absurd ⟨c, ?_⟩ hcand
          rw [h1, decide_eq_true h2, decide_eq_true h3, (blB_iff g (hS c h1)).2 h4, decide_eq_true h5]; rfl
    obtain ⟨rt2, q1, q2, q3, q4⟩ := hrt
    have hstep : ∀ u, S u = true → u ≠ v → rt2 u = u → rt u = u := fun u h1 h2 h3 => by
      rcases q2 u h1 h2 with h | h
      · rw [h.1] at h3; exact absurd h3.symm h2
      · exact h.1.symm.trans h3
    refine ⟨rt2, fun u hu => ?_, fun u w hu hw e hne => ?_, fun Q x hQ => ?_⟩
    · by_cases h1 : u = v
      · rw [h1, q1]; exact ⟨hv, q1, bl_refl, Int.le_refl _⟩
      · rcases q2 u hu h1 with h | h
        · rw [h.1]; exact ⟨hv, q1, h.2.1, by omega⟩
        · have := ha u hu h1
          rw [h.1]; exact ⟨this.1.1, h.2, this.2.2⟩
    · by_cases h1 : u = v
      · have hw1 : w ≠ v := fun h => hne (h1.trans h.symm)
        rw [h1, q1] at e
        rcases q2 w hw hw1 with h | h
        · rw [h1]; exact .inr h.2
        · rw [h.1] at e; exact absurd e.symm (ha w hw hw1).1.2
      · by_cases h3 : w = v
        · rw [h3, q1] at e
          rcases q2 u hu h1 with h | h
          · rw [h3]; exact .inl h.2
          · rw [h.1] at e; exact absurd e (ha u hu h1).1.2
        · rcases q2 u hu h1 with h | h
          · exact hcc u w hu h1 hw h3 (q3 u w hu h1 hw h3 h.1 (e.symm.trans h.1)) hne
          · rcases q2 w hw h3 with h4 | h4
            · exact hcc u w hu h1 hw h3 (q3 u w hu h1 hw h3 (e.trans h4.1) h4.1) hne
            · exact hcc u w hu h1 hw h3 (h.1.symm.trans (e.trans h4.1)) hne
    · have hQ' : ∀ u w, (S u && decide (u ≠ v)) = true → (S w && decide (w ≠ v)) = true → bl r u w → Q u = Q w := fun u w hu hw => hQ u w ((hS' u).1 hu).1 ((hS' w).1 hw).1
      have e1 : sg (fun i => if i = v then (1 : Int) else 0) r.length = 1 := sg_one (p := fun i => i = v) hvl rfl (fun i _ h => h)
      by_cases hlt : Q v = true ∧ x ≤ lev r v
      · obtain ⟨hQv, hxv⟩ := hlt
        rcases q4 x with hnc | ⟨b, b1, b2, b3, b4, bbl, hxb⟩
        · obtain ⟨A1, a1, a2, a3⟩ := hc.m (fun u => blB r u v) (lev r v) (fun u w hu hw => hU u w ((hS' u).1 hu).1 ((hS' u).1 hu).2 ((hS' w).1 hw).1 ((hS' w).1 hw).2)
          obtain ⟨A2, c1, c2, c3⟩ := hc.m (fun u => Q u && !blB r u v) x (fun u w hu hw hb => by rw [hQ' u w hu hw hb, hU u w ((hS' u).1 hu).1 ((hS' u).1 hu).2 ((hS' w).1 hw).1 ((hS' w).1 hw).2 hb])
          have k1 : ∀ u, A1 u = true → (S u = true ∧ u ≠ v) ∧ blB r u v = true ∧ lev r v ≤ lev r u := fun u h => by
            have := a1 u h; exact ⟨(hS' u).1 this.1, this.2⟩
          have k2 : ∀ u, A2 u = true → (S u = true ∧ u ≠ v) ∧ (Q u = true ∧ blB r u v = false) ∧ x ≤ lev r u := fun u h => by
            have := c1 u h
            simp only [Bool.and_eq_true, Bool.not_eq_true'] at this
            exact ⟨(hS' u).1 (c1 u h).1, this.2⟩
          obtain ⟨A, hA⟩ : ∃ A : Nat → Bool, ∀ u, A u = true ↔ u = v ∨ A1 u = true ∨ A2 u = true := ⟨fun u => decide (u = v) || (A1 u || A2 u), fun u => by rw [Bool.or_eq_true, Bool.or_eq_true, decide_eq_true_iff]⟩
          refine ⟨A, fun u hu => ?_, fun u w hu hw hl => ?_, ?_⟩
          · rcases (hA u).1 hu with h | h | h
            · rw [h]; exact ⟨hv, hQv, hxv⟩
            · obtain ⟨h1, h2, h3⟩ := k1 u h
              exact ⟨h1.1, (hQ u v h1.1 hv ((blB_iff g (hS u h1.1)).1 h2)).trans hQv, by omega⟩
            · obtain ⟨h1, h2, h3⟩ := k2 u h
              exact ⟨h1.1, h2.1, h3⟩
          · rcases (hA u).1 hu with hu | hu | hu
            · rw [hu] at hl
              rcases (hA w).1 hw with hw | hw | hw
              · rw [hw] at hl; exact lt_irr hl
              · exact absurd (hlow w (k1 w hw).1.1 hl.1) (k1 w hw).1.2
              · exact absurd (hlow w (k2 w hw).1.1 hl.1) (k2 w hw).1.2
            · obtain ⟨h1, h2, h3⟩ := k1 u hu
              rcases (hA w).1 hw with hw | hw | hw
              · rw [hw] at hl; have := hl.2; omega
              · exact a2 u w hu hw hl
              · have := hU u w h1.1 h1.2 (k2 w hw).1.1 (k2 w hw).1.2 hl.1
                rw [h2, (k2 w hw).2.1.2] at this; cases this
            · obtain ⟨h1, h2, h3⟩ := k2 u hu
              rcases (hA w).1 hw with hw | hw | hw
              · rw [hw] at hl
                rw [(blB_iff g (hS u h1.1)).2 hl.1] at h2; cases h2.2
              · have := hU u w h1.1 h1.2 (k1 w hw).1.1 (k1 w hw).1.2 hl.1
                rw [h2.2, (k1 w hw).2.1] at this; cases this
              · exact c2 u w hu hw hl
          · have e2 : cn r.length (fun u => S u && (Q u && (decide (rt2 u = u) && decide (x ≤ lev r u)))) ≤ sg (fun i => if i = v then (1 : Int) else 0) r.length + (cn r.length (fun u => (S u && decide (u ≠ v)) && (blB r u v && (decide (rt u = u) && decide (lev r v ≤ lev r u)))) + cn r.length (fun u => (S u && decide (u ≠ v)) && ((Q u && !blB r u v) && (decide (rt u = u) && decide (x ≤ lev r u))))) := by
              unfold cn
              rw [← sg_add, ← sg_add]
              refine sg_le fun u _ => ?_
              have hpos : ∀ P R : Prop, ∀ [Decidable P] [Decidable R], (1 : Int) ≤ 1 + ((if P then 1 else 0) + (if R then 1 else 0)) := fun P R _ _ => by split <;> split <;> omega
              have hnn : ∀ T P R : Prop, ∀ [Decidable T] [Decidable P] [Decidable R], (0 : Int) ≤ (if T then 1 else 0) + ((if P then 1 else 0) + (if R then 1 else 0)) := fun T P R _ _ _ => by split <;> split <;> split <;> omega
              by_cases hu : (S u && (Q u && (decide (rt2 u = u) && decide (x ≤ lev r u)))) = true
              · rw [if_pos hu]
                obtain ⟨h1, h2, h3, h4⟩ := bool4.1 hu
                by_cases hn : u = v
                · rw [if_pos hn]; exact hpos _ _
                · have hr := hstep u h1 hn h3
                  by_cases hub : blB r u v = true
                  · have hlu : lev r v ≤ lev r u := Int.not_lt.1 fun h => by
                      have := hnc u h1 hn hr ((blB_iff g (hS u h1)).1 hub) h
                      omega
                    have f1 : ((S u && decide (u ≠ v)) && (blB r u v && (decide (rt u = u) && decide (lev r v ≤ lev r u)))) = true := bool4.2 ⟨(hS' u).2 ⟨h1, hn⟩, hub, hr, hlu⟩
                    rw [if_neg hn, if_pos f1]
                    split <;> omega
                  · have hub : blB r u v = false := by simpa using hub
                    have f2 : ((S u && decide (u ≠ v)) && ((Q u && !blB r u v) && (decide (rt u = u) && decide (x ≤ lev r u)))) = true := bool4.2 ⟨(hS' u).2 ⟨h1, hn⟩, by rw [h2, hub]; rfl, hr, h4⟩
                    rw [if_neg hn, if_pos f2]
                    split <;> omega
              · rw [if_neg hu]; exact hnn _ _ _
            have e3 : sg (fun i => if i = v then (1 : Int) else 0) r.length + (cn r.length A1 + cn r.length A2) ≤ cn r.length A := by
              unfold cn
              rw [← sg_add, ← sg_add]
              refine sg_le fun u _ => ?_
              by_cases hn : u = v
              · rw [if_pos hn, if_neg (fun h => (k1 u h).1.2 hn), if_neg (fun h => (k2 u h).1.2 hn), if_pos ((hA u).2 (.inl hn))]
                omega
              · rw [if_neg hn]
                by_cases h1 : A1 u = true
                · rw [if_pos h1, if_neg (fun h => by have := (k2 u h).2.1.2; rw [(k1 u h1).2.1] at this; cases this), if_pos ((hA u).2 (.inr (.inl h1)))]
                  omega
                · rw [if_neg h1]
                  by_cases h2 : A2 u = true
                  · rw [if_pos h2, if_pos ((hA u).2 (.inr (.inr h2)))]; omega
                  · rw [if_neg h2]; split <;> omega
            exact Int.le_trans e2 (Int.le_trans (Int.add_le_add_left (Int.add_le_add a3 c3) _) e3)
        · obtain ⟨A, a1, a2, a3⟩ := hc.m Q x hQ'
          refine ⟨A, fun u hu => ⟨((hS' u).1 (a1 u hu).1).1, (a1 u hu).2⟩, a2, Int.le_trans ?_ a3⟩
          have hQb : Q b = Q v := hQ b v b1 hv bbl
          have e2 : sg (fun i => if i = b then (1 : Int) else 0) r.length = 1 := sg_one (p := fun i => i = b) (hS b b1) rfl (fun i _ h => h)
          have e4 : cn r.length (fun u => S u && (Q u && (decide (rt2 u = u) && decide (x ≤ lev r u)))) + sg (fun i => if i = b then (1 : Int) else 0) r.length ≤ cn r.length (fun u => (S u && decide (u ≠ v)) && (Q u && (decide (rt u = u) && decide (x ≤ lev r u)))) + sg (fun i => if i = v then (1 : Int) else 0) r.length := by
            unfold cn
            rw [← sg_add, ← sg_add]
            refine sg_le fun u _ => ?_
            have h01 : ∀ P R : Prop, ∀ [Decidable P] [Decidable R], (if P then (1 : Int) else 0) + 0 ≤ (if R then 1 else 0) + 1 := fun P R _ _ => by split <;> split <;> omega
            by_cases hn : u = v
            · rw [if_pos hn, if_neg (c := u = b) (fun h => b2 (h.symm.trans hn))]
              exact h01 _ _
            · rw [if_neg hn]
              by_cases hub : u = b
              · have f1 : ((S u && decide (u ≠ v)) && (Q u && (decide (rt u = u) && decide (x ≤ lev r u)))) = true := by rw [hub]; exact bool4.2 ⟨(hS' b).2 ⟨b1, b2⟩, hQb.trans hQv, b3, hxb⟩
                have f2 : ¬ (S u && (Q u && (decide (rt2 u = u) && decide (x ≤ lev r u)))) = true := fun h => by
                  have := (bool4.1 h).2.2.1
                  rw [hub, b4] at this
                  exact b2 this.symm
                rw [if_pos hub, if_pos f1, if_neg f2]; omega
              · rw [if_neg hub]
                by_cases hu : (S u && (Q u && (decide (rt2 u = u) && decide (x ≤ lev r u)))) = true
                · obtain ⟨h1, h2, h3, h4⟩ := bool4.1 hu
                  have f1 : ((S u && decide (u ≠ v)) && (Q u && (decide (rt u = u) && decide (x ≤ lev r u)))) = true := bool4.2 ⟨(hS' u).2 ⟨h1, hn⟩, h2, hstep u h1 hn h3, h4⟩
                  rw [if_pos hu, if_pos f1]
                  omega
                · rw [if_neg hu]; split <;> omega
          omega
      · obtain ⟨A, a1, a2, a3⟩ := hc.m Q x hQ'
        refine ⟨A, fun u hu => ⟨((hS' u).1 (a1 u hu).1).1, (a1 u hu).2⟩, a2, Int.le_trans ?_ a3⟩
        unfold cn
        refine sg_le fun u _ => ?_
        by_cases hu : (S u && (Q u && (decide (rt2 u = u) && decide (x ≤ lev r u)))) = true
        · obtain ⟨h1, h2, h3, h4⟩ := bool4.1 hu
          have hn : u ≠ v := fun e => hlt (by rw [e] at h2 h4; exact ⟨h2, h4⟩)
          have f1 : ((S u && decide (u ≠ v)) && (Q u && (decide (rt u = u) && decide (x ≤ lev r u)))) = true := bool4.2 ⟨(hS' u).2 ⟨h1, hn⟩, h2, hstep u h1 hn h3, h4⟩
          rw [if_pos hu, if_pos f1]
          omega
        · rw [if_neg hu]; split <;> omega
/-- As few chains as points that can keep their heights. -/
theorem chains_few (g : Good r) : ∃ rt : Nat → Nat, (∀ u, u < r.length → outS r u = false → rt u < r.length ∧ outS r (rt u) = false ∧ rt (rt u) = rt u) ∧ (∀ u w, u < r.length → w < r.length → outS r u = false → outS r w = false → rt u = rt w → u ≠ w → conS r u w = true) ∧ (selN (fun u => !outS r u && decide (rt u = u)) r.length).length + pcS (fewN r) ≤ r.length := by
  obtain ⟨rt, hc⟩ := chains_ex g _ (fun u => decide (u < r.length) && !outS r u) (fun u hu => by rw [Bool.and_eq_true] at hu; exact of_decide_eq_true hu.1) rfl
  have hS : ∀ u, (decide (u < r.length) && !outS r u) = true ↔ u < r.length ∧ outS r u = false := fun u => by rw [Bool.and_eq_true, decide_eq_true_iff, Bool.not_eq_true']
  refine ⟨rt, fun u hu ho => ?_, fun u w hu hw ho ho2 e hne => (con_iff g hu hw).2 (hc.c u w ((hS u).2 ⟨hu, ho⟩) ((hS w).2 ⟨hw, ho2⟩) e hne), ?_⟩
  · have := hc.a u ((hS u).2 ⟨hu, ho⟩)
    exact ⟨((hS _).1 this.1).1, ((hS _).1 this.1).2, this.2.1⟩
  · obtain ⟨A, a1, a2, a3⟩ := hc.m (fun _ => true) (-10000) (fun _ _ _ _ _ => rfl)
    have hA : ∀ u, A u = true → u < r.length ∧ outS r u = false := fun u h => (hS u).1 (a1 u h).1
    have hbit : ∀ i, i < r.length → (mskN (fun u => !A u) r.length).testBit i = !A i := fun i hi => by rw [msk_bit, decide_eq_true hi, Bool.true_and]
    have hlt := msk_lt (p := fun u => !A u) r.length
    have hcor : corS r (mskN (fun u => !A u) r.length) = true := cor_t fun i hi => by
      cases hb : A i with
      | false => exact cor_in1 (by rw [hbit i hi, hb]; rfl)
      | true =>
        refine cor_in2 (hA i hb).2 fun k hk => ?_
        unfold corAt
        rw [hbit k (by omega)]
        cases hb2 : A k with
        | false => rfl
        | true =>
          have : conS r i k = false := by
            cases e : conS r i k with
            | false => rfl
            | true =>
              rcases (con_iff g hi (by omega)).1 e with h | h
              · exact absurd h (a2 i k hb hb2)
              · exact absurd h (a2 k i hb2 hb)
          rw [this]; rfl
    have h1 := (few_min g hlt hcor).1
    have h2 : pcS (mskN (fun u => !A u) r.length) = (selN (fun u => !A u) r.length).length := by
      unfold pcS
      rw [bits_n g.n.2 hlt, selN_congr hbit]
    have h3 := sel_not (p := A) r.length
    rw [cn_sel, cn_sel] at a3
    have h4 : (selN (fun u => !outS r u && decide (rt u = u)) r.length).length ≤ (selN (fun u => (decide (u < r.length) && !outS r u) && (true && (decide (rt u = u) && decide (-10000 ≤ lev r u)))) r.length).length := sel_le fun i hi h => by
      rw [Bool.and_eq_true, Bool.not_eq_true', decide_eq_true_iff] at h
      have hp := g.p i hi
      have hd := DM_le g hi
      exact bool4.2 ⟨(hS i).2 ⟨hi, h.1⟩, rfl, h.2, by unfold lev; omega⟩
    omega
end
end Go.Proofs.YtoemnobfnnjopaaDoor
