/-
  Lemmas and walks of functions, joined and with only what the claim needs.
  Conditions stand in each theorem.
-/
import Derived.Test.YtoemnobfnnjopaaDoorProg
import Derived.Test.YtoemnobfnnjopaaDoorRows
import Derived.Below
import Derived.Laws.AppendOwn
import Derived.Laws.Rows
import Derived.Laws.Slices
import Derived.Tactics
import Derived.OrdersHeld
import Derived.KernelRfl
import Derived.WalkKit
import Derived.Deep.AppendLies
import Derived.IntWalk
import Derived.Scope
import Derived.WalkSpells
import Derived.DeepKeys
import Derived.Deep.Upon
import Derived.RangeFuncLeaves
import Derived.RangeFuncSeq
import Derived.OrdersIn
import Derived.Sort.LoopGhostIn
import Derived.TacticsIn
import Derived.RangeFuncOwn
import Derived.WideKeyMaps
import Derived.DeepKeys4
import Derived.Carry
import Derived.Laws.CopyRow
import Derived.Laws.Strings
import Derived.WalkArith
import Derived.Laws.Closers25b
import Derived.ProofKit
import Derived.OpenShut
import Derived.LaidMore
import Derived.Lay
import Derived.Stop.Joined
import Derived.ChangeOld
import Derived.SizedLaws
import Derived.Deep.Slices
import Derived.Deep.Fields
import Derived.ChangeSame
import Derived.Lib.SmallJoins
import Derived.Laws.MakeOwn
import Derived.Shelf.Sort.Plain
import Derived.Sort.OwnSortedInts
import Derived.SevenTiedAt
import Derived.Test.YtoemnobfnnjopaaDoorZb
section
set_option linter.unusedSimpArgs false
set_option linter.unusedVariables false
namespace Go.Proofs.YtoemnobfnnjopaaDoor
open Go
/-- The level of a point's own height. -/
def lev (r : List RvT) (i : Nat) : Int := (r.getD i default).ht - DM r i
/-- A point above another one, with a lesser level. -/
def LT (r : List RvT) (i k : Nat) : Prop := bl r i k ∧ lev r i < lev r k
/-- How many. -/
def cn (n : Nat) (p : Nat → Bool) : Int := sg (fun i => if p i = true then 1 else 0) n
section
variable {r : List RvT} {i k n : Nat} {p q : Nat → Bool} {S : Nat → Bool}
theorem con_iff (g : Good r) (hi : i < r.length) (hk : k < r.length) : conS r i k = true ↔ LT r i k ∨ LT r k i := by
  constructor
  · intro h
    refine Classical.byContradiction fun hn => ?_
    have : conS r i k = false := con_f g hi hk (fun hb => by
      have : ¬ lev r i < lev r k := fun h => hn (.inl ⟨hb, h⟩)
      unfold lev at this; omega) (fun hb => by
      have : ¬ lev r k < lev r i := fun h => hn (.inr ⟨hb, h⟩)
      unfold lev at this; omega)
    rw [this] at h; cases h
  · intro h
    cases e : conS r i k with
    | true => rfl
    | false =>
      exfalso
      rcases h with ⟨hb, hl⟩ | ⟨hb, hl⟩
      · have := con_n1 g hi e hb
        unfold lev at hl; omega
      · by_cases hik : i = k
        · subst hik; omega
        · have := con_n2 g hi hk hik e hb
          unfold lev at hl; omega
theorem cn_sel : ∀ n, cn n p = ((selN p n).length : Int)
  | 0 => rfl
  | n + 1 => by
    have := cn_sel n
    unfold cn at this ⊢
    rw [sg, this, selN_succ, List.length_append]
    cases h : p n with
    | true => rw [if_pos rfl, if_pos rfl]; simp
    | false => rw [if_neg (by decide), if_neg (by decide)]; simp
theorem sel_not : ∀ n, (selN p n).length + (selN (fun i => !p i) n).length = n
  | 0 => rfl
  | n + 1 => by
    have := sel_not n
    rw [selN_succ, selN_succ, List.length_append, List.length_append]
    cases h : p n <;> simp <;> omega
theorem least_dep (f : Nat → Nat) (hx : ∃ u, S u = true) : ∃ v, S v = true ∧ ∀ u, S u = true → f v ≤ f u := by
  obtain ⟨u, hu⟩ := hx
  have : ∀ N u, S u = true → f u = N → ∃ v, S v = true ∧ ∀ u, S u = true → f v ≤ f u := by
    intro N
    induction N using Nat.strongRecOn with
    | _ N ih =>
      intro u hu hN
      by_cases h : ∀ w, S w = true → f u ≤ f w
      · exact ⟨u, hu, h⟩
      · have : ∃ w, S w = true ∧ f w < f u := Classical.byContradiction fun hn => h fun w hw => Nat.not_lt.1 fun h2 => hn ⟨w, hw, h2⟩
        obtain ⟨w, hw, h2⟩ := this
        exact ih (f w) (by omega) w hw rfl
  exact this _ u hu rfl
/-- Points as chains, each told by its lowest point. -/
structure Chains (r : List RvT) (S : Nat → Bool) (rt : Nat → Nat) : Prop where
  a : ∀ u, S u = true → S (rt u) = true ∧ rt (rt u) = rt u ∧ bl r u (rt u) ∧ lev r u ≤ lev r (rt u)
  c : ∀ u w, S u = true → S w = true → rt u = rt w → u ≠ w → LT r u w ∨ LT r w u
  m : ∀ (Q : Nat → Bool) (x : Int), (∀ u w, S u = true → S w = true → bl r u w → Q u = Q w) → ∃ A : Nat → Bool, (∀ u, A u = true → S u = true ∧ Q u = true ∧ x ≤ lev r u) ∧ (∀ u w, A u = true → A w = true → ¬ LT r u w) ∧ cn r.length (fun u => S u && (Q u && (decide (rt u = u) && decide (x ≤ lev r u)))) ≤ cn r.length A
theorem lt_irr : ¬ LT r i i := fun h => by have := h.2; omega
theorem bool4 {a b : Bool} {P R : Prop} [Decidable P] [Decidable R] : (a && (b && (decide P && decide R))) = true ↔ a = true ∧ b = true ∧ P ∧ R := by
  rw [Bool.and_eq_true, Bool.and_eq_true, Bool.and_eq_true, decide_eq_true_iff, decide_eq_true_iff]
theorem chains_ex (g : Good r) : ∀ N (S : Nat → Bool), (∀ u, S u = true → u < r.length) → (selN S r.length).length = N → ∃ rt, Chains r S rt
  | 0, S, hS, hN => by
    have hno : ∀ u, S u = false := fun u => by
      cases h : S u with
      | false => rfl
      | true =>
        have : (u : Int) ∈ selN S r.length := mem_sel.2 ⟨u, hS u h, h, rfl⟩
        rw [List.eq_nil_of_length_eq_zero hN] at this; simp at this
    refine ⟨id, fun u hu => absurd hu (by rw [hno]; decide), fun u w hu => absurd hu (by rw [hno]; decide), fun Q x _ => ⟨fun _ => false, fun u hu => absurd hu Bool.false_ne_true, fun u w hu => absurd hu Bool.false_ne_true, ?_⟩⟩
    have e : (fun u => S u && (Q u && (decide (id u = u) && decide (x ≤ lev r u)))) = fun _ => false := by funext u; rw [hno]; rfl
    rw [e]; exact Int.le_refl _
  | N + 1, S, hS, hN => by
    have hne : ∃ u, S u = true := by
      have hpos : 0 < (selN S r.length).length := by omega
      obtain ⟨u, _, h, _⟩ := mem_sel.1 (K.gt_mem hpos)
      exact ⟨u, h⟩
    obtain ⟨v, hv, hmin⟩ := least_dep (dep r) hne
    have hvl := hS v hv
    -- without v
    have hS' : ∀ u, (S u && decide (u ≠ v)) = true ↔ S u = true ∧ u ≠ v := fun u => by rw [Bool.and_eq_true, decide_eq_true_iff]
    have hlen : (selN (fun u => S u && decide (u ≠ v)) r.length).length = N := by
      have h2 : sg (fun i => if i = v then (1 : Int) else 0) r.length = 1 := sg_one (p := fun i => i = v) hvl rfl (fun i _ h => h)
      have h1 : cn r.length S = cn r.length (fun u => S u && decide (u ≠ v)) + sg (fun i => if i = v then (1 : Int) else 0) r.length := by
        unfold cn
        rw [← sg_add]
        refine sg_congr fun i _ => ?_
        by_cases e : i = v
        · subst e; rw [hv]; simp
        · cases h : S i <;> simp [e, h]
      rw [h2] at h1
      rw [cn_sel, cn_sel] at h1; omega
    obtain ⟨rt, hc⟩ := chains_ex g N (fun u => S u && decide (u ≠ v)) (fun u hu => hS u ((hS' u).1 hu).1) hlen
    have ha : ∀ u, S u = true → u ≠ v → (S (rt u) = true ∧ rt u ≠ v) ∧ rt (rt u) = rt u ∧ bl r u (rt u) ∧ lev r u ≤ lev r (rt u) := fun u hu hn => by
      have := hc.a u ((hS' u).2 ⟨hu, hn⟩)
      exact ⟨(hS' _).1 this.1, this.2⟩
    have hcc : ∀ u w, S u = true → u ≠ v → S w = true → w ≠ v → rt u = rt w → u ≠ w → LT r u w ∨ LT r w u := fun u w hu hn hw hn2 => hc.c u w ((hS' u).2 ⟨hu, hn⟩) ((hS' w).2 ⟨hw, hn2⟩)
    -- nothing is below v
    have hlow : ∀ u, S u = true → bl r v u → u = v := fun u hu hb => by
      refine Decidable.not_not.1 fun hn => ?_
      have := bl_anti g hvl hb (Ne.symm hn)
      have := hmin u hu
      omega
    have hU : ∀ u w, S u = true → u ≠ v → S w = true → w ≠ v → bl r u w → blB r u v = blB r w v := fun u w hu hn hw hn2 hb => by
      rw [Bool.eq_iff_iff, blB_iff g (hS u hu), blB_iff g (hS w hw)]
      constructor
      · intro h
        rcases bl_cmp hb h with h2 | h2
        · exact h2
        · exact absurd (hlow w hw h2) hn2
      · exact fun h => bl_tr hb h
    -- v follows the chain whose lowest point has the greatest level below that of v, or begins one
    have hrt : ∃ rt2 : Nat → Nat, rt2 v = v ∧ (∀ u, S u = true → u ≠ v → (rt2 u = v ∧ bl r u v ∧ lev r u < lev r v) ∨ (rt2 u = rt u ∧ rt2 (rt u) = rt u)) ∧ (∀ u w, S u = true → u ≠ v → S w = true → w ≠ v → rt2 u = v → rt2 w = v → rt u = rt w) ∧ ∀ x, (∀ c, S c = true → c ≠ v → rt c = c → bl r c v → lev r c < lev r v → lev r c < x) ∨ ∃ b, S b = true ∧ b ≠ v ∧ rt b = b ∧ rt2 b = v ∧ bl r b v ∧ x ≤ lev r b := by
      by_cases hcand : ∃ b, (S b && (decide (b ≠ v) && (decide (rt b = b) && (blB r b v && decide (lev r b < lev r v))))) = true
      · obtain ⟨b, hb, hmax⟩ := least_dep (fun u => (20000 - lev r u).toNat) hcand
        have hcd : ∀ u, (S u && (decide (u ≠ v) && (decide (rt u = u) && (blB r u v && decide (lev r u < lev r v))))) = true ↔ S u = true ∧ u ≠ v ∧ rt u = u ∧ blB r u v = true ∧ lev r u < lev r v := fun u => by
          rw [Bool.and_eq_true, Bool.and_eq_true, Bool.and_eq_true, Bool.and_eq_true, decide_eq_true_iff, decide_eq_true_iff, decide_eq_true_iff]
        obtain ⟨b1, b2, b3, b4, b5⟩ := (hcd b).1 hb
        have bbl := (blB_iff g (hS b b1)).1 b4
        have hlv : ∀ u, u < r.length → lev r u ≤ 9000 := fun u hu => by
          have := g.p u hu
          have := DM_le g hu
          unfold lev; omega
        have hbm : ∀ u, S u = true → u ≠ v → rt u = u → bl r u v → lev r u < lev r v → lev r u ≤ lev r b := fun u h1 h2 h3 h4 h5 => by
          have := hmax u ((hcd u).2 ⟨h1, h2, h3, (blB_iff g (hS u h1)).2 h4, h5⟩)
          have := hlv u (hS u h1)
          have := hlv b (hS b b1)
          omega
        have r2n : ∀ u, ¬ (u = v ∨ rt u = b) → (if u = v ∨ rt u = b then v else rt u) = rt u := fun u h => if_neg h
        refine ⟨fun u => if u = v ∨ rt u = b then v else rt u, if_pos (.inl rfl), fun u h1 h2 => ?_, fun u w h1 h2 h3 h4 h5 h6 => ?_, fun x => ?_⟩
        · by_cases h3 : rt u = b
          · refine .inl ⟨if_pos (.inr h3), ?_⟩
            have := (ha u h1 h2).2.2
            rw [h3] at this
            exact ⟨bl_tr this.1 bbl, by omega⟩
          · have := ha u h1 h2
            exact .inr ⟨r2n u (by rintro (h | h); exact h2 h; exact h3 h), (r2n (rt u) (by rintro (h | h); exact this.1.2 h; exact h3 (this.2.1 ▸ h))).trans this.2.1⟩
        · have key : ∀ u, S u = true → u ≠ v → (if u = v ∨ rt u = b then v else rt u) = v → rt u = b := fun u h1 h2 h3 => by
            refine Classical.byContradiction fun h4 => ?_
            rw [r2n u (by rintro (h | h); exact h2 h; exact h4 h)] at h3
            exact (ha u h1 h2).1.2 h3
          exact (key u h1 h2 h5).trans (key w h3 h4 h6).symm
        · by_cases hx : x ≤ lev r b
          · exact .inr ⟨b, b1, b2, b3, if_pos (.inr b3), bbl, hx⟩
          · exact .inl fun c h1 h2 h3 h4 h5 => by have := hbm c h1 h2 h3 h4 h5; omega
      · refine ⟨fun u => if u = v then v else rt u, if_pos rfl, fun u h1 h2 => .inr ⟨if_neg h2, (if_neg (ha u h1 h2).1.2).trans (ha u h1 h2).2.1⟩, fun u w h1 h2 h3 h4 h5 h6 => ?_, fun x => .inl fun c h1 h2 h3 h4 h5 => ?_⟩
        · simp only [h2, if_false] at h5
          exact absurd h5 (ha u h1 h2).1.2
        · refine absurd ⟨c, ?_⟩ hcand
          rw [h1, decide_eq_true h2, decide_eq_true h3, (blB_iff g (hS c h1)).2 h4, decide_eq_true h5]; rfl
    obtain ⟨rt2, q1, q2, q3, q4⟩ := hrt
    have hstep : ∀ u, S u = true → u ≠ v → rt2 u = u → rt u = u := fun u h1 h2 h3 => by
      rcases q2 u h1 h2 with h | h
      · rw [h.1] at h3; exact absurd h3.symm h2
      · exact h.1.symm.trans h3
    refine ⟨rt2, fun u hu => ?_, fun u w hu hw e hne => ?_, fun Q x hQ => ?_⟩
    · by_cases h1 : u = v
      · rw [h1, q1]; exact ⟨hv, q1, bl_refl, Int.le_refl _⟩
      · rcases q2 u hu h1 with h | h
        · rw [h.1]; exact ⟨hv, q1, h.2.1, by omega⟩
        · have := ha u hu h1
          rw [h.1]; exact ⟨this.1.1, h.2, this.2.2⟩
    · by_cases h1 : u = v
      · have hw1 : w ≠ v := fun h => hne (h1.trans h.symm)
        rw [h1, q1] at e
        rcases q2 w hw hw1 with h | h
        · rw [h1]; exact .inr h.2
        · rw [h.1] at e; exact absurd e.symm (ha w hw hw1).1.2
      · by_cases h3 : w = v
        · rw [h3, q1] at e
          rcases q2 u hu h1 with h | h
          · rw [h3]; exact .inl h.2
          · rw [h.1] at e; exact absurd e (ha u hu h1).1.2
        · rcases q2 u hu h1 with h | h
          · exact hcc u w hu h1 hw h3 (q3 u w hu h1 hw h3 h.1 (e.symm.trans h.1)) hne
          · rcases q2 w hw h3 with h4 | h4
            · exact hcc u w hu h1 hw h3 (q3 u w hu h1 hw h3 (e.trans h4.1) h4.1) hne
            · exact hcc u w hu h1 hw h3 (h.1.symm.trans (e.trans h4.1)) hne
    · have hQ' : ∀ u w, (S u && decide (u ≠ v)) = true → (S w && decide (w ≠ v)) = true → bl r u w → Q u = Q w := fun u w hu hw => hQ u w ((hS' u).1 hu).1 ((hS' w).1 hw).1
      have e1 : sg (fun i => if i = v then (1 : Int) else 0) r.length = 1 := sg_one (p := fun i => i = v) hvl rfl (fun i _ h => h)
      by_cases hlt : Q v = true ∧ x ≤ lev r v
      · obtain ⟨hQv, hxv⟩ := hlt
        rcases q4 x with hnc | ⟨b, b1, b2, b3, b4, bbl, hxb⟩
        · obtain ⟨A1, a1, a2, a3⟩ := hc.m (fun u => blB r u v) (lev r v) (fun u w hu hw => hU u w ((hS' u).1 hu).1 ((hS' u).1 hu).2 ((hS' w).1 hw).1 ((hS' w).1 hw).2)
          obtain ⟨A2, c1, c2, c3⟩ := hc.m (fun u => Q u && !blB r u v) x (fun u w hu hw hb => by rw [hQ' u w hu hw hb, hU u w ((hS' u).1 hu).1 ((hS' u).1 hu).2 ((hS' w).1 hw).1 ((hS' w).1 hw).2 hb])
          have k1 : ∀ u, A1 u = true → (S u = true ∧ u ≠ v) ∧ blB r u v = true ∧ lev r v ≤ lev r u := fun u h => by
            have := a1 u h; exact ⟨(hS' u).1 this.1, this.2⟩
          have k2 : ∀ u, A2 u = true → (S u = true ∧ u ≠ v) ∧ (Q u = true ∧ blB r u v = false) ∧ x ≤ lev r u := fun u h => by
            have := c1 u h
            simp only [Bool.and_eq_true, Bool.not_eq_true'] at this
            exact ⟨(hS' u).1 (c1 u h).1, this.2⟩
          obtain ⟨A, hA⟩ : ∃ A : Nat → Bool, ∀ u, A u = true ↔ u = v ∨ A1 u = true ∨ A2 u = true := ⟨fun u => decide (u = v) || (A1 u || A2 u), fun u => by rw [Bool.or_eq_true, Bool.or_eq_true, decide_eq_true_iff]⟩
          refine ⟨A, fun u hu => ?_, fun u w hu hw hl => ?_, ?_⟩
          · rcases (hA u).1 hu with h | h | h
            · rw [h]; exact ⟨hv, hQv, hxv⟩
            · obtain ⟨h1, h2, h3⟩ := k1 u h
              exact ⟨h1.1, (hQ u v h1.1 hv ((blB_iff g (hS u h1.1)).1 h2)).trans hQv, by omega⟩
            · obtain ⟨h1, h2, h3⟩ := k2 u h
              exact ⟨h1.1, h2.1, h3⟩
          · rcases (hA u).1 hu with hu | hu | hu
            · rw [hu] at hl
              rcases (hA w).1 hw with hw | hw | hw
              · rw [hw] at hl; exact lt_irr hl
              · exact absurd (hlow w (k1 w hw).1.1 hl.1) (k1 w hw).1.2
              · exact absurd (hlow w (k2 w hw).1.1 hl.1) (k2 w hw).1.2
            · obtain ⟨h1, h2, h3⟩ := k1 u hu
              rcases (hA w).1 hw with hw | hw | hw
              · rw [hw] at hl; have := hl.2; omega
              · exact a2 u w hu hw hl
              · have := hU u w h1.1 h1.2 (k2 w hw).1.1 (k2 w hw).1.2 hl.1
                rw [h2, (k2 w hw).2.1.2] at this; cases this
            · obtain ⟨h1, h2, h3⟩ := k2 u hu
              rcases (hA w).1 hw with hw | hw | hw
              · rw [hw] at hl
                rw [(blB_iff g (hS u h1.1)).2 hl.1] at h2; cases h2.2
              · have := hU u w h1.1 h1.2 (k1 w hw).1.1 (k1 w hw).1.2 hl.1
                rw [h2.2, (k1 w hw).2.1] at this; cases this
              · exact c2 u w hu hw hl
          · have e2 : cn r.length (fun u => S u && (Q u && (decide (rt2 u = u) && decide (x ≤ lev r u)))) ≤ sg (fun i => if i = v then (1 : Int) else 0) r.length + (cn r.length (fun u => (S u && decide (u ≠ v)) && (blB r u v && (decide (rt u = u) && decide (lev r v ≤ lev r u)))) + cn r.length (fun u => (S u && decide (u ≠ v)) && ((Q u && !blB r u v) && (decide (rt u = u) && decide (x ≤ lev r u))))) := by
              unfold cn
              rw [← sg_add, ← sg_add]
              refine sg_le fun u _ => ?_
              have hpos : ∀ P R : Prop, ∀ [Decidable P] [Decidable R], (1 : Int) ≤ 1 + ((if P then 1 else 0) + (if R then 1 else 0)) := fun P R _ _ => by split <;> split <;> omega
              have hnn : ∀ T P R : Prop, ∀ [Decidable T] [Decidable P] [Decidable R], (0 : Int) ≤ (if T then 1 else 0) + ((if P then 1 else 0) + (if R then 1 else 0)) := fun T P R _ _ _ => by split <;> split <;> split <;> omega
              by_cases hu : (S u && (Q u && (decide (rt2 u = u) && decide (x ≤ lev r u)))) = true
              · rw [if_pos hu]
                obtain ⟨h1, h2, h3, h4⟩ := bool4.1 hu
                by_cases hn : u = v
                · rw [if_pos hn]; exact hpos _ _
                · have hr := hstep u h1 hn h3
                  by_cases hub : blB r u v = true
                  · have hlu : lev r v ≤ lev r u := Int.not_lt.1 fun h => by
                      have := hnc u h1 hn hr ((blB_iff g (hS u h1)).1 hub) h
                      omega
                    have f1 : ((S u && decide (u ≠ v)) && (blB r u v && (decide (rt u = u) && decide (lev r v ≤ lev r u)))) = true := bool4.2 ⟨(hS' u).2 ⟨h1, hn⟩, hub, hr, hlu⟩
                    rw [if_neg hn, if_pos f1]
                    split <;> omega
                  · have hub : blB r u v = false := by simpa using hub
                    have f2 : ((S u && decide (u ≠ v)) && ((Q u && !blB r u v) && (decide (rt u = u) && decide (x ≤ lev r u)))) = true := bool4.2 ⟨(hS' u).2 ⟨h1, hn⟩, by rw [h2, hub]; rfl, hr, h4⟩
                    rw [if_neg hn, if_pos f2]
                    split <;> omega
              · rw [if_neg hu]; exact hnn _ _ _
            have e3 : sg (fun i => if i = v then (1 : Int) else 0) r.length + (cn r.length A1 + cn r.length A2) ≤ cn r.length A := by
              unfold cn
              rw [← sg_add, ← sg_add]
              refine sg_le fun u _ => ?_
              by_cases hn : u = v
              · rw [if_pos hn, if_neg (fun h => (k1 u h).1.2 hn), if_neg (fun h => (k2 u h).1.2 hn), if_pos ((hA u).2 (.inl hn))]
                omega
              · rw [if_neg hn]
                by_cases h1 : A1 u = true
                · rw [if_pos h1, if_neg (fun h => by have := (k2 u h).2.1.2; rw [(k1 u h1).2.1] at this; cases this), if_pos ((hA u).2 (.inr (.inl h1)))]
                  omega
                · rw [if_neg h1]
                  by_cases h2 : A2 u = true
                  · rw [if_pos h2, if_pos ((hA u).2 (.inr (.inr h2)))]; omega
                  · rw [if_neg h2]; split <;> omega
            exact Int.le_trans e2 (Int.le_trans (Int.add_le_add_left (Int.add_le_add a3 c3) _) e3)
        · obtain ⟨A, a1, a2, a3⟩ := hc.m Q x hQ'
          refine ⟨A, fun u hu => ⟨((hS' u).1 (a1 u hu).1).1, (a1 u hu).2⟩, a2, Int.le_trans ?_ a3⟩
          have hQb : Q b = Q v := hQ b v b1 hv bbl
          have e2 : sg (fun i => if i = b then (1 : Int) else 0) r.length = 1 := sg_one (p := fun i => i = b) (hS b b1) rfl (fun i _ h => h)
          have e4 : cn r.length (fun u => S u && (Q u && (decide (rt2 u = u) && decide (x ≤ lev r u)))) + sg (fun i => if i = b then (1 : Int) else 0) r.length ≤ cn r.length (fun u => (S u && decide (u ≠ v)) && (Q u && (decide (rt u = u) && decide (x ≤ lev r u)))) + sg (fun i => if i = v then (1 : Int) else 0) r.length := by
            unfold cn
            rw [← sg_add, ← sg_add]
            refine sg_le fun u _ => ?_
            have h01 : ∀ P R : Prop, ∀ [Decidable P] [Decidable R], (if P then (1 : Int) else 0) + 0 ≤ (if R then 1 else 0) + 1 := fun P R _ _ => by split <;> split <;> omega
            by_cases hn : u = v
            · rw [if_pos hn, if_neg (c := u = b) (fun h => b2 (h.symm.trans hn))]
              exact h01 _ _
            · rw [if_neg hn]
              by_cases hub : u = b
              · have f1 : ((S u && decide (u ≠ v)) && (Q u && (decide (rt u = u) && decide (x ≤ lev r u)))) = true := by rw [hub]; exact bool4.2 ⟨(hS' b).2 ⟨b1, b2⟩, hQb.trans hQv, b3, hxb⟩
                have f2 : ¬ (S u && (Q u && (decide (rt2 u = u) && decide (x ≤ lev r u)))) = true := fun h => by
                  have := (bool4.1 h).2.2.1
                  rw [hub, b4] at this
                  exact b2 this.symm
                rw [if_pos hub, if_pos f1, if_neg f2]; omega
              · rw [if_neg hub]
                by_cases hu : (S u && (Q u && (decide (rt2 u = u) && decide (x ≤ lev r u)))) = true
                · obtain ⟨h1, h2, h3, h4⟩ := bool4.1 hu
                  have f1 : ((S u && decide (u ≠ v)) && (Q u && (decide (rt u = u) && decide (x ≤ lev r u)))) = true := bool4.2 ⟨(hS' u).2 ⟨h1, hn⟩, h2, hstep u h1 hn h3, h4⟩
                  rw [if_pos hu, if_pos f1]
                  omega
                · rw [if_neg hu]; split <;> omega
          omega
      · obtain ⟨A, a1, a2, a3⟩ := hc.m Q x hQ'
        refine ⟨A, fun u hu => ⟨((hS' u).1 (a1 u hu).1).1, (a1 u hu).2⟩, a2, Int.le_trans ?_ a3⟩
        unfold cn
        refine sg_le fun u _ => ?_
        by_cases hu : (S u && (Q u && (decide (rt2 u = u) && decide (x ≤ lev r u)))) = true
        · obtain ⟨h1, h2, h3, h4⟩ := bool4.1 hu
          have hn : u ≠ v := fun e => hlt (by rw [e] at h2 h4; exact ⟨h2, h4⟩)
          have f1 : ((S u && decide (u ≠ v)) && (Q u && (decide (rt u = u) && decide (x ≤ lev r u)))) = true := bool4.2 ⟨(hS' u).2 ⟨h1, hn⟩, h2, hstep u h1 hn h3, h4⟩
          rw [if_pos hu, if_pos f1]
          omega
        · rw [if_neg hu]; split <;> omega
/-- As few chains as points that can keep their heights. -/
theorem chains_few (g : Good r) : ∃ rt : Nat → Nat, (∀ u, u < r.length → outS r u = false → rt u < r.length ∧ outS r (rt u) = false ∧ rt (rt u) = rt u) ∧ (∀ u w, u < r.length → w < r.length → outS r u = false → outS r w = false → rt u = rt w → u ≠ w → conS r u w = true) ∧ (selN (fun u => !outS r u && decide (rt u = u)) r.length).length + pcS (fewN r) ≤ r.length := by
  obtain ⟨rt, hc⟩ := chains_ex g _ (fun u => decide (u < r.length) && !outS r u) (fun u hu => by rw [Bool.and_eq_true] at hu; exact of_decide_eq_true hu.1) rfl
  have hS : ∀ u, (decide (u < r.length) && !outS r u) = true ↔ u < r.length ∧ outS r u = false := fun u => by rw [Bool.and_eq_true, decide_eq_true_iff, Bool.not_eq_true']
  refine ⟨rt, fun u hu ho => ?_, fun u w hu hw ho ho2 e hne => (con_iff g hu hw).2 (hc.c u w ((hS u).2 ⟨hu, ho⟩) ((hS w).2 ⟨hw, ho2⟩) e hne), ?_⟩
  · have := hc.a u ((hS u).2 ⟨hu, ho⟩)
    exact ⟨((hS _).1 this.1).1, ((hS _).1 this.1).2, this.2.1⟩
  · obtain ⟨A, a1, a2, a3⟩ := hc.m (fun _ => true) (-10000) (fun _ _ _ _ _ => rfl)
    have hA : ∀ u, A u = true → u < r.length ∧ outS r u = false := fun u h => (hS u).1 (a1 u h).1
    have hbit : ∀ i, i < r.length → (mskN (fun u => !A u) r.length).testBit i = !A i := fun i hi => by rw [msk_bit, decide_eq_true hi, Bool.true_and]
    have hlt := msk_lt (p := fun u => !A u) r.length
    have hcor : corS r (mskN (fun u => !A u) r.length) = true := cor_t fun i hi => by
      cases hb : A i with
      | false => exact cor_in1 (by rw [hbit i hi, hb]; rfl)
      | true =>
        refine cor_in2 (hA i hb).2 fun k hk => ?_
        unfold corAt
        rw [hbit k (by omega)]
        cases hb2 : A k with
        | false => rfl
        | true =>
          have : conS r i k = false := by
            cases e : conS r i k with
            | false => rfl
            | true =>
              rcases (con_iff g hi (by omega)).1 e with h | h
              · exact absurd h (a2 i k hb hb2)
              · exact absurd h (a2 k i hb2 hb)
          rw [this]; rfl
    have h1 := (few_min g hlt hcor).1
    have h2 : pcS (mskN (fun u => !A u) r.length) = (selN (fun u => !A u) r.length).length := by
      unfold pcS
      rw [bits_n g.n.2 hlt, selN_congr hbit]
    have h3 := sel_not (p := A) r.length
    rw [cn_sel, cn_sel] at a3
    have h4 : (selN (fun u => !outS r u && decide (rt u = u)) r.length).length ≤ (selN (fun u => (decide (u < r.length) && !outS r u) && (true && (decide (rt u = u) && decide (-10000 ≤ lev r u)))) r.length).length := sel_le fun i hi h => by
      rw [Bool.and_eq_true, Bool.not_eq_true', decide_eq_true_iff] at h
      have hp := g.p i hi
      have hd := DM_le g hi
      exact bool4.2 ⟨(hS i).2 ⟨hi, h.1⟩, rfl, h.2, by unfold lev; omega⟩
    omega
end
end Go.Proofs.YtoemnobfnnjopaaDoor
end
section
set_option linter.unusedSimpArgs false
set_option linter.unusedVariables false
namespace Go.Proofs.YtoemnobfnnjopaaDoor
open Go
/-- How many numbers the first k points have. -/
def nmF (l : List Int) : Nat → Int
  | 0 => 0
  | k + 1 => max (nmF l k) (l.getD k default + 1)
def nmV (l : List Int) : Int := nmF l l.length
/-- Numbers of chains of the first points. -/
structure Pl (r : List RvT) (l : List Int) : Prop where
  a : ∀ i, i < l.length → (l.getD i default = -1 ∧ outS r i = true) ∨ (0 ≤ l.getD i default ∧ outS r i = false)
  b : ∀ i, i < l.length → l.getD i default ≤ nmF l i
  c : ∀ i k, i < l.length → k < i → 0 ≤ l.getD i default → l.getD i default = l.getD k default → conS r i k = true
/-- The chains that they tell. -/
structure Cl (cs l : List Int) : Prop where
  n : (cs.length : Int) = nmV l
  m : ∀ j, j < cs.length → ∀ k, (cs.getD j default).toNat.testBit k = true ↔ k < l.length ∧ l.getD k default = (j : Int)
section
variable {r : List RvT} {cs l : List Int} {st : StP} {i j k n f : Nat} {y : Int}
theorem nm_snoc : ∀ {i}, i ≤ l.length → nmF (l ++ [y]) i = nmF l i
  | 0, _ => rfl
  | i + 1, h => by rw [nmF, nmF, nm_snoc (by omega), snoc_at (by omega)]
theorem nm_next : nmV (l ++ [y]) = max (nmV l) (y + 1) := by
  unfold nmV
  rw [List.length_append, List.length_singleton, nmF, nm_snoc (Nat.le_refl _), snoc_end]
theorem nm_ge0 : ∀ i, 0 ≤ nmF l i
  | 0 => Int.le_refl _
  | i + 1 => by have := nm_ge0 i; rw [nmF]; omega
theorem nm_mono : ∀ {i k}, i ≤ k → nmF l i ≤ nmF l k
  | i, 0, h => by rw [show i = 0 by omega]; exact Int.le_refl _
  | i, k + 1, h => by
    rcases Nat.lt_or_ge k i with h1 | h1
    · rw [show i = k + 1 by omega]; exact Int.le_refl _
    · have := nm_mono h1
      rw [nmF]; omega
theorem nm_lt (h : k < i) : l.getD k default + 1 ≤ nmF l i := by
  have := nm_mono (l := l) (show k + 1 ≤ i from h)
  rw [nmF] at this; omega
theorem nm_occ (P : Pl r l) : ∀ {i}, i ≤ l.length → ∀ j : Nat, (j : Int) < nmF l i → ∃ k, k < i ∧ l.getD k default = (j : Int)
  | 0, _, j, h => by rw [nmF] at h; omega
  | i + 1, hi, j, h => by
    have hb := P.b i (by omega)
    rw [nmF] at h
    rcases Int.lt_or_le (j : Int) (nmF l i) with h1 | h1
    · obtain ⟨k, h2, h3⟩ := nm_occ P (by omega) j h1
      exact ⟨k, by omega, h3⟩
    · exact ⟨i, by omega, by omega⟩
theorem pl_out (P : Pl r l) (C : Cl cs l) (ho : outS r l.length = true) : Pl r (l ++ [-1]) ∧ Cl cs (l ++ [-1]) := by
  have hl : (l ++ [(-1 : Int)]).length = l.length + 1 := by rw [List.length_append]; rfl
  have e := snoc_end (l := l) (y := (-1 : Int))
  have h0 := nm_ge0 (l := l) l.length
  refine ⟨⟨fun i hi => ?_, fun i hi => ?_, fun i k hi hk h1 h2 => ?_⟩, ⟨?_, fun j hj k => ?_⟩⟩
  · by_cases h1 : i < l.length
    · rw [snoc_at h1]; exact P.a i h1
    · rw [show i = l.length by omega, e]; exact .inl ⟨rfl, ho⟩
  · rw [nm_snoc (by omega)]
    by_cases h1 : i < l.length
    · rw [snoc_at h1]; exact P.b i h1
    · rw [show i = l.length by omega, e]; omega
  · by_cases h3 : i < l.length
    · rw [snoc_at h3] at h1 h2
      rw [snoc_at (by omega)] at h2
      exact P.c i k h3 hk h1 h2
    · rw [show i = l.length by omega, e] at h1; omega
  · rw [nm_next, C.n]
    unfold nmV; omega
  · rw [C.m j hj k, hl]
    constructor
    · rintro ⟨h1, h2⟩; exact ⟨by omega, by rw [snoc_at h1]; exact h2⟩
    · rintro ⟨h1, h2⟩
      by_cases h3 : k < l.length
      · rw [snoc_at h3] at h2; exact ⟨h3, h2⟩
      · rw [show k = l.length by omega, e] at h2; omega
theorem ok_con (g : Good r) (hl : l.length < r.length) (C : Cl cs l) (hj : j < cs.length) (h : okP r l.length ((chX cs j).getD j default) = true) (hk : k < l.length) (e : l.getD k default = (j : Int)) : conS r l.length k = true := by
  have hn := g.n.2
  rw [chX_at hj] at h
  have hb := (C.m j hj k).2 ⟨hk, e⟩
  unfold okP at h
  rw [Bool.not_eq_true'] at h
  have hm : (k : Int) ∈ bitsL (cs.getD j default) := by
    unfold bitsL
    exact mem_sel.2 ⟨k, by omega, hb, rfl⟩
  have := List.any_eq_false.1 h _ hm
  simpa using this
theorem ok_of (C : Cl cs l) (hj : j ≤ cs.length) (h : ∀ k, k < l.length → l.getD k default = (j : Int) → conS r l.length k = true) : okP r l.length ((chX cs j).getD j default) = true := by
  unfold okP
  rw [Bool.not_eq_true', List.any_eq_false]
  intro x hx
  unfold bitsL at hx
  obtain ⟨k, _, hb, rfl⟩ := mem_sel.1 hx
  rcases Nat.lt_or_ge j cs.length with h1 | h1
  · rw [chX_at h1] at hb
    obtain ⟨h2, h3⟩ := (C.m j h1 k).1 hb
    have := h k h2 h3
    simp [this]
  · rw [chX_new (by omega)] at hb
    simp at hb
theorem pl_in (g : Good r) (hl : l.length < r.length) (P : Pl r l) (C : Cl cs l) (ho : outS r l.length = false) (hj : j ≤ cs.length) (hok : okP r l.length ((chX cs j).getD j default) = true) : Pl r (l ++ [(j : Int)]) ∧ Cl (setX cs j l.length) (l ++ [(j : Int)]) := by
  have hln : (l ++ [(j : Int)]).length = l.length + 1 := by rw [List.length_append]; rfl
  have e := snoc_end (l := l) (y := (j : Int))
  have hn := C.n
  have hv : nmV l = nmF l l.length := rfl
  refine ⟨⟨fun i hi => ?_, fun i hi => ?_, fun i k hi hk h1 h2 => ?_⟩, ⟨?_, fun j' hj' k => ?_⟩⟩
  · by_cases h1 : i < l.length
    · rw [snoc_at h1]; exact P.a i h1
    · rw [show i = l.length by omega, e]; exact .inr ⟨by omega, ho⟩
  · rw [nm_snoc (by omega)]
    by_cases h1 : i < l.length
    · rw [snoc_at h1]; exact P.b i h1
    · rw [show i = l.length by omega, e]; omega
  · by_cases h3 : i < l.length
    · rw [snoc_at h3] at h1 h2
      rw [snoc_at (by omega)] at h2
      exact P.c i k h3 hk h1 h2
    · have hi2 : i = l.length := by omega
      subst hi2
      rw [e, snoc_at hk] at h2
      have := nm_lt (l := l) hk
      exact ok_con g hl C (by omega) hok hk h2.symm
  · rw [nm_next, setX_len, chX_len hj]
    split <;> omega
  · rw [hln]
    have hold : ∀ j', j' < cs.length → j' ≠ j → (setX cs j l.length).getD j' default = cs.getD j' default := fun j' h1 h2 => by
      rcases Nat.lt_or_ge j cs.length with h3 | h3
      · rw [setX_old h3, set_at h3, if_neg (Ne.symm h2)]
      · rw [setX_new (by omega), snoc_at h1]
    have hjl : j' < cs.length ∨ j' = j := by
      rw [setX_len, chX_len hj] at hj'
      split at hj' <;> omega
    by_cases h1 : j' = j
    · subst h1
      rw [setX_at hj, Int.toNat_natCast, Nat.testBit_or, Nat.testBit_two_pow, Bool.or_eq_true, decide_eq_true_iff]
      have hbit : ((chX cs j').getD j' default).toNat.testBit k = true ↔ k < l.length ∧ l.getD k default = (j' : Int) := by
        rcases Nat.lt_or_ge j' cs.length with h3 | h3
        · rw [chX_at h3]; exact C.m j' h3 k
        · rw [chX_new (by omega)]
          constructor
          · intro h; simp at h
          · rintro ⟨h4, h5⟩
            have := nm_lt (l := l) h4
            omega
      rw [hbit]
      constructor
      · rintro (⟨h4, h5⟩ | h4)
        · exact ⟨by omega, by rw [snoc_at h4]; exact h5⟩
        · subst h4; exact ⟨by omega, e⟩
      · rintro ⟨h4, h5⟩
        by_cases h6 : k < l.length
        · rw [snoc_at h6] at h5; exact .inl ⟨h6, h5⟩
        · exact .inr (by omega)
    · have h2 : j' < cs.length := by omega
      rw [hold j' h2 h1, C.m j' h2 k]
      constructor
      · rintro ⟨h4, h5⟩; exact ⟨by omega, by rw [snoc_at h4]; exact h5⟩
      · rintro ⟨h4, h5⟩
        by_cases h6 : k < l.length
        · rw [snoc_at h6] at h5; exact ⟨h6, h5⟩
        · rw [show k = l.length by omega, e] at h5; omega
/-- What is found. -/
def Fin (r : List RvT) (p : StP) : Prop := p.1.length = r.length ∧ Pl r p.1 ∧ p.2 = nmV p.1
theorem fill_sound (g : Good r) : ∀ f cs l st, l.length + f = r.length → Pl r l → Cl cs l → (fillP r f cs l st).2 ≤ st.2 ∧ (fillP r f cs l st = st ∨ Fin r (fillP r f cs l st))
  | 0, cs, l, st, hf, P, C => by
    by_cases hc : st.2 ≤ cs.length
    · rw [fillP_cut hc]; exact ⟨Int.le_refl _, .inl rfl⟩
    · rw [fillP_end hc]; exact ⟨by show (cs.length : Int) ≤ st.2; omega, .inr ⟨by show l.length = _; omega, P, C.n⟩⟩
  | f + 1, cs, l, st, hf, P, C => by
    by_cases hc : st.2 ≤ cs.length
    · rw [fillP_cut hc]; exact ⟨Int.le_refl _, .inl rfl⟩
    · cases ho : outS r l.length with
      | true =>
        rw [fillP_out hc ho]
        obtain ⟨P', C'⟩ := pl_out P C ho
        exact fill_sound g f _ _ _ (by rw [List.length_append, List.length_singleton]; omega) P' C'
      | false =>
        rw [fillP_loop hc ho]
        have key : ∀ m, m ≤ cs.length + 1 → (loopP (fillP r f) r cs l st m).2 ≤ st.2 ∧ (loopP (fillP r f) r cs l st m = st ∨ Fin r (loopP (fillP r f) r cs l st m)) := by
          intro m
          induction m with
          | zero => intro _; exact ⟨Int.le_refl _, .inl rfl⟩
          | succ m ih =>
            intro hm
            have ih := ih (by omega)
            rw [loopP]
            split
            · rename_i hok
              obtain ⟨P', C'⟩ := pl_in g (by omega) P C ho (by omega) hok
              have h := fill_sound g f (setX cs m l.length) (l ++ [(m : Int)]) (loopP (fillP r f) r cs l st m) (by rw [List.length_append, List.length_singleton]; omega) P' C'
              refine ⟨by omega, ?_⟩
              rcases h.2 with h2 | h2
              · rw [h2]; exact ih.2
              · exact .inr h2
            · exact ih
        exact key _ (Nat.le_refl _)
/-- Numbers that agree with chains. -/
def Agr (r : List RvT) (rt : Nat → Nat) (l : List Int) : Prop := ∀ i k, i < l.length → k < l.length → outS r i = false → outS r k = false → (l.getD i default = l.getD k default ↔ rt i = rt k)
theorem fill_best (g : Good r) {rt : Nat → Nat} {D : Int} (hcon : ∀ u w, u < r.length → w < r.length → outS r u = false → outS r w = false → rt u = rt w → u ≠ w → conS r u w = true)
    (hD : ∀ cs l, l.length ≤ r.length → Pl r l → Cl cs l → Agr r rt l → (cs.length : Int) ≤ D) : ∀ f cs l st, l.length + f = r.length → Pl r l → Cl cs l → Agr r rt l → (fillP r f cs l st).2 ≤ D
  | 0, cs, l, st, hf, P, C, G => by
    have hd := hD cs l (by omega) P C G
    by_cases hc : st.2 ≤ cs.length
    · rw [fillP_cut hc]; omega
    · rw [fillP_end hc]; exact hd
  | f + 1, cs, l, st, hf, P, C, G => by
    have hd := hD cs l (by omega) P C G
    by_cases hc : st.2 ≤ cs.length
    · rw [fillP_cut hc]; omega
    · cases ho : outS r l.length with
      | true =>
        rw [fillP_out hc ho]
        obtain ⟨P', C'⟩ := pl_out P C ho
        refine fill_best g hcon hD f _ _ _ (by rw [List.length_append, List.length_singleton]; omega) P' C' fun i k hi hk oi ok => ?_
        rw [List.length_append, List.length_singleton] at hi hk
        have h1 : i < l.length := by
          refine Classical.byContradiction fun h => ?_
          rw [show i = l.length by omega, ho] at oi; cases oi
        have h2 : k < l.length := by
          refine Classical.byContradiction fun h => ?_
          rw [show k = l.length by omega, ho] at ok; cases ok
        rw [snoc_at h1, snoc_at h2]
        exact G i k h1 h2 oi ok
      | false =>
        rw [fillP_loop hc ho]
        have hv : nmV l = nmF l l.length := rfl
        have hn := C.n
        have hex : ∃ j, j ≤ cs.length ∧ ∀ k, k < l.length → outS r k = false → (l.getD k default = (j : Int) ↔ rt k = rt l.length) := by
          by_cases h : ∃ k, k < l.length ∧ outS r k = false ∧ rt k = rt l.length
          · obtain ⟨k, h1, h2, h3⟩ := h
            have hk0 : 0 ≤ l.getD k default := by
              rcases P.a k h1 with h4 | h4
              · rw [h2] at h4; cases h4.2
              · exact h4.1
            have := nm_lt (l := l) h1
            refine ⟨(l.getD k default).toNat, by omega, fun k' h4 h5 => ?_⟩
            rw [Int.toNat_of_nonneg hk0, G k' k h4 h1 h5 h2, h3]
          · refine ⟨cs.length, Nat.le_refl _, fun k h1 h2 => ⟨fun h3 => ?_, fun h3 => absurd ⟨k, h1, h2, h3⟩ h⟩⟩
            have := nm_lt (l := l) h1
            omega
        obtain ⟨j, hj, hag⟩ := hex
        have hnout : ∀ k, k < l.length → l.getD k default = (j : Int) → outS r k = false := fun k h1 h2 => by
          rcases P.a k h1 with h4 | h4
          · omega
          · exact h4.2
        have hok : okP r l.length ((chX cs j).getD j default) = true := ok_of C hj fun k h1 h2 => by
          have h3 := hnout k h1 h2
          exact hcon _ _ (by omega) (by omega) ho h3 ((hag k h1 h3).1 h2).symm (by omega)
        obtain ⟨P', C'⟩ := pl_in g (by omega) P C ho hj hok
        have hstep : (loopP (fillP r f) r cs l st (j + 1)).2 ≤ D := by
          rw [loopP_yes hok]
          refine fill_best g hcon hD f _ _ _ (by rw [List.length_append, List.length_singleton]; omega) P' C' fun i k hi hk oi ok => ?_
          rw [List.length_append, List.length_singleton] at hi hk
          have e := snoc_end (l := l) (y := (j : Int))
          by_cases h1 : i < l.length
          · rw [snoc_at h1]
            by_cases h2 : k < l.length
            · rw [snoc_at h2]; exact G i k h1 h2 oi ok
            · have hk2 : k = l.length := by omega
              subst hk2
              rw [e]; exact hag i h1 oi
          · have hi2 : i = l.length := by omega
            subst hi2
            rw [e]
            by_cases h2 : k < l.length
            · rw [snoc_at h2]
              have := hag k h2 ok
              constructor
              · intro h; exact (this.1 h.symm).symm
              · intro h; exact (this.2 h.symm).symm
            · have hk2 : k = l.length := by omega
              subst hk2
              rw [e]; exact ⟨fun _ => rfl, fun _ => rfl⟩
        have hmore : ∀ m, j + 1 ≤ m → m ≤ cs.length + 1 → (loopP (fillP r f) r cs l st m).2 ≤ D := by
          intro m
          induction m with
          | zero => intro h; omega
          | succ m ih =>
            intro h1 h2
            by_cases hm : m = j
            · rw [hm]; exact hstep
            · have ih := ih (by omega) (by omega)
              rw [loopP]
              split
              · rename_i hok2
                obtain ⟨P2, C2⟩ := pl_in g (by omega) P C ho (by omega) hok2
                have := (fill_sound g f (setX cs m l.length) (l ++ [(m : Int)]) (loopP (fillP r f) r cs l st m) (by rw [List.length_append, List.length_singleton]; omega) P2 C2).1
                omega
              · exact ih
        exact hmore _ (by omega) (Nat.le_refl _)
/-- What Proof returns: as many numbers as points that are not in the list of Fewest. -/
theorem prf_is (hc : (chk r).2.2 = 0) : (prfL r).length = r.length ∧ Pl r (prfL r) ∧ nmV (prfL r) = (r.length : Int) - ((fewL r).length : Int) := by
  have g := chk_good hc
  obtain ⟨rt, h1, h2, h3⟩ := chains_few g
  have hfl := (few_L hc).2
  -- chains are at most as many as lowest points
  have hD : ∀ cs l, l.length ≤ r.length → Pl r l → Cl cs l → Agr r rt l → (cs.length : Int) ≤ ((selN (fun u => !outS r u && decide (rt u = u)) r.length).length : Int) := fun cs l hl P C G => by
    have hocc : ∀ j, j < cs.length → ∃ k, k < l.length ∧ l.getD k default = (j : Int) := fun j hj => nm_occ P (Nat.le_refl _) j (by have := C.n; unfold nmV at this; omega)
    obtain ⟨w, hw⟩ : ∃ w : Nat → Nat, ∀ j, j < cs.length → w j < l.length ∧ l.getD (w j) default = (j : Int) :=
      ⟨fun j => if h : j < cs.length then (hocc j h).choose else 0, fun j hj => by
        simp only [dif_pos hj]
        exact (hocc j hj).choose_spec⟩
    have hno : ∀ j, j < cs.length → outS r (w j) = false := fun j hj => by
      rcases P.a (w j) (hw j hj).1 with h | h
      · have := (hw j hj).2; omega
      · exact h.2
    have hnd : ((List.range cs.length).map fun j => ((rt (w j) : Nat) : Int)).Nodup := by
      unfold List.Nodup
      rw [List.pairwise_map]
      refine List.Pairwise.imp_of_mem (R := fun a b => a ≠ b) ?_ (List.nodup_range (n := cs.length))
      intro a b ha hb hab e
      have ha := List.mem_range.1 ha
      have hb := List.mem_range.1 hb
      have := (G (w a) (w b) (hw a ha).1 (hw b hb).1 (hno a ha) (hno b hb)).2 (by omega)
      rw [(hw a ha).2, (hw b hb).2] at this
      omega
    have hle := hnd.length_le_of_subset (l₂ := selN (fun u => !outS r u && decide (rt u = u)) r.length) (fun x hx => by
      obtain ⟨j, hj, rfl⟩ := List.mem_map.1 hx
      have hj := List.mem_range.1 hj
      obtain ⟨a, b, c⟩ := h1 (w j) (by have := (hw j hj).1; omega) (hno j hj)
      exact mem_sel.2 ⟨_, a, by rw [b, decide_eq_true c]; rfl, rfl⟩)
    rw [List.length_map, List.length_range] at hle
    omega
  have P0 : Pl r [] := ⟨fun i hi => absurd hi (Nat.not_lt_zero _), fun i hi => absurd hi (Nat.not_lt_zero _), fun i k hi => absurd hi (Nat.not_lt_zero _)⟩
  have C0 : Cl [] [] := ⟨rfl, fun j hj => absurd hj (Nat.not_lt_zero _)⟩
  have G0 : Agr r rt [] := fun i k hi => absurd hi (Nat.not_lt_zero _)
  have hb := fill_best g h2 hD r.length [] [] ([], (r.length : Int) + 1) (by simp) P0 C0 G0
  have hs := (fill_sound g r.length [] [] ([], (r.length : Int) + 1) (by simp) P0 C0).2
  have e : prfL r = (fillP r r.length [] [] ([], (r.length : Int) + 1)).1 := by unfold prfL prfS; rw [if_neg (by omega)]
  have hfin : Fin r (fillP r r.length [] [] ([], (r.length : Int) + 1)) := by
    rcases hs with h | h
    · rw [h] at hb
      simp only at hb
      omega
    · exact h
  obtain ⟨f1, f2, f3⟩ := hfin
  rw [← e] at f1 f2 f3
  refine ⟨f1, f2, ?_⟩
  rw [f3] at hb
  -- kept points have different numbers
  have hcor := (few_is g).2.1
  have hlt := (few_is g).1
  have hK := sel_not (p := fun i => (fewN r).testBit i) r.length
  have hpc : pcS (fewN r) = (selN (fun i => (fewN r).testBit i) r.length).length := by unfold pcS; rw [bits_n g.n.2 hlt]
  have hkeep : ∀ k, k < r.length → (fewN r).testBit k = false → 0 ≤ (prfL r).getD k default ∧ (prfL r).getD k default < nmV (prfL r) := fun k hk hbk => by
    have ho := (cor_parts hcor hk hbk).1
    have := nm_lt (l := prfL r) (show k < (prfL r).length by omega)
    rcases f2.a k (by omega) with h | h
    · rw [ho] at h; cases h.2
    · exact ⟨h.1, by unfold nmV; omega⟩
  have hinj : ∀ i k, i < r.length → k < i → (fewN r).testBit i = false → (fewN r).testBit k = false → (prfL r).getD i default ≠ (prfL r).getD k default := fun i k hi hk h4 h5 h6 => by
    have := f2.c i k (by omega) hk (hkeep i hi h4).1 h6
    rw [(cor_parts hcor hi h4).2 k hk h5] at this; cases this
  have hnd : ((selN (fun i => !(fewN r).testBit i) r.length).map fun x => (prfL r).getD x.toNat default).Nodup := by
    unfold List.Nodup
    rw [List.pairwise_map]
    have hp : (selN (fun i => !(fewN r).testBit i) r.length).Pairwise (fun a b => a ≠ b) := by
      unfold selN
      rw [List.pairwise_map]
      refine List.Pairwise.imp ?_ ((List.nodup_range (n := r.length)).sublist List.filter_sublist)
      intro a b h e; exact h (by omega)
    refine List.Pairwise.imp_of_mem ?_ hp
    intro a b ha hb' hab h6
    obtain ⟨i, hi, hbi, rfl⟩ := mem_sel.1 ha
    obtain ⟨k, hk, hbk, rfl⟩ := mem_sel.1 hb'
    rw [Bool.not_eq_true'] at hbi hbk
    rw [Int.toNat_natCast, Int.toNat_natCast] at h6
    rcases Nat.lt_trichotomy i k with h | h | h
    · exact hinj k i hk h hbk hbi h6.symm
    · exact hab (by rw [h])
    · exact hinj i k hi h hbi hbk h6
  have hle := hnd.length_le_of_subset (l₂ := (List.range (nmV (prfL r)).toNat).map fun j => ((j : Nat) : Int)) (fun x hx => by
    obtain ⟨y, hy, rfl⟩ := List.mem_map.1 hx
    obtain ⟨k, hk, hbk, rfl⟩ := mem_sel.1 hy
    rw [Bool.not_eq_true'] at hbk
    have := hkeep k hk hbk
    rw [Int.toNat_natCast]
    exact List.mem_map.2 ⟨((prfL r).getD k default).toNat, List.mem_range.2 (by omega), by omega⟩)
  rw [List.length_map, List.length_map, List.length_range] at hle
  have h0 := nm_ge0 (l := prfL r) (prfL r).length
  have hv : nmV (prfL r) = nmF (prfL r) (prfL r).length := rfl
  omega
end
end Go.Proofs.YtoemnobfnnjopaaDoor
end
section
set_option linter.unusedSimpArgs false
set_option linter.unusedVariables false
namespace Go.Proofs.YtoemnobfnnjopaaDoor
open Go
/-- The set that a list tells. -/
def setZ (r : List RvT) (l : List Int) : Nat := mskN (fun i => decide ((i : Int) ∈ l)) r.length
def corZ (r : List RvT) (l : List Int) : Bool := corS r (setZ r l)
/-- The corrections among the lists of so many points. -/
def refF (r : List RvT) (m : Nat) : List (List Int) := (lsF m 0 (r.length : Int)).filter (corZ r)
def refC (r : List RvT) : List (List Int) := refF r (pcS (fewN r))
section
variable {r : List RvT} {l z : List Int} {i k m s : Nat}
theorem con_sym (g : Good r) (hi : i < r.length) (hk : k < r.length) : conS r i k = conS r k i := by
  rw [Bool.eq_iff_iff, con_iff g hi hk, con_iff g hk hi]
  exact ⟨Or.symm, Or.symm⟩
theorem con_self (g : Good r) (hi : i < r.length) : conS r i i = false := by
  cases e : conS r i i with
  | false => rfl
  | true => rcases (con_iff g hi hi).1 e with h | h <;> exact absurd h lt_irr
theorem setZ_bit (hi : i < r.length) : (setZ r l).testBit i = decide ((i : Int) ∈ l) := by unfold setZ; rw [msk_bit, decide_eq_true hi, Bool.true_and]
theorem corZ_f1 (hi : i < r.length) (hl : ¬ (i : Int) ∈ l) (h : outS r i = true) : corZ r l = false := cor_f hi (by rw [setZ_bit hi]; exact decide_eq_false hl) h
theorem corZ_f2 (g : Good r) (hi : i < r.length) (hk : k < r.length) (hl : ¬ (i : Int) ∈ l) (hl2 : ¬ (k : Int) ∈ l) (h : conS r i k = true) : corZ r l = false := by
  have b1 : (setZ r l).testBit i = false := by rw [setZ_bit hi]; exact decide_eq_false hl
  have b2 : (setZ r l).testBit k = false := by rw [setZ_bit hk]; exact decide_eq_false hl2
  rcases Nat.lt_trichotomy k i with h1 | h1 | h1
  · exact cor_f2 hi h1 b1 b2 h
  · subst h1; rw [con_self g hi] at h; cases h
  · exact cor_f2 hk h1 b2 b1 (by rw [con_sym g hk hi]; exact h)
theorem corZ_t (h : ∀ i, i < r.length → (i : Int) ∈ l ∨ (outS r i = false ∧ ∀ j, j < r.length → (j : Int) ∈ l ∨ conS r i j = false)) : corZ r l = true := by
  refine cor_t fun i hi => ?_
  rcases h i hi with h1 | ⟨h1, h2⟩
  · exact cor_in1 (by rw [setZ_bit hi]; exact decide_eq_true h1)
  · refine cor_in2 h1 fun k hk => ?_
    unfold corAt
    rcases h2 k (by omega) with h3 | h3
    · rw [setZ_bit (by omega), decide_eq_true h3]; rfl
    · rw [h3]; simp
/-- A list of ascending points is that of its set. -/
theorem bits_set (hn : r.length ≤ 9) (h1 : z.Pairwise (· < ·)) (h2 : ∀ x ∈ z, 0 ≤ x ∧ x < (r.length : Int)) : bitsL (setZ r z : Int) = z := by
  unfold setZ
  rw [bits_n hn (msk_lt _), ← sorted_sel h1 h2]
  refine selN_congr fun i hi => ?_
  rw [msk_bit, decide_eq_true hi, Bool.true_and, sorted_sel h1 h2]
theorem set_bits (hn : r.length ≤ 9) (hs : s < 2 ^ r.length) : setZ r (bitsL (s : Int)) = s := by
  refine Nat.eq_of_testBit_eq fun i => ?_
  unfold setZ
  rw [msk_bit]
  by_cases hi : i < r.length
  · rw [decide_eq_true hi, Bool.true_and, Bool.eq_iff_iff, decide_eq_true_iff]
    exact bit_in (by omega)
  · rw [decide_eq_false hi, Bool.false_and, Nat.testBit_lt_two_pow (Nat.lt_of_lt_of_le hs (Nat.pow_le_pow_right (by decide) (by omega)))]
theorem refF_mem (g : Good r) : z ∈ refF r m ↔ ∃ s, s < 2 ^ r.length ∧ corS r s = true ∧ pcS s = m ∧ z = bitsL (s : Int) := by
  have hn := g.n.2
  unfold refF
  rw [List.mem_filter, mem_lsF]
  constructor
  · rintro ⟨⟨h1, h2, h3⟩, h4⟩
    have e := bits_set (r := r) hn h2 h3
    exact ⟨setZ r z, msk_lt _, h4, by unfold pcS; rw [e]; exact h1, e.symm⟩
  · rintro ⟨s, h1, h2, h3, rfl⟩
    refine ⟨⟨h3, ?_, fun x hx => ?_⟩, ?_⟩
    · rw [bits_n hn h1]; exact selN_pw
    · rw [bits_n hn h1] at hx
      obtain ⟨j, hj, _, rfl⟩ := mem_sel.1 hx
      omega
    · unfold corZ; rw [set_bits hn h1]; exact h2
theorem refF_none (g : Good r) (h : m < pcS (fewN r)) : refF r m = [] := by
  rw [List.eq_nil_iff_forall_not_mem]
  intro z hz
  obtain ⟨s, h1, h2, h3, _⟩ := (refF_mem g).1 hz
  have := (few_min g h1 h2).1
  omega
theorem refC_few (g : Good r) : bitsL (fewN r : Int) ∈ refC r := (refF_mem g).2 ⟨_, (few_is g).1, (few_is g).2.1, rfl, rfl⟩
theorem refC_mem (g : Good r) : z ∈ refC r ↔ ∃ s : Nat, (s : Int) ∈ corL r ∧ z = bitsL (s : Int) := by
  unfold refC
  rw [refF_mem g]
  constructor
  · rintro ⟨s, h1, h2, h3, h4⟩
    exact ⟨s, (few_min g h1 h2).2.2 h3, h4⟩
  · rintro ⟨s, h1, h4⟩
    have h5 := ((corF_spec (r := r) (2 ^ r.length)).2 s).1 h1
    exact ⟨s, h5.1, h5.2.1, (few_min g h5.1 h5.2.1).2.1 h1, h4⟩
theorem few_le9 (g : Good r) : pcS (fewN r) ≤ r.length := pc_le g.n.2 (few_is g).1
/-- The first one is that of Fewest. -/
theorem fst_low {l : List Int} : ∀ {k}, k ≤ l.length → ∀ j, j < k → ¬ cmpL (bitsL (l.getD j default)) (bitsL (fstS l k)) < 0
  | 0, _, j, hj => absurd hj (Nat.not_lt_zero _)
  | k + 1, hk, j, hj => by
    unfold fstS
    split
    · rename_i h
      rcases Nat.lt_or_ge j k with h1 | h1
      · rcases h with h | h
        · omega
        · intro h2
          exact fst_low (k := k) (by omega) j h1 (cmpL_tr h2 h)
      · rw [show j = k by omega]
        intro h2
        have := cmpL_anti (bitsL (l.getD k default)) (bitsL (l.getD k default))
        omega
    · rename_i h
      rcases Nat.lt_or_ge j k with h1 | h1
      · exact fst_low (k := k) (by omega) j h1
      · rw [show j = k by omega]
        intro h2; exact h (.inr h2)
theorem refC_pw : (refC r).Pairwise fun a b => cmpL a b < 0 := pw_lsF.sublist List.filter_sublist
theorem refC_fst (hc : (chk r).2.2 = 0) : 0 < (refC r).length ∧ (refC r).getD 0 default = fewL r := by
  have g := chk_good hc
  have hm := refC_few g
  rw [(few_L hc).1]
  have hpw := refC_pw (r := r)
  have hmem := @refC_mem r
  cases e : refC r with
  | nil => rw [e] at hm; simp at hm
  | cons a t =>
    refine ⟨by simp, ?_⟩
    show a = _
    rw [e] at hm hpw
    rcases List.mem_cons.1 hm with h | h
    · exact h.symm
    · exfalso
      have h1 := (List.pairwise_cons.1 hpw).1 _ h
      obtain ⟨s, h2, h3⟩ := (hmem g).1 (by rw [e]; exact List.mem_cons_self)
      obtain ⟨j, hj, e2⟩ := cor_at h2
      have hb := corL_at g hj
      have e3 : (corL r).getD j default = (s : Int) := by omega
      have := fst_low (l := corL r) (Nat.le_refl _) j hj
      rw [e3, (few_is g).2.2.2, ← h3] at this
      exact this h1
def mustZ (r : List RvT) (k : Nat) : List Int := selN (fun i => (refC r).all fun z => decide ((i : Int) ∈ z)) k
def mayZ (r : List RvT) (k : Nat) : List Int := selN (fun i => (refC r).any fun z => decide ((i : Int) ∈ z)) k
theorem all_of : ∀ {k} {l : List Int} {n i : Nat}, k ≤ l.length → i < n → (∀ j, j < k → (l.getD j default).toNat.testBit i = true) → (allF n l k).testBit i = true
  | 0, l, n, i, _, hi, _ => by unfold allF; rw [Nat.testBit_two_pow_sub_one]; exact decide_eq_true hi
  | k + 1, l, n, i, hk, hi, h => by
    unfold allF
    rw [Nat.testBit_and, all_of (by omega) hi (fun j hj => h j (by omega)), h k (by omega)]; rfl
theorem som_of : ∀ {k} {l : List Int} {i : Nat}, k ≤ l.length → (somF l k).testBit i = true → ∃ j, j < k ∧ (l.getD j default).toNat.testBit i = true
  | 0, l, i, _, h => by unfold somF at h; simp at h
  | k + 1, l, i, hk, h => by
    unfold somF at h
    rw [Nat.testBit_or, Bool.or_eq_true] at h
    rcases h with h | h
    · obtain ⟨j, h1, h2⟩ := som_of (by omega) h
      exact ⟨j, by omega, h2⟩
    · exact ⟨k, by omega, h⟩
theorem must_ref (hc : (chk r).2.2 = 0) : mustZ r r.length = mustL r ∧ mayZ r r.length = mayL r := by
  have g := chk_good hc
  have hn := g.n.2
  obtain ⟨_, h2, h3⟩ := few_lens hc
  rw [h2, h3]
  refine ⟨selN_congr fun i hi => ?_, selN_congr fun i hi => ?_⟩
  · rw [Bool.eq_iff_iff, List.all_eq_true]
    constructor
    · intro h
      refine all_of (Nat.le_refl _) hi fun j hj => ?_
      have hb := corL_at g hj
      have hm := h _ ((refC_mem g).2 ⟨((corL r).getD j default).toNat, by rw [Int.toNat_of_nonneg hb.1]; exact K.gt_mem hj, rfl⟩)
      exact (bit_in (by omega)).1 (of_decide_eq_true hm)
    · intro h z hz
      obtain ⟨s, h4, rfl⟩ := (refC_mem g).1 hz
      obtain ⟨j, hj, e⟩ := cor_at h4
      have := (all_bit _ (Nat.le_refl _) i h).2 j hj
      rw [e] at this
      exact decide_eq_true ((bit_in (by omega)).2 this)
  · rw [Bool.eq_iff_iff, List.any_eq_true]
    constructor
    · rintro ⟨z, hz, h⟩
      obtain ⟨s, h4, rfl⟩ := (refC_mem g).1 hz
      obtain ⟨j, hj, e⟩ := cor_at h4
      exact som_bit _ hj (Nat.le_refl _) i (by rw [e]; exact (bit_in (by omega)).1 (of_decide_eq_true h))
    · intro h
      obtain ⟨j, hj, h5⟩ := som_of (Nat.le_refl _) h
      have hb := corL_at g hj
      exact ⟨bitsL ((corL r).getD j default).toNat, (refC_mem g).2 ⟨_, by rw [Int.toNat_of_nonneg hb.1]; exact K.gt_mem hj, rfl⟩, decide_eq_true ((bit_in (by omega)).2 h5)⟩
/-- How many of the first k lists have a point. -/
def hasN (zs : List (List Int)) (i k : Nat) : Nat := ((zs.take k).filter fun z => decide ((i : Int) ∈ z)).length
theorem has_s {zs : List (List Int)} (hk : k < zs.length) : hasN zs i (k + 1) = if (i : Int) ∈ zs.getD k default then hasN zs i k + 1 else hasN zs i k := by
  unfold hasN
  rw [List.take_add_one, List.getElem?_eq_getElem hk, List.filter_append, List.length_append, List.getD_eq_getElem?_getD, List.getElem?_eq_getElem hk]
  show _ = if (i : Int) ∈ zs[k] then _ else _
  by_cases h : (i : Int) ∈ zs[k] <;> simp [h]
theorem has_le {zs : List (List Int)} : hasN zs i k ≤ k := by
  unfold hasN
  refine Nat.le_trans (List.length_filter_le _ _) ?_
  rw [List.length_take]; omega
theorem has_all {zs : List (List Int)} : hasN zs i zs.length = zs.length ↔ (zs.all fun z => decide ((i : Int) ∈ z)) = true := by
  unfold hasN
  rw [List.take_length, List.length_filter_eq_length_iff, List.all_eq_true]
theorem has_any {zs : List (List Int)} : 0 < hasN zs i zs.length ↔ (zs.any fun z => decide ((i : Int) ∈ z)) = true := by
  unfold hasN
  rw [List.take_length, List.length_pos_iff_exists_mem, List.any_eq_true]
  constructor
  · rintro ⟨z, hz⟩; rw [List.mem_filter] at hz; exact ⟨z, hz⟩
  · rintro ⟨z, hz⟩; exact ⟨z, List.mem_filter.2 hz⟩
end
end Go.Proofs.YtoemnobfnnjopaaDoor
end
section
set_option linter.unusedSimpArgs false
set_option linter.unusedVariables false
namespace Go.K
open Go.RowKit
section
variable {w0 : World} {L : List Chunk} {G : World → Prop}
theorem inn_sel {F : Nat → Prop} {vs vs' : List Value} {zs zs' : List (List Int)} (hl : vs'.length = zs'.length) (hs : ∀ (i : Nat) z, zs'[i]? = some z → ∃ j : Nat, zs[j]? = some z ∧ vs'[i]? = vs[j]?) (k : Hold w0 (inn F vs' zs' :: L) G) : Hold w0 (inn F vs zs :: L) G := fun w hw => by
  have h := hw.2.1 (inn F vs zs) (by simp)
  have hp := List.pairwise_cons.1 hw.2.2
  refine k w ⟨hw.1, fun d hd => ?_, List.pairwise_cons.2 ⟨fun d hd k hk => hp.1 d hd k hk, hp.2⟩⟩
  rcases List.mem_cons.1 hd with rfl | hd
  · refine ⟨⟨h.1.1, hl, fun i z hz => ?_⟩, h.2⟩
    obtain ⟨j, hj, hv⟩ := hs i z hz
    obtain ⟨A, c, hv2, hc⟩ := h.1.2.2 j z hj
    exact ⟨A, c, hv.trans hv2, hc⟩
  · exact hw.2.1 d (by simp [hd])
/-- What a call that makes slices of slices gives, with the type of the slices. -/
def RetLT (t : Nat) (zs : List (List Int)) (w : World) : Ending → World → Prop :=
  Ret (fun r : Option Addr × Nat × List Value × (Nat → Prop) => r.2.2.1.all Value.oneCell' = true ∧ r.2.2.1.length = zs.length) (fun r => .slice r.1 r.2.2.1.length r.2.1) (fun r => [row (.slice r.1 r.2.2.1.length r.2.1) t 1 r.2.2.1.length (r.2.2.1.flatMap eV), inn r.2.2.2 r.2.2.1 zs]) w
end
end Go.K
end
section
set_option linter.unusedSimpArgs false
set_option linter.unusedVariables false
namespace Go.Proofs.YtoemnobfnnjopaaDoor
open Go.RowKit Go
open Go.K (setd setn ev nth over cl eI eP eT setM setF)
attribute [local irreducible] K.blk K.row
def posV : Nat → Value
  | 0 => undef
  | p + 1 => .int .i64 (p : Int)
def posN : Value → Nat
  | .int _ q => q.toNat + 1
  | _ => 0
theorem posN_V {p : Nat} : posN (posV p) = p := by cases p <;> simp [posN, posV, undef]
theorem dec_key {s : ByteArray} {p : Nat} : ((Utf8.decode s p).2 = 1 ∧ ((Utf8.decode s p).1 : Int) = K.bt s p ∧ K.bt s p < 128) ∨ (128 ≤ ((Utf8.decode s p).1 : Int) ∧ 128 ≤ K.bt s p) := by
  by_cases h : K.bt s p < 128
  · left
    rw [K.decode_lo h]
    exact ⟨rfl, rfl, h⟩
  · right
    have := K.decode_hi h
    omega
theorem size_ne {s : ByteArray} : (!(s.toList == (⟨#[]⟩ : ByteArray).toList)) = decide (1 ≤ s.size) := by
  have h0 : (⟨#[]⟩ : ByteArray).toList = [] := (toList_nil_iff_emptyBytes _).2 rfl
  rw [h0, Bool.eq_iff_iff]
  simp only [Bool.not_eq_true', beq_eq_false_iff_ne, ne_eq, decide_eq_true_eq, toList_nil_iff_emptyBytes]
  constructor
  · intro h
    rcases Nat.eq_zero_or_pos s.size with h1 | h1
    · exfalso; apply h
      cases s with
      | mk d => simp [ByteArray.size] at h1; subst h1; rfl
    · exact h1
  · rintro h rfl
    exact absurd h (by decide)
theorem ok_f {p : Nat} {b : Int} (h : ¬ ((97 ≤ b ∧ b ≤ 122) ∨ (0 < p ∧ ((48 ≤ b ∧ b ≤ 57) ∨ b = 45)))) : okC p b = false := decide_eq_false h
theorem ok_t {p : Nat} {b : Int} (h : (97 ≤ b ∧ b ≤ 122) ∨ (0 < p ∧ ((48 ≤ b ∧ b ≤ 57) ∨ b = 45))) : okC p b = true := decide_eq_true h
theorem name_end {s : ByteArray} {p : Nat} (h1 : 1 ≤ s.size) (hp : ¬ p < s.size) (hall : ∀ j, j < p → okC j (K.bt s j) = true) : decide ((s.size : Int) ≤ 16) = nameB s := by
  by_cases h : s.size ≤ 16
  · rw [name_t ⟨h1, h⟩ (fun i hi => hall i (by omega)), decide_eq_true (by omega)]
  · rw [name_f1 (by omega), decide_eq_false (by omega)]
theorem name_end0 {s : ByteArray} (h1 : ¬ 1 ≤ s.size) : false = nameB s := by rw [name_f1 (by omega)]

set_option maxRecDepth 100000 in
theorem c48 {s : ByteArray} (w : World) :
    Calls Tryd.prog 48 [.string s].toArray w (K.Gives (.bool (nameB s)) w) := by
  refine K.enter (args := [.string s]) Tryd.func48 rfl (n := 40) rfl ?_
  simp only [List.replicate, List.cons_append, List.nil_append]
  refine sr ?_
  refine qa ?_
  refine sn ?_
  refine K.seq ?_
  refine sr ?_
  refine qm ?_
  refine K.seq_loud (K.rangeS sT_9 rfl) rfl ?_
  rintro b6 _
  refine zN ?_
  refine sn ?_
  refine K.block ?_
  refine K.loopW [3] [2, 4, 7, 8, 9, 10, 11, 12, 13, 14, 15, 16, 17, 18, 19, 20, 21, 22, 23, 24, 25, 26, 27, 28, 29, 30, 31, 32, 33] (fun vi L => ∃ p : Nat, vi = [posV p] ∧ L = [K.sit b6 s p] ∧ p ≤ s.size ∧ ∀ j, j < p → okC j (K.bt s j) = true) (fun vi => s.size - posN (K.nth vi 0)) ?_ ?_
  · exact ⟨0, rfl, rfl, Nat.zero_le _, fun j hj => absurd hj (Nat.not_lt_zero j)⟩
  intro vi vr L hJ
  obtain ⟨p, rfl, rfl, hps, hall⟩ := hJ
  try dsimp only [setd, setn, ev, nth, over, cl, eI, eP, eT, eR, setM, setF, List.map, List.append, List.drop, List.take]
  refine sr ?_
  by_cases hnx7 : p < s.size
  · refine K.seq_upd (K.nextS_more rfl hnx7 (K.rp0)) rfl ?_
    rintro _ _
    refine zN ?_
    refine qx ?_
    refine sn ?_
    refine K.seq ?_
    refine K.cond_true rfl ?_
    refine K.skip ?_
    refine K.norm_then ?_
    refine K.block ?_
    refine sr ?_
    refine qx ?_
    refine qx ?_
    iterate 2 refine qa ?_
    refine sn ?_
    refine sr ?_
    refine qm ?_
    refine qp (K.geq rfl rfl) ?_
    refine qm ?_
    refine K.split 13 rfl (fun hg13 => ?_) (fun hg13 => ?_)
    · try replace hg13 := of_decide_eq_true hg13
      refine qm ?_
      refine qp (K.leq rfl rfl) ?_
      refine qp (K.pick_t rfl) ?_
      refine qm ?_
      refine K.split 17 rfl (fun hg17 => ?_) (fun hg17 => ?_)
      · try replace hg17 := of_decide_eq_true hg17
        iterate 14 refine qs ?_
        refine qp (K.pick_t rfl) ?_
        first | refine K.seq_pure (K.not_d rfl) rfl ?_ | refine K.seq_pure (K.not_ rfl) rfl ?_
        refine zN ?_
        refine sn ?_
        refine K.cond rfl (fun ht33 => ?_) (fun ht33 => ?_)
        · try replace ht33 := of_decide_eq_true ht33
          refine sr ?_
          refine qa ?_
          refine sn ?_
          refine K.ret ?_
          refine K.ret_block ?_
          refine K.ret_then ?_
          refine K.ret_block ?_
          refine K.ret_then ?_
          refine K.end_ret (fun w _ => K.res_tmp rfl w) ?_
          first
            | exact absurd ht33 (by decide)
            | exact K.gives_b rfl (name_f2 hnx7 (ok_f (by rcases dec_key (s := s) (p := p) with ⟨hk1, hk2, hk3⟩ | ⟨hk1, hk2⟩ <;> omega))).symm
        try replace ht33 := of_decide_eq_false ht33
        refine K.skip ?_
        refine K.norm_block ?_
        have hc : okC p (K.bt s p) = true ∧ (Utf8.decode s p).2 = 1 := by
          first
            | exact absurd ht33 (by decide)
            | (rcases dec_key (s := s) (p := p) with ⟨hk1, hk2, hk3⟩ | ⟨hk1, hk2⟩ <;> first | exact ⟨ok_t (by omega), hk1⟩ | (exfalso; omega))
        exact K.round_endW (L'' := [K.sit b6 s (p + 1)]) [.int .i64 (p : Int)] ⟨p + 1, rfl, rfl, by omega, K.lt_succ_case hall hc.1⟩ (by show s.size - posN (.int .i64 (p : Int)) < s.size - posN (posV p); rw [posN_V]; simp [posN]; omega) (by rw [hc.2]; exact List.Sublist.refl _) (by kernel_rfl)
      try replace hg17 := of_decide_eq_false hg17
      refine qm ?_
      refine qp (K.gtr rfl rfl) ?_
      refine qm ?_
      refine K.split 20 rfl (fun hg20 => ?_) (fun hg20 => ?_)
      · try replace hg20 := of_decide_eq_true hg20
        refine qm ?_
        refine qp (K.geq rfl rfl) ?_
        refine qm ?_
        refine K.split 23 rfl (fun hg23 => ?_) (fun hg23 => ?_)
        · try replace hg23 := of_decide_eq_true hg23
          refine qm ?_
          refine qp (K.leq rfl rfl) ?_
          refine qp (K.pick_t rfl) ?_
          refine qm ?_
          refine K.split 27 rfl (fun hg27 => ?_) (fun hg27 => ?_)
          · try replace hg27 := of_decide_eq_true hg27
            iterate 2 refine qs ?_
            refine qp (K.pick_t rfl) ?_
            refine qp (K.pick_t rfl) ?_
            refine qp (K.pick_f rfl) ?_
            first | refine K.seq_pure (K.not_d rfl) rfl ?_ | refine K.seq_pure (K.not_ rfl) rfl ?_
            refine zN ?_
            refine sn ?_
            refine K.cond rfl (fun ht33 => ?_) (fun ht33 => ?_)
            · try replace ht33 := of_decide_eq_true ht33
              refine sr ?_
              refine qa ?_
              refine sn ?_
              refine K.ret ?_
              refine K.ret_block ?_
              refine K.ret_then ?_
              refine K.ret_block ?_
              refine K.ret_then ?_
              refine K.end_ret (fun w _ => K.res_tmp rfl w) ?_
              first
                | exact absurd ht33 (by decide)
                | exact K.gives_b rfl (name_f2 hnx7 (ok_f (by rcases dec_key (s := s) (p := p) with ⟨hk1, hk2, hk3⟩ | ⟨hk1, hk2⟩ <;> omega))).symm
            try replace ht33 := of_decide_eq_false ht33
            refine K.skip ?_
            refine K.norm_block ?_
            have hc : okC p (K.bt s p) = true ∧ (Utf8.decode s p).2 = 1 := by
              first
                | exact absurd ht33 (by decide)
                | (rcases dec_key (s := s) (p := p) with ⟨hk1, hk2, hk3⟩ | ⟨hk1, hk2⟩ <;> first | exact ⟨ok_t (by omega), hk1⟩ | (exfalso; omega))
            exact K.round_endW (L'' := [K.sit b6 s (p + 1)]) [.int .i64 (p : Int)] ⟨p + 1, rfl, rfl, by omega, K.lt_succ_case hall hc.1⟩ (by show s.size - posN (.int .i64 (p : Int)) < s.size - posN (posV p); rw [posN_V]; simp [posN]; omega) (by rw [hc.2]; exact List.Sublist.refl _) (by kernel_rfl)
          try replace hg27 := of_decide_eq_false hg27
          refine qm ?_
          refine qp (K.eql rfl rfl) ?_
          refine qp (K.pick_f rfl) ?_
          refine qp (K.pick_t rfl) ?_
          refine qp (K.pick_f rfl) ?_
          first | refine K.seq_pure (K.not_d rfl) rfl ?_ | refine K.seq_pure (K.not_ rfl) rfl ?_
          refine zN ?_
          refine sn ?_
          refine K.cond rfl (fun ht33 => ?_) (fun ht33 => ?_)
          · try replace ht33 := of_decide_eq_true ht33
            refine sr ?_
            refine qa ?_
            refine sn ?_
            refine K.ret ?_
            refine K.ret_block ?_
            refine K.ret_then ?_
            refine K.ret_block ?_
            refine K.ret_then ?_
            refine K.end_ret (fun w _ => K.res_tmp rfl w) ?_
            first
              | exact absurd ht33 (by decide)
              | exact K.gives_b rfl (name_f2 hnx7 (ok_f (by rcases dec_key (s := s) (p := p) with ⟨hk1, hk2, hk3⟩ | ⟨hk1, hk2⟩ <;> omega))).symm
          try replace ht33 := of_decide_eq_false ht33
          refine K.skip ?_
          refine K.norm_block ?_
          have hc : okC p (K.bt s p) = true ∧ (Utf8.decode s p).2 = 1 := by
            first
              | exact absurd ht33 (by decide)
              | (rcases dec_key (s := s) (p := p) with ⟨hk1, hk2, hk3⟩ | ⟨hk1, hk2⟩ <;> first | exact ⟨ok_t (by omega), hk1⟩ | (exfalso; omega))
          exact K.round_endW (L'' := [K.sit b6 s (p + 1)]) [.int .i64 (p : Int)] ⟨p + 1, rfl, rfl, by omega, K.lt_succ_case hall hc.1⟩ (by show s.size - posN (.int .i64 (p : Int)) < s.size - posN (posV p); rw [posN_V]; simp [posN]; omega) (by rw [hc.2]; exact List.Sublist.refl _) (by kernel_rfl)
        try replace hg23 := of_decide_eq_false hg23
        iterate 2 refine qs ?_
        refine qp (K.pick_f rfl) ?_
        iterate 2 refine qm ?_
        refine qp (K.eql rfl rfl) ?_
        refine qp (K.pick_f rfl) ?_
        refine qp (K.pick_t rfl) ?_
        refine qp (K.pick_f rfl) ?_
        first | refine K.seq_pure (K.not_d rfl) rfl ?_ | refine K.seq_pure (K.not_ rfl) rfl ?_
        refine zN ?_
        refine sn ?_
        refine K.cond rfl (fun ht33 => ?_) (fun ht33 => ?_)
        · try replace ht33 := of_decide_eq_true ht33
          refine sr ?_
          refine qa ?_
          refine sn ?_
          refine K.ret ?_
          refine K.ret_block ?_
          refine K.ret_then ?_
          refine K.ret_block ?_
          refine K.ret_then ?_
          refine K.end_ret (fun w _ => K.res_tmp rfl w) ?_
          first
            | exact absurd ht33 (by decide)
            | exact K.gives_b rfl (name_f2 hnx7 (ok_f (by rcases dec_key (s := s) (p := p) with ⟨hk1, hk2, hk3⟩ | ⟨hk1, hk2⟩ <;> omega))).symm
        try replace ht33 := of_decide_eq_false ht33
        refine K.skip ?_
        refine K.norm_block ?_
        have hc : okC p (K.bt s p) = true ∧ (Utf8.decode s p).2 = 1 := by
          first
            | exact absurd ht33 (by decide)
            | (rcases dec_key (s := s) (p := p) with ⟨hk1, hk2, hk3⟩ | ⟨hk1, hk2⟩ <;> first | exact ⟨ok_t (by omega), hk1⟩ | (exfalso; omega))
        exact K.round_endW (L'' := [K.sit b6 s (p + 1)]) [.int .i64 (p : Int)] ⟨p + 1, rfl, rfl, by omega, K.lt_succ_case hall hc.1⟩ (by show s.size - posN (.int .i64 (p : Int)) < s.size - posN (posV p); rw [posN_V]; simp [posN]; omega) (by rw [hc.2]; exact List.Sublist.refl _) (by kernel_rfl)
      try replace hg20 := of_decide_eq_false hg20
      iterate 10 refine qs ?_
      refine qp (K.pick_f rfl) ?_
      refine qp (K.pick_f rfl) ?_
      first | refine K.seq_pure (K.not_d rfl) rfl ?_ | refine K.seq_pure (K.not_ rfl) rfl ?_
      refine zN ?_
      refine sn ?_
      refine K.cond rfl (fun ht33 => ?_) (fun ht33 => ?_)
      · try replace ht33 := of_decide_eq_true ht33
        refine sr ?_
        refine qa ?_
        refine sn ?_
        refine K.ret ?_
        refine K.ret_block ?_
        refine K.ret_then ?_
        refine K.ret_block ?_
        refine K.ret_then ?_
        refine K.end_ret (fun w _ => K.res_tmp rfl w) ?_
        first
          | exact absurd ht33 (by decide)
          | exact K.gives_b rfl (name_f2 hnx7 (ok_f (by rcases dec_key (s := s) (p := p) with ⟨hk1, hk2, hk3⟩ | ⟨hk1, hk2⟩ <;> omega))).symm
      try replace ht33 := of_decide_eq_false ht33
      refine K.skip ?_
      refine K.norm_block ?_
      have hc : okC p (K.bt s p) = true ∧ (Utf8.decode s p).2 = 1 := by
        first
          | exact absurd ht33 (by decide)
          | (rcases dec_key (s := s) (p := p) with ⟨hk1, hk2, hk3⟩ | ⟨hk1, hk2⟩ <;> first | exact ⟨ok_t (by omega), hk1⟩ | (exfalso; omega))
      exact K.round_endW (L'' := [K.sit b6 s (p + 1)]) [.int .i64 (p : Int)] ⟨p + 1, rfl, rfl, by omega, K.lt_succ_case hall hc.1⟩ (by show s.size - posN (.int .i64 (p : Int)) < s.size - posN (posV p); rw [posN_V]; simp [posN]; omega) (by rw [hc.2]; exact List.Sublist.refl _) (by kernel_rfl)
    try replace hg13 := of_decide_eq_false hg13
    iterate 2 refine qs ?_
    refine qp (K.pick_f rfl) ?_
    iterate 2 refine qm ?_
    refine qp (K.gtr rfl rfl) ?_
    refine qm ?_
    refine K.split 20 rfl (fun hg20 => ?_) (fun hg20 => ?_)
    · try replace hg20 := of_decide_eq_true hg20
      refine qm ?_
      refine qp (K.geq rfl rfl) ?_
      refine qm ?_
      refine K.split 23 rfl (fun hg23 => ?_) (fun hg23 => ?_)
      · try replace hg23 := of_decide_eq_true hg23
        refine qm ?_
        refine qp (K.leq rfl rfl) ?_
        refine qp (K.pick_t rfl) ?_
        refine qm ?_
        refine K.split 27 rfl (fun hg27 => ?_) (fun hg27 => ?_)
        · try replace hg27 := of_decide_eq_true hg27
          iterate 2 refine qs ?_
          refine qp (K.pick_t rfl) ?_
          refine qp (K.pick_t rfl) ?_
          refine qp (K.pick_f rfl) ?_
          first | refine K.seq_pure (K.not_d rfl) rfl ?_ | refine K.seq_pure (K.not_ rfl) rfl ?_
          refine zN ?_
          refine sn ?_
          refine K.cond rfl (fun ht33 => ?_) (fun ht33 => ?_)
          · try replace ht33 := of_decide_eq_true ht33
            refine sr ?_
            refine qa ?_
            refine sn ?_
            refine K.ret ?_
            refine K.ret_block ?_
            refine K.ret_then ?_
            refine K.ret_block ?_
            refine K.ret_then ?_
            refine K.end_ret (fun w _ => K.res_tmp rfl w) ?_
            first
              | exact absurd ht33 (by decide)
              | exact K.gives_b rfl (name_f2 hnx7 (ok_f (by rcases dec_key (s := s) (p := p) with ⟨hk1, hk2, hk3⟩ | ⟨hk1, hk2⟩ <;> omega))).symm
          try replace ht33 := of_decide_eq_false ht33
          refine K.skip ?_
          refine K.norm_block ?_
          have hc : okC p (K.bt s p) = true ∧ (Utf8.decode s p).2 = 1 := by
            first
              | exact absurd ht33 (by decide)
              | (rcases dec_key (s := s) (p := p) with ⟨hk1, hk2, hk3⟩ | ⟨hk1, hk2⟩ <;> first | exact ⟨ok_t (by omega), hk1⟩ | (exfalso; omega))
          exact K.round_endW (L'' := [K.sit b6 s (p + 1)]) [.int .i64 (p : Int)] ⟨p + 1, rfl, rfl, by omega, K.lt_succ_case hall hc.1⟩ (by show s.size - posN (.int .i64 (p : Int)) < s.size - posN (posV p); rw [posN_V]; simp [posN]; omega) (by rw [hc.2]; exact List.Sublist.refl _) (by kernel_rfl)
        try replace hg27 := of_decide_eq_false hg27
        refine qm ?_
        refine qp (K.eql rfl rfl) ?_
        refine qp (K.pick_f rfl) ?_
        refine qp (K.pick_t rfl) ?_
        refine qp (K.pick_f rfl) ?_
        first | refine K.seq_pure (K.not_d rfl) rfl ?_ | refine K.seq_pure (K.not_ rfl) rfl ?_
        refine zN ?_
        refine sn ?_
        refine K.cond rfl (fun ht33 => ?_) (fun ht33 => ?_)
        · try replace ht33 := of_decide_eq_true ht33
          refine sr ?_
          refine qa ?_
          refine sn ?_
          refine K.ret ?_
          refine K.ret_block ?_
          refine K.ret_then ?_
          refine K.ret_block ?_
          refine K.ret_then ?_
          refine K.end_ret (fun w _ => K.res_tmp rfl w) ?_
          first
            | exact absurd ht33 (by decide)
            | exact K.gives_b rfl (name_f2 hnx7 (ok_f (by rcases dec_key (s := s) (p := p) with ⟨hk1, hk2, hk3⟩ | ⟨hk1, hk2⟩ <;> omega))).symm
        try replace ht33 := of_decide_eq_false ht33
        refine K.skip ?_
        refine K.norm_block ?_
        have hc : okC p (K.bt s p) = true ∧ (Utf8.decode s p).2 = 1 := by
          first
            | exact absurd ht33 (by decide)
            | (rcases dec_key (s := s) (p := p) with ⟨hk1, hk2, hk3⟩ | ⟨hk1, hk2⟩ <;> first | exact ⟨ok_t (by omega), hk1⟩ | (exfalso; omega))
        exact K.round_endW (L'' := [K.sit b6 s (p + 1)]) [.int .i64 (p : Int)] ⟨p + 1, rfl, rfl, by omega, K.lt_succ_case hall hc.1⟩ (by show s.size - posN (.int .i64 (p : Int)) < s.size - posN (posV p); rw [posN_V]; simp [posN]; omega) (by rw [hc.2]; exact List.Sublist.refl _) (by kernel_rfl)
      try replace hg23 := of_decide_eq_false hg23
      iterate 2 refine qs ?_
      refine qp (K.pick_f rfl) ?_
      iterate 2 refine qm ?_
      refine qp (K.eql rfl rfl) ?_
      refine qp (K.pick_f rfl) ?_
      refine qp (K.pick_t rfl) ?_
      refine qp (K.pick_f rfl) ?_
      first | refine K.seq_pure (K.not_d rfl) rfl ?_ | refine K.seq_pure (K.not_ rfl) rfl ?_
      refine zN ?_
      refine sn ?_
      refine K.cond rfl (fun ht33 => ?_) (fun ht33 => ?_)
      · try replace ht33 := of_decide_eq_true ht33
        refine sr ?_
        refine qa ?_
        refine sn ?_
        refine K.ret ?_
        refine K.ret_block ?_
        refine K.ret_then ?_
        refine K.ret_block ?_
        refine K.ret_then ?_
        refine K.end_ret (fun w _ => K.res_tmp rfl w) ?_
        first
          | exact absurd ht33 (by decide)
          | exact K.gives_b rfl (name_f2 hnx7 (ok_f (by rcases dec_key (s := s) (p := p) with ⟨hk1, hk2, hk3⟩ | ⟨hk1, hk2⟩ <;> omega))).symm
      try replace ht33 := of_decide_eq_false ht33
      refine K.skip ?_
      refine K.norm_block ?_
      have hc : okC p (K.bt s p) = true ∧ (Utf8.decode s p).2 = 1 := by
        first
          | exact absurd ht33 (by decide)
          | (rcases dec_key (s := s) (p := p) with ⟨hk1, hk2, hk3⟩ | ⟨hk1, hk2⟩ <;> first | exact ⟨ok_t (by omega), hk1⟩ | (exfalso; omega))
      exact K.round_endW (L'' := [K.sit b6 s (p + 1)]) [.int .i64 (p : Int)] ⟨p + 1, rfl, rfl, by omega, K.lt_succ_case hall hc.1⟩ (by show s.size - posN (.int .i64 (p : Int)) < s.size - posN (posV p); rw [posN_V]; simp [posN]; omega) (by rw [hc.2]; exact List.Sublist.refl _) (by kernel_rfl)
    try replace hg20 := of_decide_eq_false hg20
    iterate 10 refine qs ?_
    refine qp (K.pick_f rfl) ?_
    refine qp (K.pick_f rfl) ?_
    first | refine K.seq_pure (K.not_d rfl) rfl ?_ | refine K.seq_pure (K.not_ rfl) rfl ?_
    refine zN ?_
    refine sn ?_
    refine K.cond rfl (fun ht33 => ?_) (fun ht33 => ?_)
    · try replace ht33 := of_decide_eq_true ht33
      refine sr ?_
      refine qa ?_
      refine sn ?_
      refine K.ret ?_
      refine K.ret_block ?_
      refine K.ret_then ?_
      refine K.ret_block ?_
      refine K.ret_then ?_
      refine K.end_ret (fun w _ => K.res_tmp rfl w) ?_
      first
        | exact absurd ht33 (by decide)
        | exact K.gives_b rfl (name_f2 hnx7 (ok_f (by rcases dec_key (s := s) (p := p) with ⟨hk1, hk2, hk3⟩ | ⟨hk1, hk2⟩ <;> omega))).symm
    try replace ht33 := of_decide_eq_false ht33
    refine K.skip ?_
    refine K.norm_block ?_
    have hc : okC p (K.bt s p) = true ∧ (Utf8.decode s p).2 = 1 := by
      first
        | exact absurd ht33 (by decide)
        | (rcases dec_key (s := s) (p := p) with ⟨hk1, hk2, hk3⟩ | ⟨hk1, hk2⟩ <;> first | exact ⟨ok_t (by omega), hk1⟩ | (exfalso; omega))
    exact K.round_endW (L'' := [K.sit b6 s (p + 1)]) [.int .i64 (p : Int)] ⟨p + 1, rfl, rfl, by omega, K.lt_succ_case hall hc.1⟩ (by show s.size - posN (.int .i64 (p : Int)) < s.size - posN (posV p); rw [posN_V]; simp [posN]; omega) (by rw [hc.2]; exact List.Sublist.refl _) (by kernel_rfl)
  refine K.seq_sil (K.nextS_over rfl hnx7 (K.m0)) rfl ?_
  refine zN ?_
  refine qx ?_
  refine sn ?_
  refine K.seq ?_
  refine K.cond_false rfl ?_
  refine K.exit ?_
  refine K.exit_then ?_
  refine K.exit_then ?_
  refine K.exit_here ?_
  refine K.norm_then ?_
  refine sr ?_
  refine qm ?_
  refine qp (K.Pure.eq (K.neq_s rfl rfl) (show _ = Value.bool (decide (1 ≤ s.size)) from by rw [size_ne])) ?_
  refine qm ?_
  refine K.split 36 rfl (fun hg36 => ?_) (fun hg36 => ?_)
  · try replace hg36 := of_decide_eq_true hg36
    refine qm ?_
    refine qp (K.len_s sT_9 rfl) ?_
    refine qp (K.leq rfl rfl) ?_
    refine qp (K.pick_t rfl) ?_
    refine qa ?_
    refine sn ?_
    refine K.ret ?_
    refine K.end_ret (fun w _ => K.res_tmp rfl w) ?_
    exact K.gives_b rfl (name_end hg36 hnx7 hall)
  try replace hg36 := of_decide_eq_false hg36
  iterate 3 refine qs ?_
  refine qp (K.pick_f rfl) ?_
  refine qa ?_
  refine sn ?_
  refine K.ret ?_
  refine K.end_ret (fun w _ => K.res_tmp rfl w) ?_
  exact K.gives_b rfl (name_end0 hg36)

end Go.Proofs.YtoemnobfnnjopaaDoor
end
section
set_option linter.unusedSimpArgs false
set_option linter.unusedVariables false
namespace Go.Proofs.YtoemnobfnnjopaaDoor
open Go.RowKit Go
open Go.K (setd setn ev nth over cl eI eP eT setM setF)
attribute [local irreducible] K.blk K.row
def eB (s : ByteArray) : List Value := [.string s]
theorem bs62 (s : ByteArray) : K.Bs Tryd.prog 62 1 [(0, .string s)] 9 [.string s] := fun w => by kernel_rfl

set_option maxRecDepth 100000 in
theorem c82 {s : ByteArray} (w : World) :
    Calls Tryd.prog 82 [.string s].toArray w (K.Gives (.bool (nameB s)) w) := by
  refine K.enter (args := [.string s]) Tryd.func82 rfl (n := 51) rfl ?_
  simp only [List.replicate, List.cons_append, List.nil_append]
  refine sr ?_
  refine qa ?_
  refine sn ?_
  refine K.seq ?_
  refine sr ?_
  refine qm ?_
  refine qp (K.len_s sT_9 rfl) ?_
  refine K.seq_call (K.call_g cal_96 (fun F w hF hw => c96 w)) rfl ?_
  refine zN ?_
  refine qp (K.not_d rfl) ?_
  refine qm ?_
  refine K.split 8 rfl (fun hg8 => ?_) (fun hg8 => ?_)
  · try replace hg8 := of_decide_eq_true hg8
    iterate 3 refine qs ?_
    refine qp (K.pick_t rfl) ?_
    refine qm ?_
    iterate 3 refine qs ?_
    refine qp (K.pick_t rfl) ?_
    refine sn ?_
    refine K.cond_true rfl ?_
    refine sr ?_
    refine qa ?_
    refine sn ?_
    refine K.ret ?_
    refine K.ret_then ?_
    refine K.end_ret (fun w _ => K.res_tmp rfl w) ?_
    first
      | exact absurd ht17 (by decide)
      | exact K.gives_b rfl (name_f1 (by omega)).symm
      | exact K.gives_b rfl (name_f2 (i := 0) (by omega) (ok_f (by omega))).symm
  try replace hg8 := of_decide_eq_false hg8
  refine qm ?_
  refine K.seq_pure (K.index_s (m := 0) sT_9 rfl rfl rfl (by omega)) rfl ?_
  refine zN ?_
  refine qp (K.lss rfl rfl) ?_
  refine qp (K.pick_f rfl) ?_
  refine qm ?_
  refine K.split 13 rfl (fun hg13 => ?_) (fun hg13 => ?_)
  · try replace hg13 := of_decide_eq_true hg13
    iterate 3 refine qs ?_
    refine qp (K.pick_t rfl) ?_
    refine sn ?_
    refine K.cond_true rfl ?_
    refine sr ?_
    refine qa ?_
    refine sn ?_
    refine K.ret ?_
    refine K.ret_then ?_
    refine K.end_ret (fun w _ => K.res_tmp rfl w) ?_
    first
      | exact absurd ht17 (by decide)
      | exact K.gives_b rfl (name_f1 (by omega)).symm
      | exact K.gives_b rfl (name_f2 (i := 0) (by omega) (ok_f (by omega))).symm
  try replace hg13 := of_decide_eq_false hg13
  refine qm ?_
  refine K.seq_pure (K.index_s (m := 0) sT_9 rfl rfl rfl (by omega)) rfl ?_
  refine zN ?_
  refine qp (K.gtr rfl rfl) ?_
  refine qp (K.pick_f rfl) ?_
  refine sn ?_
  refine K.cond rfl (fun ht17 => ?_) (fun ht17 => ?_)
  · try replace ht17 := of_decide_eq_true ht17
    refine sr ?_
    refine qa ?_
    refine sn ?_
    refine K.ret ?_
    refine K.ret_then ?_
    refine K.end_ret (fun w _ => K.res_tmp rfl w) ?_
    first
      | exact absurd ht17 (by decide)
      | exact K.gives_b rfl (name_f1 (by omega)).symm
      | exact K.gives_b rfl (name_f2 (i := 0) (by omega) (ok_f (by omega))).symm
  try replace ht17 := of_decide_eq_false ht17
  refine K.skip ?_
  refine K.norm_then ?_
  refine K.seq ?_
  refine sr ?_
  refine qa ?_
  refine sn ?_
  refine K.block ?_
  refine K.loopW [3] [2, 18, 19, 20, 21, 22, 23, 24, 25, 26, 27, 28, 29, 30, 31, 32, 33, 34, 35, 36, 37, 38, 39, 40, 41, 42, 43, 44, 45, 46, 47, 48, 49, 50, 51] (fun vi L => ∃ i : Nat, vi = [.int .i64 (i : Int)] ∧ L = [] ∧ i ≤ s.size ∧ ∀ j, j < i → okC j (K.bt s j) = true) (fun vi => s.size - (intOf (K.nth vi 0)).toNat) ?_ ?_
  · exact ⟨0, rfl, rfl, Nat.zero_le _, fun j hj => absurd hj (Nat.not_lt_zero j)⟩
  intro vi vr L hJ
  obtain ⟨i, rfl, rfl, hil, hall⟩ := hJ
  try dsimp only [setd, setn, ev, nth, over, cl, eI, eP, eT, eR, setM, setF, List.map, List.append, List.drop, List.take]
  refine K.seq ?_
  refine sr ?_
  iterate 2 refine qm ?_
  refine qp (K.len_s sT_9 rfl) ?_
  refine qp (K.lss rfl rfl) ?_
  refine sn ?_
  refine K.cond rfl (fun ht21 => ?_) (fun ht21 => ?_)
  · try replace ht21 := of_decide_eq_true ht21
    have hi : i < s.size := by omega
    refine K.skip ?_
    refine K.norm_then ?_
    refine K.seq ?_
    refine K.block ?_
    refine sr ?_
    iterate 2 refine qm ?_
    refine K.seq_pure (K.index_s (m := _) sT_9 rfl rfl rfl (by omega)) rfl ?_
    refine zN ?_
    refine qp (K.lss rfl rfl) ?_
    refine qm ?_
    refine K.split 28 rfl (fun hg28 => ?_) (fun hg28 => ?_)
    · try replace hg28 := of_decide_eq_true hg28
      iterate 4 refine qs ?_
      refine qp (K.pick_t rfl) ?_
      iterate 3 refine qm ?_
      refine K.seq_pure (K.index_s (m := _) sT_9 rfl rfl rfl (by omega)) rfl ?_
      refine zN ?_
      refine qp (K.lss rfl rfl) ?_
      refine qm ?_
      refine K.split 39 rfl (fun hg39 => ?_) (fun hg39 => ?_)
      · try replace hg39 := of_decide_eq_true hg39
        iterate 4 refine qs ?_
        refine qp (K.pick_t rfl) ?_
        refine qp (K.pick_t rfl) ?_
        iterate 3 refine qm ?_
        refine K.seq_pure (K.index_s (m := _) sT_9 rfl rfl rfl (by omega)) rfl ?_
        refine zN ?_
        refine qp (K.neq rfl rfl) ?_
        refine qp (K.pick_t rfl) ?_
        refine sn ?_
        refine K.cond rfl (fun ht51 => ?_) (fun ht51 => ?_)
        · try replace ht51 := of_decide_eq_true ht51
          refine sr ?_
          refine qa ?_
          refine sn ?_
          refine K.ret ?_
          refine K.ret_block ?_
          refine K.ret_then ?_
          refine K.ret_then ?_
          refine K.ret_block ?_
          refine K.ret_then ?_
          refine K.end_ret (fun w _ => K.res_tmp rfl w) ?_
          first
            | exact absurd ht51 (by decide)
            | exact K.gives_b rfl (name_f2 hi (ok_f (by omega))).symm
        try replace ht51 := of_decide_eq_false ht51
        refine K.skip ?_
        refine K.norm_block ?_
        refine K.norm_then ?_
        refine K.region_lit ?_
        refine qm ?_
        refine qp (K.add_i64 rfl rfl (by omega)) ?_
        refine qa ?_
        refine K.seq_nil ?_
        have hc : okC i (K.bt s i) = true := by
          first
            | exact absurd ht51 (by decide)
            | (rcases Nat.eq_zero_or_pos i with h0 | h0 <;> first | exact ok_t (by omega) | (subst h0; exact ok_t (by omega)))
        exact K.round_endW (L'' := []) [.int .i64 ((i : Int) + 1)] ⟨i + 1, rfl, rfl, by omega, K.lt_succ_case hall hc⟩ (by simp [K.nth, intOf]; omega) (List.Sublist.refl _) (by kernel_rfl)
      try replace hg39 := of_decide_eq_false hg39
      iterate 2 refine qm ?_
      refine K.seq_pure (K.index_s (m := _) sT_9 rfl rfl rfl (by omega)) rfl ?_
      refine zN ?_
      refine qp (K.gtr rfl rfl) ?_
      refine qp (K.pick_f rfl) ?_
      refine qp (K.pick_t rfl) ?_
      refine qm ?_
      refine K.split 46 rfl (fun hg46 => ?_) (fun hg46 => ?_)
      · try replace hg46 := of_decide_eq_true hg46
        iterate 2 refine qm ?_
        refine K.seq_pure (K.index_s (m := _) sT_9 rfl rfl rfl (by omega)) rfl ?_
        refine zN ?_
        refine qp (K.neq rfl rfl) ?_
        refine qp (K.pick_t rfl) ?_
        refine sn ?_
        refine K.cond rfl (fun ht51 => ?_) (fun ht51 => ?_)
        · try replace ht51 := of_decide_eq_true ht51
          refine sr ?_
          refine qa ?_
          refine sn ?_
          refine K.ret ?_
          refine K.ret_block ?_
          refine K.ret_then ?_
          refine K.ret_then ?_
          refine K.ret_block ?_
          refine K.ret_then ?_
          refine K.end_ret (fun w _ => K.res_tmp rfl w) ?_
          first
            | exact absurd ht51 (by decide)
            | exact K.gives_b rfl (name_f2 hi (ok_f (by omega))).symm
        try replace ht51 := of_decide_eq_false ht51
        refine K.skip ?_
        refine K.norm_block ?_
        refine K.norm_then ?_
        refine K.region_lit ?_
        refine qm ?_
        refine qp (K.add_i64 rfl rfl (by omega)) ?_
        refine qa ?_
        refine K.seq_nil ?_
        have hc : okC i (K.bt s i) = true := by
          first
            | exact absurd ht51 (by decide)
            | (rcases Nat.eq_zero_or_pos i with h0 | h0 <;> first | exact ok_t (by omega) | (subst h0; exact ok_t (by omega)))
        exact K.round_endW (L'' := []) [.int .i64 ((i : Int) + 1)] ⟨i + 1, rfl, rfl, by omega, K.lt_succ_case hall hc⟩ (by simp [K.nth, intOf]; omega) (List.Sublist.refl _) (by kernel_rfl)
      try replace hg46 := of_decide_eq_false hg46
      iterate 4 refine qs ?_
      refine qp (K.pick_f rfl) ?_
      refine sn ?_
      refine K.cond_false rfl ?_
      refine K.skip ?_
      refine K.norm_block ?_
      refine K.norm_then ?_
      refine K.region_lit ?_
      refine qm ?_
      refine qp (K.add_i64 rfl rfl (by omega)) ?_
      refine qa ?_
      refine K.seq_nil ?_
      have hc : okC i (K.bt s i) = true := by
        first
          | exact absurd ht51 (by decide)
          | (rcases Nat.eq_zero_or_pos i with h0 | h0 <;> first | exact ok_t (by omega) | (subst h0; exact ok_t (by omega)))
      exact K.round_endW (L'' := []) [.int .i64 ((i : Int) + 1)] ⟨i + 1, rfl, rfl, by omega, K.lt_succ_case hall hc⟩ (by simp [K.nth, intOf]; omega) (List.Sublist.refl _) (by kernel_rfl)
    try replace hg28 := of_decide_eq_false hg28
    iterate 2 refine qm ?_
    refine K.seq_pure (K.index_s (m := _) sT_9 rfl rfl rfl (by omega)) rfl ?_
    refine zN ?_
    refine qp (K.gtr rfl rfl) ?_
    refine qp (K.pick_f rfl) ?_
    refine qm ?_
    refine K.split 34 rfl (fun hg34 => ?_) (fun hg34 => ?_)
    · try replace hg34 := of_decide_eq_true hg34
      iterate 2 refine qm ?_
      refine K.seq_pure (K.index_s (m := _) sT_9 rfl rfl rfl (by omega)) rfl ?_
      refine zN ?_
      refine qp (K.lss rfl rfl) ?_
      refine qm ?_
      refine K.split 39 rfl (fun hg39 => ?_) (fun hg39 => ?_)
      · try replace hg39 := of_decide_eq_true hg39
        iterate 4 refine qs ?_
        refine qp (K.pick_t rfl) ?_
        refine qp (K.pick_t rfl) ?_
        iterate 3 refine qm ?_
        refine K.seq_pure (K.index_s (m := _) sT_9 rfl rfl rfl (by omega)) rfl ?_
        refine zN ?_
        refine qp (K.neq rfl rfl) ?_
        refine qp (K.pick_t rfl) ?_
        refine sn ?_
        refine K.cond rfl (fun ht51 => ?_) (fun ht51 => ?_)
        · try replace ht51 := of_decide_eq_true ht51
          refine sr ?_
          refine qa ?_
          refine sn ?_
          refine K.ret ?_
          refine K.ret_block ?_
          refine K.ret_then ?_
          refine K.ret_then ?_
          refine K.ret_block ?_
          refine K.ret_then ?_
          refine K.end_ret (fun w _ => K.res_tmp rfl w) ?_
          first
            | exact absurd ht51 (by decide)
            | exact K.gives_b rfl (name_f2 hi (ok_f (by omega))).symm
        try replace ht51 := of_decide_eq_false ht51
        refine K.skip ?_
        refine K.norm_block ?_
        refine K.norm_then ?_
        refine K.region_lit ?_
        refine qm ?_
        refine qp (K.add_i64 rfl rfl (by omega)) ?_
        refine qa ?_
        refine K.seq_nil ?_
        have hc : okC i (K.bt s i) = true := by
          first
            | exact absurd ht51 (by decide)
            | (rcases Nat.eq_zero_or_pos i with h0 | h0 <;> first | exact ok_t (by omega) | (subst h0; exact ok_t (by omega)))
        exact K.round_endW (L'' := []) [.int .i64 ((i : Int) + 1)] ⟨i + 1, rfl, rfl, by omega, K.lt_succ_case hall hc⟩ (by simp [K.nth, intOf]; omega) (List.Sublist.refl _) (by kernel_rfl)
      try replace hg39 := of_decide_eq_false hg39
      iterate 2 refine qm ?_
      refine K.seq_pure (K.index_s (m := _) sT_9 rfl rfl rfl (by omega)) rfl ?_
      refine zN ?_
      refine qp (K.gtr rfl rfl) ?_
      refine qp (K.pick_f rfl) ?_
      refine qp (K.pick_t rfl) ?_
      refine qm ?_
      refine K.split 46 rfl (fun hg46 => ?_) (fun hg46 => ?_)
      · try replace hg46 := of_decide_eq_true hg46
        iterate 2 refine qm ?_
        refine K.seq_pure (K.index_s (m := _) sT_9 rfl rfl rfl (by omega)) rfl ?_
        refine zN ?_
        refine qp (K.neq rfl rfl) ?_
        refine qp (K.pick_t rfl) ?_
        refine sn ?_
        refine K.cond rfl (fun ht51 => ?_) (fun ht51 => ?_)
        · try replace ht51 := of_decide_eq_true ht51
          refine sr ?_
          refine qa ?_
          refine sn ?_
          refine K.ret ?_
          refine K.ret_block ?_
          refine K.ret_then ?_
          refine K.ret_then ?_
          refine K.ret_block ?_
          refine K.ret_then ?_
          refine K.end_ret (fun w _ => K.res_tmp rfl w) ?_
          first
            | exact absurd ht51 (by decide)
            | exact K.gives_b rfl (name_f2 hi (ok_f (by omega))).symm
        try replace ht51 := of_decide_eq_false ht51
        refine K.skip ?_
        refine K.norm_block ?_
        refine K.norm_then ?_
        refine K.region_lit ?_
        refine qm ?_
        refine qp (K.add_i64 rfl rfl (by omega)) ?_
        refine qa ?_
        refine K.seq_nil ?_
        have hc : okC i (K.bt s i) = true := by
          first
            | exact absurd ht51 (by decide)
            | (rcases Nat.eq_zero_or_pos i with h0 | h0 <;> first | exact ok_t (by omega) | (subst h0; exact ok_t (by omega)))
        exact K.round_endW (L'' := []) [.int .i64 ((i : Int) + 1)] ⟨i + 1, rfl, rfl, by omega, K.lt_succ_case hall hc⟩ (by simp [K.nth, intOf]; omega) (List.Sublist.refl _) (by kernel_rfl)
      try replace hg46 := of_decide_eq_false hg46
      iterate 4 refine qs ?_
      refine qp (K.pick_f rfl) ?_
      refine sn ?_
      refine K.cond_false rfl ?_
      refine K.skip ?_
      refine K.norm_block ?_
      refine K.norm_then ?_
      refine K.region_lit ?_
      refine qm ?_
      refine qp (K.add_i64 rfl rfl (by omega)) ?_
      refine qa ?_
      refine K.seq_nil ?_
      have hc : okC i (K.bt s i) = true := by
        first
          | exact absurd ht51 (by decide)
          | (rcases Nat.eq_zero_or_pos i with h0 | h0 <;> first | exact ok_t (by omega) | (subst h0; exact ok_t (by omega)))
      exact K.round_endW (L'' := []) [.int .i64 ((i : Int) + 1)] ⟨i + 1, rfl, rfl, by omega, K.lt_succ_case hall hc⟩ (by simp [K.nth, intOf]; omega) (List.Sublist.refl _) (by kernel_rfl)
    try replace hg34 := of_decide_eq_false hg34
    iterate 10 refine qs ?_
    refine qp (K.pick_f rfl) ?_
    refine qm ?_
    iterate 4 refine qs ?_
    refine qp (K.pick_f rfl) ?_
    refine sn ?_
    refine K.cond_false rfl ?_
    refine K.skip ?_
    refine K.norm_block ?_
    refine K.norm_then ?_
    refine K.region_lit ?_
    refine qm ?_
    refine qp (K.add_i64 rfl rfl (by omega)) ?_
    refine qa ?_
    refine K.seq_nil ?_
    have hc : okC i (K.bt s i) = true := by
      first
        | exact absurd ht51 (by decide)
        | (rcases Nat.eq_zero_or_pos i with h0 | h0 <;> first | exact ok_t (by omega) | (subst h0; exact ok_t (by omega)))
    exact K.round_endW (L'' := []) [.int .i64 ((i : Int) + 1)] ⟨i + 1, rfl, rfl, by omega, K.lt_succ_case hall hc⟩ (by simp [K.nth, intOf]; omega) (List.Sublist.refl _) (by kernel_rfl)
  try replace ht21 := of_decide_eq_false ht21
  refine K.exit ?_
  refine K.exit_then ?_
  refine K.exit_then ?_
  refine K.exit_here ?_
  refine K.norm_then ?_
  refine sr ?_
  refine qa ?_
  refine sn ?_
  refine K.ret ?_
  refine K.end_ret (fun w _ => K.res_tmp rfl w) ?_
  exact K.gives_b rfl (name_t (by omega) (fun i hi => hall i (by omega))).symm

set_option maxRecDepth 100000 in
theorem c83 {A : Option Addr} {c : Nat} {l : List ByteArray} {s : ByteArray} {w : World} (hX : K.Rd w A 1 eB l) (hn : l.length ≤ 4611686018427387904) :
    Calls Tryd.prog 83 [.slice A l.length c, .string s].toArray w (K.Gives (.int .i64 (K.idx (fun q => nmEq q s) l)) w) := by
  refine K.enter (args := [.slice A l.length c, .string s]) Tryd.func83 rfl (n := 17) rfl ?_
  simp only [List.replicate, List.cons_append, List.nil_append]
  refine sr ?_
  refine qa ?_
  refine sn ?_
  refine K.seq ?_
  refine sr ?_
  refine qa ?_
  refine sn ?_
  refine K.block ?_
  refine K.loopW [5] [4, 6, 7, 8, 9, 10, 11, 12, 13, 14, 15, 16, 17, 18] (fun vi L => ∃ k : Nat, vi = [.int .i64 (k : Int)] ∧ L = [] ∧ k ≤ l.length ∧ ∀ j, j < k → (fun q => nmEq q s) (l.getD j default) = false) (fun vi => l.length - (intOf (K.nth vi 0)).toNat) ?_ ?_
  · exact ⟨0, rfl, rfl, Nat.zero_le _, fun j hj => absurd hj (Nat.not_lt_zero j)⟩
  intro vi vr L hJ
  obtain ⟨k, rfl, rfl, hkn, hall⟩ := hJ
  try dsimp only [setd, setn, ev, nth, over, cl, eI, eP, eT, eR, setM, setF, List.map, List.append, List.drop, List.take]
  refine K.seq ?_
  refine sr ?_
  iterate 2 refine qm ?_
  refine qp (K.len_sl sl_62 rfl) ?_
  refine qp (K.lss rfl rfl) ?_
  refine sn ?_
  refine K.cond rfl (fun ht9 => ?_) (fun ht9 => ?_)
  · try replace ht9 := of_decide_eq_true ht9
    have hk : k < l.length := by omega
    refine K.skip ?_
    refine K.norm_then ?_
    refine K.seq ?_
    refine K.block ?_
    refine sr ?_
    iterate 2 refine qm ?_
    refine K.seq_ix (M := []) _ hX.sl sl_62 rfl rfl rfl (by omega) rfl ?_
    intro p14 hp14
    refine zN ?_
    refine K.seq_sil (K.load1 one_9 rfl (hp14.any)) rfl ?_
    refine zN ?_
    refine qm ?_
    refine qp (K.eql_s rfl rfl) ?_
    refine sn ?_
    refine K.cond rfl (fun ht17 => ?_) (fun ht17 => ?_)
    · try replace ht17 := of_decide_eq_true ht17
      refine sr ?_
      refine qm ?_
      refine qa ?_
      refine sn ?_
      refine K.ret ?_
      refine K.ret_block ?_
      refine K.ret_then ?_
      refine K.ret_then ?_
      refine K.ret_block ?_
      refine K.ret_then ?_
      refine K.end_ret (fun w _ => K.res_tmp rfl w) ?_
      exact K.gives_i rfl (K.idx_found (p := fun q => nmEq q s) hk hall ht17).symm
    try replace ht17 := of_decide_eq_false ht17
    refine K.skip ?_
    refine K.norm_block ?_
    refine K.norm_then ?_
    refine K.region_lit ?_
    refine qm ?_
    refine qp (K.add_i64 rfl rfl (by omega)) ?_
    refine qa ?_
    refine K.seq_nil ?_
    exact K.round_endW [.int .i64 ((k : Int) + 1)] ⟨k + 1, rfl, rfl, by omega, K.lt_succ_case hall ht17⟩ (by simp [K.nth, intOf]; omega) (List.Sublist.refl _) (by kernel_rfl)
  try replace ht9 := of_decide_eq_false ht9
  refine K.exit ?_
  refine K.exit_then ?_
  refine K.exit_then ?_
  refine K.exit_here ?_
  refine K.norm_then ?_
  refine sr ?_
  refine qa ?_
  refine sn ?_
  refine K.ret ?_
  refine K.end_ret (fun w _ => K.res_tmp rfl w) ?_
  exact K.gives_i rfl (K.idx_none (fun j hj => hall j (by omega))).symm

set_option maxRecDepth 100000 in
theorem c50 {A : Option Addr} {c : Nat} {l : List ByteArray} {s : ByteArray} {w : World} (hX : K.Rd w A 1 eB l) (hn : l.length ≤ 4611686018427387904) :
    Calls Tryd.prog 50 [.string s, .slice A l.length c].toArray w (K.Gives (.int .i64 (freshE s l)) w) := by
  refine K.enter (args := [.string s, .slice A l.length c]) Tryd.func50 rfl (n := 10) rfl ?_
  simp only [List.replicate, List.cons_append, List.nil_append]
  refine sr ?_
  refine qa ?_
  refine sn ?_
  refine K.seq ?_
  refine sr ?_
  refine qm ?_
  refine K.seq_call (K.call_g cal_82 (fun F w hF hw => c82 w)) rfl ?_
  refine zN ?_
  first | refine K.seq_pure (K.not_d rfl) rfl ?_ | refine K.seq_pure (K.not_ rfl) rfl ?_
  refine zN ?_
  refine sn ?_
  refine K.cond rfl (fun ht7 => ?_) (fun ht7 => ?_)
  · try replace ht7 := of_decide_eq_true ht7
    refine sr ?_
    refine qa ?_
    refine sn ?_
    refine K.ret ?_
    refine K.ret_then ?_
    refine K.end_ret (fun w _ => K.res_tmp rfl w) ?_
    exact K.gives_i rfl (by unfold freshE; rw [if_pos (by simpa using ht7)])
  try replace ht7 := of_decide_eq_false ht7
  refine K.skip ?_
  refine K.norm_then ?_
  refine K.seq ?_
  refine sr ?_
  iterate 2 refine qm ?_
  refine K.seq_call (K.call_g cal_83 (fun F w hF hw => c83 (hX.pass hw) hn)) rfl ?_
  refine zN ?_
  refine qp (K.Pure.eq (K.geq rfl rfl) (show _ = Value.bool (l.any fun q => nmEq q s) from by rw [K.idx_ge])) ?_
  refine sn ?_
  refine K.cond rfl (fun ht11 => ?_) (fun ht11 => ?_)
  · try replace ht11 := of_decide_eq_true ht11
    refine sr ?_
    refine qa ?_
    refine sn ?_
    refine K.ret ?_
    refine K.ret_then ?_
    refine K.end_ret (fun w _ => K.res_tmp rfl w) ?_
    exact K.gives_i rfl (by unfold freshE; rw [if_neg (by simpa using ht7), if_pos ht11])
  try replace ht11 := of_decide_eq_false ht11
  refine K.skip ?_
  refine K.norm_then ?_
  refine sr ?_
  refine qa ?_
  refine sn ?_
  refine K.ret ?_
  refine K.end_ret (fun w _ => K.res_tmp rfl w) ?_
  exact K.gives_i rfl (by unfold freshE; rw [if_neg (by simpa using ht7), if_neg (by simpa using ht11)])

end Go.Proofs.YtoemnobfnnjopaaDoor
end
section
set_option linter.unusedSimpArgs false
set_option linter.unusedVariables false
namespace Go.Proofs.YtoemnobfnnjopaaDoor
open Go.RowKit Go
open Go.K (setd setn ev nth over cl eI eP eT setM setF)
attribute [local irreducible] K.blk K.row
theorem laidOut : laidOutB Tryd.prog = true := by kernel_rfl
theorem ulN : Tryd.prog.underlying 59 = some (.map 9 3) := by kernel_rfl
set_option maxRecDepth 100000 in
theorem mapN : K.MapT Tryd.prog 59 9 := ⟨⟨3, ulN, fun w => by kernel_rfl⟩, WideMaps.string_law Tryd.underlying9⟩
theorem keyN {s : ByteArray} (h : s.size ≤ 16) : ∃ q, keyOf Tryd.prog 9 (.string s) = some q := ⟨_, WideMaps.keyOf_string_mk Tryd.underlying9 (by unfold maxLen; omega)⟩
theorem keyNs {r : List RvT} {k : Nat} (hk : k ≤ r.length) (hall : ∀ j, j < k → rvE r j = 0) : ∀ p ∈ kvS r k, ∃ q, keyOf Tryd.prog 9 p.1 = some q := fun p hp => by
  obtain ⟨s, rfl, hs⟩ := kv_nm hk hall hp
  exact keyN hs
theorem keyPut {kvs kvs' : List (Value × Int)} {key : Value} {v : Int} (hk : ∃ q, keyOf Tryd.prog 9 key = some q) (hks : ∀ p ∈ kvs, ∃ q, keyOf Tryd.prog 9 p.1 = some q) (h : K.PutQ kvs key v kvs') : ∀ p ∈ kvs', ∃ q, keyOf Tryd.prog 9 p.1 = some q := fun p hp => by
  rcases h with ⟨_, rfl⟩ | ⟨j, n, _, rfl⟩
  · rcases List.mem_append.1 hp with h | h
    · exact hks p h
    · simp at h; subst h; exact hk
  · rcases List.mem_or_eq_of_mem_set hp with h | h
    · exact hks p h
    · subst h; exact hk

theorem kv_bd {r : List RvT} {k : Nat} : ∀ p ∈ kvS r k, 1 ≤ p.2 ∧ p.2 ≤ 1000 := fun p hp => by
  obtain ⟨q, _, rfl⟩ := kv_at hp
  exact ⟨show (1 : Int) ≤ 1 by decide, show (1 : Int) ≤ 1000 by decide⟩

set_option maxRecDepth 100000 in
theorem c47 {s : ByteArray} {kvs : List (Value × Int)} {b : Nat} {T : List K.Chunk} {w0 w : World} (hst : K.St w0 (K.mq b none kvs :: T) w) (hko : ∀ p ∈ kvs, ∃ q, keyOf Tryd.prog 9 p.1 = some q) (hs : s.size ≤ 16) (hv : ∀ p ∈ kvs, 1 ≤ p.2 ∧ p.2 ≤ 1000) (hd : (kvs.map (·.1)).Nodup) :
    Calls Tryd.prog 47 [.map (some b), .string s].toArray w (K.RetU (MetOk kvs s) (fun p => .int .i64 p.1) w0 (fun p => K.mq b none p.2 :: T)) := by
  refine K.enterU (args := [.map (some b), .string s]) Tryd.func47 rfl (n := 10) rfl hst ?_
  simp only [List.replicate, List.cons_append, List.nil_append]
  refine sr ?_
  refine qa ?_
  refine sn ?_
  refine sr ?_
  iterate 2 refine qm ?_
  refine K.seq_loud (K.lookup_mq mapN rfl rfl (K.m0) (keyN hs) hko) rfl ?_
  rintro n7 hn7
  refine zN ?_
  have hb7 : 0 ≤ n7 ∧ n7 ≤ 1000 := by
    rcases hn7 with h | h
    · omega
    · have := hv _ h; simp only at this; omega
  refine zN ?_
  refine qp (K.add_i64 rfl rfl (by omega)) ?_
  refine K.seq_upd (K.mapUpdate_mq mapN rfl rfl rfl (keyN hs) hko (fun _ => K.rp0)) rfl ?_
  rintro kvs4 hput4
  refine zN ?_
  refine sn ?_
  refine sr ?_
  iterate 2 refine qm ?_
  refine K.seq_loud (K.lookup_mq mapN rfl rfl (K.m0) (keyN hs) (keyPut (keyN hs) hko hput4)) rfl ?_
  rintro n11 hn11
  refine zN ?_
  refine qa ?_
  refine sn ?_
  refine K.ret ?_
  refine K.end_ret (fun w _ => K.res_tmp rfl w) ?_
  exact K.retsU (n11, kvs4) (met_ok (fun p hp => (hv p hp).1) hd hn7 hput4 hn11) rfl (List.Sublist.refl _)

set_option maxRecDepth 100000 in
theorem c51 {r : List RvT} {A : Option Addr} {c : Nat} {i : Nat} {w : World} (hR : K.Rd w A 4 eR r) (hn : r.length ≤ 4611686018427387904) (hi : i < r.length) :
    Calls Tryd.prog 51 [.slice A r.length c, .int .i64 (i : Int)].toArray w (K.Gives (.int .i64 (posE r.length i (r.getD i default))) w) := by
  refine K.enter (args := [.slice A r.length c, .int .i64 (i : Int)]) Tryd.func51 rfl (n := 39) rfl ?_
  simp only [List.replicate, List.cons_append, List.nil_append]
  refine sr ?_
  refine qa ?_
  refine sn ?_
  refine sr ?_
  iterate 2 refine qm ?_
  refine K.seq_ix (M := []) _ hR.sl sl_22 rfl rfl rfl (by omega) rfl ?_
  intro p8 hp8
  refine zN ?_
  refine K.seq_sil (K.loadA_p ag_44 rfl (hp8.any) rfl) rfl ?_
  refine zN ?_
  refine K.seq_new (K.alloc zr_44) rfl ?_
  intro b5
  refine zN ?_
  refine K.seq_st (K.store_all sz_44 rfl rfl rfl rfl (K.rp0)) rfl ?_
  refine zN ?_
  refine sn ?_
  refine K.seq ?_
  refine sr ?_
  refine qp (K.fieldAddr_lit fo_44_2 rfl) ?_
  refine K.seq_sil (K.load1_own one_3 rfl (K.m0) rfl) rfl ?_
  refine zN ?_
  refine K.seq_call (K.call_g cal_49 (fun F w hF hw => c49 w)) rfl ?_
  refine zN ?_
  first | refine K.seq_pure (K.not_d rfl) rfl ?_ | refine K.seq_pure (K.not_ rfl) rfl ?_
  refine zN ?_
  refine qm ?_
  refine K.split 14 rfl (fun hg14 => ?_) (fun hg14 => ?_)
  · try replace hg14 := of_decide_eq_true hg14
    iterate 4 refine qs ?_
    refine qp (K.pick_t rfl) ?_
    refine sn ?_
    refine K.cond_true rfl ?_
    refine sr ?_
    refine qa ?_
    refine sn ?_
    refine K.ret ?_
    refine K.ret_then ?_
    refine K.end_ret (fun w _ => K.res_tmp rfl w) ?_
    exact K.gives_i rfl (pos_7 (by omega)).symm
  try replace hg14 := of_decide_eq_false hg14
  refine qp (K.fieldAddr_lit fo_44_3 rfl) ?_
  refine K.seq_sil (K.load1_own one_3 rfl (K.m0) rfl) rfl ?_
  refine zN ?_
  refine K.seq_call (K.call_g cal_49 (fun F w hF hw => c49 w)) rfl ?_
  refine zN ?_
  first | refine K.seq_pure (K.not_d rfl) rfl ?_ | refine K.seq_pure (K.not_ rfl) rfl ?_
  refine zN ?_
  refine qp (K.pick_f rfl) ?_
  refine sn ?_
  refine K.cond rfl (fun ht19 => ?_) (fun ht19 => ?_)
  · try replace ht19 := of_decide_eq_true ht19
    refine sr ?_
    refine qa ?_
    refine sn ?_
    refine K.ret ?_
    refine K.ret_then ?_
    refine K.end_ret (fun w _ => K.res_tmp rfl w) ?_
    exact K.gives_i rfl (pos_7 (by omega)).symm
  try replace ht19 := of_decide_eq_false ht19
  refine K.skip ?_
  refine K.norm_then ?_
  refine K.seq ?_
  refine sr ?_
  refine qp (K.fieldAddr_lit fo_44_1 rfl) ?_
  refine K.seq_sil (K.load1_own one_3 rfl (K.m0) rfl) rfl ?_
  refine zN ?_
  refine qm ?_
  refine qp (K.len_sl sl_22 rfl) ?_
  refine qp (K.sub_i64 rfl rfl (by omega)) ?_
  refine K.seq_call (K.call_g cal_49 (fun F w hF hw => c49 w)) rfl ?_
  refine zN ?_
  first | refine K.seq_pure (K.not_d rfl) rfl ?_ | refine K.seq_pure (K.not_ rfl) rfl ?_
  refine zN ?_
  refine sn ?_
  refine K.cond rfl (fun ht26 => ?_) (fun ht26 => ?_)
  · try replace ht26 := of_decide_eq_true ht26
    refine sr ?_
    refine qa ?_
    refine sn ?_
    refine K.ret ?_
    refine K.ret_then ?_
    refine K.end_ret (fun w _ => K.res_tmp rfl w) ?_
    exact K.gives_i rfl (pos_4 (by omega) (by omega)).symm
  try replace ht26 := of_decide_eq_false ht26
  refine K.skip ?_
  refine K.norm_then ?_
  refine K.seq ?_
  refine sr ?_
  refine qp (K.fieldAddr_lit fo_44_1 rfl) ?_
  refine K.seq_sil (K.load1_own one_3 rfl (K.m0) rfl) rfl ?_
  refine zN ?_
  refine qm ?_
  refine qp (K.eql rfl rfl) ?_
  refine qm ?_
  refine K.split 31 rfl (fun hg31 => ?_) (fun hg31 => ?_)
  · try replace hg31 := of_decide_eq_true hg31
    iterate 8 refine qs ?_
    refine qp (K.pick_t rfl) ?_
    refine sn ?_
    refine K.cond_true rfl ?_
    refine sr ?_
    refine qa ?_
    refine sn ?_
    refine K.ret ?_
    refine K.ret_then ?_
    refine K.end_ret (fun w _ => K.res_tmp rfl w) ?_
    exact K.gives_i rfl (pos_2 (by omega) (by omega) (by omega)).symm
  try replace hg31 := of_decide_eq_false hg31
  refine qp (K.fieldAddr_lit fo_44_1 rfl) ?_
  refine K.seq_sil (K.load1_own one_3 rfl (K.m0) rfl) rfl ?_
  refine zN ?_
  refine qp (K.eql rfl rfl) ?_
  refine qm ?_
  refine K.split 35 rfl (fun hg35 => ?_) (fun hg35 => ?_)
  · try replace hg35 := of_decide_eq_true hg35
    refine qp (K.fieldAddr_lit fo_44_2 rfl) ?_
    refine K.seq_sil (K.load1_own one_3 rfl (K.m0) rfl) rfl ?_
    refine zN ?_
    refine qp (K.neq rfl rfl) ?_
    refine qp (K.pick_t rfl) ?_
    refine qp (K.pick_f rfl) ?_
    refine sn ?_
    refine K.cond rfl (fun ht40 => ?_) (fun ht40 => ?_)
    · try replace ht40 := of_decide_eq_true ht40
      refine sr ?_
      refine qa ?_
      refine sn ?_
      refine K.ret ?_
      refine K.ret_then ?_
      refine K.end_ret (fun w _ => K.res_tmp rfl w) ?_
      exact K.gives_i rfl (pos_2 (by omega) (by omega) (by omega)).symm
    try replace ht40 := of_decide_eq_false ht40
    refine K.skip ?_
    refine K.norm_then ?_
    refine sr ?_
    refine qa ?_
    refine sn ?_
    refine K.ret ?_
    refine K.end_ret (fun w _ => K.res_tmp rfl w) ?_
    exact K.gives_i rfl (pos_0 (by omega) (by omega) (by omega)).symm
  try replace hg35 := of_decide_eq_false hg35
  iterate 3 refine qs ?_
  refine qp (K.pick_f rfl) ?_
  refine qp (K.pick_f rfl) ?_
  refine sn ?_
  refine K.cond_false rfl ?_
  refine K.skip ?_
  refine K.norm_then ?_
  refine sr ?_
  refine qa ?_
  refine sn ?_
  refine K.ret ?_
  refine K.end_ret (fun w _ => K.res_tmp rfl w) ?_
  exact K.gives_i rfl (pos_0 (by omega) (by omega) (by omega)).symm

theorem mou_g {z : List Nat} {k : Nat} (h : z.length ≠ 1) : (z ++ [k]).getD 1 0 = z.getD 1 0 := by
  match z, h with
  | [], _ => rfl
  | [_], h => exact absurd rfl h
  | _ :: _ :: _, _ => rfl


set_option maxRecDepth 100000 in
set_option maxHeartbeats 1000000 in
theorem c14 {r : List RvT} {A : Option Addr} {c : Nat} {w : World} (hR : K.Rd w A 4 eR r) (hn : r.length ≤ 4611686018427387904) :
    Calls Tryd.prog 14 [.slice A r.length c].toArray w (K.Gives (K.tup3 (chk r)) w) := by
  refine K.enter (args := [.slice A r.length c]) Tryd.func14 rfl (n := 120) rfl ?_
  simp only [List.replicate, List.cons_append, List.nil_append]
  refine sr ?_
  iterate 3 refine qa ?_
  refine sn ?_
  refine K.seq ?_
  refine sr ?_
  refine qm ?_
  refine qp (K.len_sl sl_22 rfl) ?_
  refine K.seq_new (K.buildSlice (bs1 _)) rfl ?_
  intro b14
  refine zN ?_
  refine K.seq_call (K.call_g cal_46 (fun F w hF hw => c46_1 hw (hF _ (K.m0)))) rfl ?_
  refine zN ?_
  refine sn ?_
  refine K.cond rfl (fun ht15 => ?_) (fun ht15 => ?_)
  · try replace ht15 := of_decide_eq_true ht15
    refine sr ?_
    iterate 3 refine qa ?_
    refine sn ?_
    refine K.ret ?_
    refine K.ret_then ?_
    refine K.end_ret (fun w _ => K.res_ttt rfl w) ?_
    exact K.gives (by rw [chk_1 (by omega)]; rfl)
  try replace ht15 := of_decide_eq_false ht15
  refine K.skip ?_
  refine K.norm_then ?_
  refine sr ?_
  refine K.seq_new (K.mkMap_q) rfl ?_
  intro b16
  refine zN ?_
  refine K.seq_pure (K.mkFunc) rfl ?_
  refine zN ?_
  refine qa ?_
  refine sn ?_
  refine sr ?_
  refine qa ?_
  refine sn ?_
  refine sr ?_
  refine qa ?_
  refine sn ?_
  refine K.seq ?_
  refine K.seq ?_
  refine K.weak (List.Sublist.cons_cons _ (List.Sublist.cons _ (List.Sublist.slnil))) ?_
  refine K.region_lit ?_
  refine qm ?_
  refine qp (K.len_sl sl_22 rfl) ?_
  refine qm ?_
  refine sn ?_
  refine K.block ?_
  refine K.loopW [6, 7, 20] [2, 3, 4, 8, 9, 21, 22, 23, 24, 25, 26, 27, 28, 29, 30, 31, 32, 33, 34, 35, 36, 37, 38, 39, 40, 41, 42, 43, 44, 45, 46, 47, 48, 49, 50, 51, 52, 53, 54, 55, 56, 57, 58, 59, 60, 61, 62, 63, 64, 65, 66, 67, 68, 69, 70, 71, 72, 73, 74, 75, 76, 77, 78, 79, 80, 81, 82, 83] (fun vi L => ∃ k : Nat, vi = [.int .i64 ((mouS r k).length : Int), .int .i64 (((mouS r k).getD 1 0 : Nat) : Int), .int .i64 ((k : Nat) : Int)] ∧ L = [K.mq b16 none (kvS r k)] ∧ k ≤ r.length ∧ ∀ j, j < k → rvE r j = 0) (fun vi => r.length - (intOf (K.nth vi 2)).toNat) ?_ ?_
  · exact ⟨0, rfl, rfl, Nat.zero_le _, fun j hj => absurd hj (Nat.not_lt_zero j)⟩
  intro vi vr L hJ
  obtain ⟨k, rfl, rfl, hkn, hall⟩ := hJ
  try dsimp only [setd, setn, ev, nth, over, cl, eI, eP, eT, eR, setM, setF, List.map, List.append, List.drop, List.take]
  refine sr ?_
  refine qp (K.lss rfl rfl) ?_
  refine sn ?_
  refine K.seq ?_
  refine K.cond rfl (fun ht21 => ?_) (fun ht21 => ?_)
  · try replace ht21 := of_decide_eq_true ht21
    have hk : k < r.length := by omega
    have hml := @mou_len r k
    refine K.skip ?_
    refine K.norm_then ?_
    refine K.seq ?_
    refine K.block ?_
    refine sr ?_
    refine qm ?_
    refine K.seq_ix (M := []) _ hR.sl sl_22 rfl rfl rfl (by omega) rfl ?_
    intro p23 hp23
    refine zN ?_
    refine K.seq_sil (K.loadA_p ag_44 rfl (hp23.any) rfl) rfl ?_
    refine zN ?_
    refine K.seq_new (K.alloc zr_44) rfl ?_
    intro b9
    refine zN ?_
    refine qa ?_
    refine K.seq_st (K.store_all sz_44 rfl rfl rfl rfl (K.rp0)) rfl ?_
    refine zN ?_
    refine sn ?_
    refine K.seq ?_
    refine K.block ?_
    refine sr ?_
    refine qp (K.fieldAddr_lit fo_44_0 rfl) ?_
    refine K.seq_sil (K.load1_own one_9 rfl (K.m0) rfl) rfl ?_
    refine zN ?_
    refine K.seq_call (K.call_g cal_48 (fun F w hF hw => c48 w)) rfl ?_
    refine zN ?_
    first | refine K.seq_pure (K.not_d rfl) rfl ?_ | refine K.seq_pure (K.not_ rfl) rfl ?_
    refine zN ?_
    refine qa ?_
    refine sn ?_
    refine K.cond rfl (fun ht25 => ?_) (fun ht25 => ?_)
    · try replace ht25 := of_decide_eq_true ht25
      have hnm : nameB (r.getD k default).nm = false := by simpa using ht25
      refine sr ?_
      refine qm ?_
      iterate 3 refine qa ?_
      refine sn ?_
      refine K.ret ?_
      refine K.ret_block ?_
      refine K.ret_then ?_
      refine K.ret_block ?_
      refine K.ret_then ?_
      refine K.ret_then ?_
      refine K.ret_block ?_
      refine K.ret_then ?_
      refine K.end_ret (fun w _ => K.res_ttt rfl w) ?_
      have hv : rvE r k = 6 := rv_6 hnm
      exact K.gives (by rw [chk_at (by omega) hk hall (by rw [hv]; decide), hv]; rfl)
    try replace ht25 := of_decide_eq_false ht25
    have hnm : nameB (r.getD k default).nm = true := by simpa using ht25
    refine sr ?_
    refine K.permH (L' := [_, _]) (List.Perm.trans (List.perm_middle (l₁ := [_])) (List.Perm.cons _ (List.Perm.refl _))) ?_
    refine qm ?_
    refine qp (K.fieldAddr_lit fo_44_0 rfl) ?_
    refine K.seq_sil (K.load1_own one_9 rfl (K.m1) rfl) rfl ?_
    refine zN ?_
    refine K.seq_upd (K.callU (first := [.map (some b16)]) (cap := []) rfl cal_47 (fun w hw => c47 hw (keyNs (by omega) hall) (nm_size hnm) (kv_bd) (kv_nd (by omega) hall))) rfl ?_
    rintro ⟨n35, kv35⟩ hm35
    refine zN ?_
    refine qp (K.gtr rfl rfl) ?_
    refine qa ?_
    refine sn ?_
    refine K.cond rfl (fun ht31 => ?_) (fun ht31 => ?_)
    · try replace ht31 := of_decide_eq_true ht31
      have hdu : ((r.take k).any fun q => nmEq q.nm (r.getD k default).nm) = true := by
        rcases hm35 with ⟨_, h, _⟩ | ⟨h, _⟩
        · simp only at h; omega
        · exact kv_dup.1 h
      refine sr ?_
      refine qm ?_
      iterate 3 refine qa ?_
      refine sn ?_
      refine K.ret ?_
      refine K.ret_block ?_
      refine K.ret_then ?_
      refine K.ret_block ?_
      refine K.ret_then ?_
      refine K.ret_then ?_
      refine K.ret_block ?_
      refine K.ret_then ?_
      refine K.end_ret (fun w _ => K.res_ttt rfl w) ?_
      have hv : rvE r k = 5 := rv_5 hnm hdu
      exact K.gives (by rw [chk_at (by omega) hk hall (by rw [hv]; decide), hv]; rfl)
    try replace ht31 := of_decide_eq_false ht31
    obtain ⟨hfr, hkv⟩ : ((r.take k).any fun q => nmEq q.nm (r.getD k default).nm) = false ∧ kv35 = kvS r k ++ [(Value.string (r.getD k default).nm, 1)] := by
      rcases hm35 with ⟨h, _, h2⟩ | ⟨_, h⟩
      · exact ⟨kv_fresh h, h2⟩
      · simp only at h; omega
    subst hkv
    refine sr ?_
    refine qp (K.fieldAddr_lit fo_44_2 rfl) ?_
    refine K.seq_sil (K.load1_own one_3 rfl (K.m1) rfl) rfl ?_
    refine zN ?_
    refine K.seq_new (K.buildSlice (bs1 _)) rfl ?_
    intro b41
    refine zN ?_
    refine K.seq_call (K.call_g cal_46 (fun F w hF hw => c46_1 hw (hF _ (K.m0)))) rfl ?_
    refine zN ?_
    refine qm ?_
    refine K.split 43 rfl (fun hg43 => ?_) (fun hg43 => ?_)
    · try replace hg43 := of_decide_eq_true hg43
      iterate 4 refine qs ?_
      refine qp (K.pick_t rfl) ?_
      refine qa ?_
      refine sn ?_
      refine K.cond_true rfl ?_
      refine sr ?_
      refine qm ?_
      iterate 3 refine qa ?_
      refine sn ?_
      refine K.ret ?_
      refine K.ret_block ?_
      refine K.ret_then ?_
      refine K.ret_block ?_
      refine K.ret_then ?_
      refine K.ret_then ?_
      refine K.ret_block ?_
      refine K.ret_then ?_
      refine K.end_ret (fun w _ => K.res_ttt rfl w) ?_
      have hv : rvE r k = 7 := by rw [rv_p hnm hfr]; exact pos_7 (by omega)
      exact K.gives (by rw [chk_at (by omega) hk hall (by rw [hv]; decide), hv]; rfl)
    try replace hg43 := of_decide_eq_false hg43
    refine qp (K.fieldAddr_lit fo_44_3 rfl) ?_
    refine K.seq_sil (K.load1_own one_3 rfl (K.m2) rfl) rfl ?_
    refine zN ?_
    refine K.seq_new (K.buildSlice (bs1 _)) rfl ?_
    intro b46
    refine zN ?_
    refine K.seq_call (K.call_g cal_46 (fun F w hF hw => c46_1 hw (hF _ (K.m0)))) rfl ?_
    refine zN ?_
    refine qp (K.pick_f rfl) ?_
    refine qa ?_
    refine sn ?_
    refine K.cond rfl (fun ht38 => ?_) (fun ht38 => ?_)
    · try replace ht38 := of_decide_eq_true ht38
      refine sr ?_
      refine qm ?_
      iterate 3 refine qa ?_
      refine sn ?_
      refine K.ret ?_
      refine K.ret_block ?_
      refine K.ret_then ?_
      refine K.ret_block ?_
      refine K.ret_then ?_
      refine K.ret_then ?_
      refine K.ret_block ?_
      refine K.ret_then ?_
      refine K.end_ret (fun w _ => K.res_ttt rfl w) ?_
      have hv : rvE r k = 7 := by rw [rv_p hnm hfr]; exact pos_7 (by omega)
      exact K.gives (by rw [chk_at (by omega) hk hall (by rw [hv]; decide), hv]; rfl)
    try replace ht38 := of_decide_eq_false ht38
    refine sr ?_
    refine qm ?_
    refine qp (K.len_sl sl_22 rfl) ?_
    refine qp (K.sub_i64 rfl rfl (by omega)) ?_
    refine qp (K.fieldAddr_lit fo_44_1 rfl) ?_
    refine K.seq_sil (K.load1_own one_3 rfl (K.m3) rfl) rfl ?_
    refine zN ?_
    refine K.seq_new (K.buildSlice (bs1 _)) rfl ?_
    intro b56
    refine zN ?_
    refine K.seq_call (K.call_g cal_46 (fun F w hF hw => c46_1 hw (hF _ (K.m0)))) rfl ?_
    refine zN ?_
    refine qa ?_
    refine sn ?_
    refine K.cond rfl (fun ht50 => ?_) (fun ht50 => ?_)
    · try replace ht50 := of_decide_eq_true ht50
      refine sr ?_
      refine qm ?_
      iterate 3 refine qa ?_
      refine sn ?_
      refine K.ret ?_
      refine K.ret_block ?_
      refine K.ret_then ?_
      refine K.ret_block ?_
      refine K.ret_then ?_
      refine K.ret_then ?_
      refine K.ret_block ?_
      refine K.ret_then ?_
      refine K.end_ret (fun w _ => K.res_ttt rfl w) ?_
      have hv : rvE r k = 4 := by rw [rv_p hnm hfr]; exact pos_4 (by omega) (by omega)
      exact K.gives (by rw [chk_at (by omega) hk hall (by rw [hv]; decide), hv]; rfl)
    try replace ht50 := of_decide_eq_false ht50
    refine sr ?_
    refine qp (K.fieldAddr_lit fo_44_1 rfl) ?_
    refine K.seq_sil (K.load1_own one_3 rfl (K.m4) rfl) rfl ?_
    refine zN ?_
    refine qm ?_
    refine qp (K.eql rfl rfl) ?_
    refine qm ?_
    refine K.split 64 rfl (fun hg64 => ?_) (fun hg64 => ?_)
    · try replace hg64 := of_decide_eq_true hg64
      iterate 8 refine qs ?_
      refine qp (K.pick_t rfl) ?_
      refine qa ?_
      refine sn ?_
      refine K.cond_true rfl ?_
      refine sr ?_
      refine qm ?_
      iterate 3 refine qa ?_
      refine sn ?_
      refine K.ret ?_
      refine K.ret_block ?_
      refine K.ret_then ?_
      refine K.ret_block ?_
      refine K.ret_then ?_
      refine K.ret_then ?_
      refine K.ret_block ?_
      refine K.ret_then ?_
      refine K.end_ret (fun w _ => K.res_ttt rfl w) ?_
      have hv : rvE r k = 2 := by rw [rv_p hnm hfr]; exact pos_2 (by omega) (by omega) (by omega)
      exact K.gives (by rw [chk_at (by omega) hk hall (by rw [hv]; decide), hv]; rfl)
    try replace hg64 := of_decide_eq_false hg64
    refine qp (K.fieldAddr_lit fo_44_1 rfl) ?_
    refine K.seq_sil (K.load1_own one_3 rfl (K.m4) rfl) rfl ?_
    refine zN ?_
    refine qp (K.eql rfl rfl) ?_
    refine qm ?_
    refine K.split 68 rfl (fun hg68 => ?_) (fun hg68 => ?_)
    · try replace hg68 := of_decide_eq_true hg68
      refine qp (K.fieldAddr_lit fo_44_2 rfl) ?_
      refine K.seq_sil (K.load1_own one_3 rfl (K.m4) rfl) rfl ?_
      refine zN ?_
      refine qp (K.neq rfl rfl) ?_
      refine qp (K.pick_t rfl) ?_
      refine qp (K.pick_f rfl) ?_
      refine qa ?_
      refine sn ?_
      refine K.cond rfl (fun ht59 => ?_) (fun ht59 => ?_)
      · try replace ht59 := of_decide_eq_true ht59
        refine sr ?_
        refine qm ?_
        iterate 3 refine qa ?_
        refine sn ?_
        refine K.ret ?_
        refine K.ret_block ?_
        refine K.ret_then ?_
        refine K.ret_block ?_
        refine K.ret_then ?_
        refine K.ret_then ?_
        refine K.ret_block ?_
        refine K.ret_then ?_
        refine K.end_ret (fun w _ => K.res_ttt rfl w) ?_
        have hv : rvE r k = 2 := by rw [rv_p hnm hfr]; exact pos_2 (by omega) (by omega) (by omega)
        exact K.gives (by rw [chk_at (by omega) hk hall (by rw [hv]; decide), hv]; rfl)
      try replace ht59 := of_decide_eq_false ht59
      refine K.skip ?_
      refine K.norm_block ?_
      refine K.norm_then ?_
      refine sr ?_
      refine qp (K.fieldAddr_lit fo_44_1 rfl) ?_
      refine K.seq_sil (K.load1_own one_3 rfl (K.m4) rfl) rfl ?_
      refine zN ?_
      refine qp (K.eql rfl rfl) ?_
      refine sn ?_
      refine K.cond rfl (fun ht77 => ?_) (fun ht77 => ?_)
      · try replace ht77 := of_decide_eq_true ht77
        have hrv : rvE r k = 0 := by rw [rv_p hnm hfr]; exact pos_0 (by omega) (by omega) (by omega)
        refine sr ?_
        refine qm ?_
        refine qp (K.add_i64 rfl rfl (by omega)) ?_
        refine qa ?_
        refine sn ?_
        refine sr ?_
        refine qm ?_
        refine qp (K.eql rfl rfl) ?_
        refine sn ?_
        refine K.cond rfl (fun ht81 => ?_) (fun ht81 => ?_)
        · try replace ht81 := of_decide_eq_true ht81
          refine K.region_lit ?_
          refine qm ?_
          refine qa ?_
          refine K.seq_nil ?_
          refine K.norm_block ?_
          refine K.norm_then ?_
          refine K.region_lit ?_
          refine qp (K.add_i64 rfl rfl (by omega)) ?_
          refine qm ?_
          refine K.seq_nil ?_
          have hl1 : (mouS r k).length = 1 := by omega
          have hg1 : ((mouS r (k + 1)).getD 1 0 : Nat) = k := by
            rw [mou_s ht77]
            obtain ⟨a, ha⟩ := List.length_eq_one_iff.1 hl1
            rw [ha]; rfl
          have hl2 : (((mouS r (k + 1)).length : Nat) : Int) = ((mouS r k).length : Int) + 1 := by rw [mou_s ht77, List.length_append]; rfl
          exact K.round_endW (L'' := [K.mq b16 none (kvS r k ++ [(Value.string (r.getD k default).nm, 1)])]) [.int .i64 (((mouS r k).length : Int) + 1), .int .i64 (k : Int), .int .i64 ((k : Int) + 1)] ⟨k + 1, by rw [hl2, hg1]; rfl, by rw [kv_s hk], by omega, K.lt_succ_case hall hrv⟩ (by simp [K.nth, intOf]; omega) (List.Sublist.cons _ (List.Sublist.cons _ (List.Sublist.cons _ (List.Sublist.cons_cons _ (List.nil_sublist _))))) (by kernel_rfl)
        try replace ht81 := of_decide_eq_false ht81
        refine K.skip ?_
        refine K.norm_block ?_
        refine K.norm_then ?_
        refine K.region_lit ?_
        refine qp (K.add_i64 rfl rfl (by omega)) ?_
        refine qm ?_
        refine K.seq_nil ?_
        have hg1 : ((mouS r (k + 1)).getD 1 0 : Nat) = (mouS r k).getD 1 0 := by
          rw [mou_s ht77]
          exact mou_g (by omega)
        have hl2 : (((mouS r (k + 1)).length : Nat) : Int) = ((mouS r k).length : Int) + 1 := by rw [mou_s ht77, List.length_append]; rfl
        exact K.round_endW (L'' := [K.mq b16 none (kvS r k ++ [(Value.string (r.getD k default).nm, 1)])]) [.int .i64 (((mouS r k).length : Int) + 1), .int .i64 (((mouS r k).getD 1 0 : Nat) : Int), .int .i64 ((k : Int) + 1)] ⟨k + 1, by rw [hl2, hg1]; rfl, by rw [kv_s hk], by omega, K.lt_succ_case hall hrv⟩ (by simp [K.nth, intOf]; omega) (List.Sublist.cons _ (List.Sublist.cons _ (List.Sublist.cons _ (List.Sublist.cons_cons _ (List.nil_sublist _))))) (by kernel_rfl)
      try replace ht77 := of_decide_eq_false ht77
      have hrv : rvE r k = 0 := by rw [rv_p hnm hfr]; exact pos_0 (by omega) (by omega) (by omega)
      refine K.skip ?_
      refine K.norm_block ?_
      refine K.norm_then ?_
      refine K.region_lit ?_
      refine qp (K.add_i64 rfl rfl (by omega)) ?_
      refine qm ?_
      refine K.seq_nil ?_
      have hg1 : ((mouS r (k + 1)).getD 1 0 : Nat) = (mouS r k).getD 1 0 := by rw [mou_n ht77]
      have hl2 : (((mouS r (k + 1)).length : Nat) : Int) = ((mouS r k).length : Int) := by rw [mou_n ht77]
      exact K.round_endW (L'' := [K.mq b16 none (kvS r k ++ [(Value.string (r.getD k default).nm, 1)])]) [.int .i64 ((mouS r k).length : Int), .int .i64 (((mouS r k).getD 1 0 : Nat) : Int), .int .i64 ((k : Int) + 1)] ⟨k + 1, by rw [hl2, hg1]; rfl, by rw [kv_s hk], by omega, K.lt_succ_case hall hrv⟩ (by simp [K.nth, intOf]; omega) (List.Sublist.cons _ (List.Sublist.cons _ (List.Sublist.cons _ (List.Sublist.cons_cons _ (List.nil_sublist _))))) (by kernel_rfl)
    try replace hg68 := of_decide_eq_false hg68
    iterate 3 refine qs ?_
    refine qp (K.pick_f rfl) ?_
    refine qp (K.pick_f rfl) ?_
    refine qa ?_
    refine sn ?_
    refine K.cond_false rfl ?_
    refine K.skip ?_
    refine K.norm_block ?_
    refine K.norm_then ?_
    refine sr ?_
    refine qp (K.fieldAddr_lit fo_44_1 rfl) ?_
    refine K.seq_sil (K.load1_own one_3 rfl (K.m4) rfl) rfl ?_
    refine zN ?_
    refine qp (K.eql rfl rfl) ?_
    refine sn ?_
    refine K.cond rfl (fun ht77 => ?_) (fun ht77 => ?_)
    · try replace ht77 := of_decide_eq_true ht77
      have hrv : rvE r k = 0 := by rw [rv_p hnm hfr]; exact pos_0 (by omega) (by omega) (by omega)
      refine sr ?_
      refine qm ?_
      refine qp (K.add_i64 rfl rfl (by omega)) ?_
      refine qa ?_
      refine sn ?_
      refine sr ?_
      refine qm ?_
      refine qp (K.eql rfl rfl) ?_
      refine sn ?_
      refine K.cond rfl (fun ht81 => ?_) (fun ht81 => ?_)
      · try replace ht81 := of_decide_eq_true ht81
        refine K.region_lit ?_
        refine qm ?_
        refine qa ?_
        refine K.seq_nil ?_
        refine K.norm_block ?_
        refine K.norm_then ?_
        refine K.region_lit ?_
        refine qp (K.add_i64 rfl rfl (by omega)) ?_
        refine qm ?_
        refine K.seq_nil ?_
        have hl1 : (mouS r k).length = 1 := by omega
        have hg1 : ((mouS r (k + 1)).getD 1 0 : Nat) = k := by
          rw [mou_s ht77]
          obtain ⟨a, ha⟩ := List.length_eq_one_iff.1 hl1
          rw [ha]; rfl
        have hl2 : (((mouS r (k + 1)).length : Nat) : Int) = ((mouS r k).length : Int) + 1 := by rw [mou_s ht77, List.length_append]; rfl
        exact K.round_endW (L'' := [K.mq b16 none (kvS r k ++ [(Value.string (r.getD k default).nm, 1)])]) [.int .i64 (((mouS r k).length : Int) + 1), .int .i64 (k : Int), .int .i64 ((k : Int) + 1)] ⟨k + 1, by rw [hl2, hg1]; rfl, by rw [kv_s hk], by omega, K.lt_succ_case hall hrv⟩ (by simp [K.nth, intOf]; omega) (List.Sublist.cons _ (List.Sublist.cons _ (List.Sublist.cons _ (List.Sublist.cons_cons _ (List.nil_sublist _))))) (by kernel_rfl)
      try replace ht81 := of_decide_eq_false ht81
      refine K.skip ?_
      refine K.norm_block ?_
      refine K.norm_then ?_
      refine K.region_lit ?_
      refine qp (K.add_i64 rfl rfl (by omega)) ?_
      refine qm ?_
      refine K.seq_nil ?_
      have hg1 : ((mouS r (k + 1)).getD 1 0 : Nat) = (mouS r k).getD 1 0 := by
        rw [mou_s ht77]
        exact mou_g (by omega)
      have hl2 : (((mouS r (k + 1)).length : Nat) : Int) = ((mouS r k).length : Int) + 1 := by rw [mou_s ht77, List.length_append]; rfl
      exact K.round_endW (L'' := [K.mq b16 none (kvS r k ++ [(Value.string (r.getD k default).nm, 1)])]) [.int .i64 (((mouS r k).length : Int) + 1), .int .i64 (((mouS r k).getD 1 0 : Nat) : Int), .int .i64 ((k : Int) + 1)] ⟨k + 1, by rw [hl2, hg1]; rfl, by rw [kv_s hk], by omega, K.lt_succ_case hall hrv⟩ (by simp [K.nth, intOf]; omega) (List.Sublist.cons _ (List.Sublist.cons _ (List.Sublist.cons _ (List.Sublist.cons_cons _ (List.nil_sublist _))))) (by kernel_rfl)
    try replace ht77 := of_decide_eq_false ht77
    have hrv : rvE r k = 0 := by rw [rv_p hnm hfr]; exact pos_0 (by omega) (by omega) (by omega)
    refine K.skip ?_
    refine K.norm_block ?_
    refine K.norm_then ?_
    refine K.region_lit ?_
    refine qp (K.add_i64 rfl rfl (by omega)) ?_
    refine qm ?_
    refine K.seq_nil ?_
    have hg1 : ((mouS r (k + 1)).getD 1 0 : Nat) = (mouS r k).getD 1 0 := by rw [mou_n ht77]
    have hl2 : (((mouS r (k + 1)).length : Nat) : Int) = ((mouS r k).length : Int) := by rw [mou_n ht77]
    exact K.round_endW (L'' := [K.mq b16 none (kvS r k ++ [(Value.string (r.getD k default).nm, 1)])]) [.int .i64 ((mouS r k).length : Int), .int .i64 (((mouS r k).getD 1 0 : Nat) : Int), .int .i64 ((k : Int) + 1)] ⟨k + 1, by rw [hl2, hg1]; rfl, by rw [kv_s hk], by omega, K.lt_succ_case hall hrv⟩ (by simp [K.nth, intOf]; omega) (List.Sublist.cons _ (List.Sublist.cons _ (List.Sublist.cons _ (List.Sublist.cons_cons _ (List.nil_sublist _))))) (by kernel_rfl)
  try replace ht21 := of_decide_eq_false ht21
  refine K.exit ?_
  refine K.exit_then ?_
  refine K.exit_then ?_
  refine K.exit_here ?_
  refine K.norm_then ?_
  refine K.seq ?_
  refine K.block ?_
  refine K.seq ?_
  have hln : 1 ≤ r.length ∧ r.length ≤ 9 := by omega
  have hf0 : (K.fst (rvE r) (List.range r.length)).2 = 0 := fst_0 (fun j hj => hall j (by omega))
  obtain rfl : k = r.length := by omega
  have hdn : ∀ i, i < r.length → -1 ≤ (r.getD i default).dn ∧ (r.getD i default).dn ≤ (r.length : Int) - 1 := fun i hi => (pos_ok (rv_ok (hall i hi)).2.2).2.1
  refine K.region_lit ?_
  refine qm ?_
  refine qp (K.eql rfl rfl) ?_
  refine qa ?_
  refine sn ?_
  refine K.cond rfl (fun ht84 => ?_) (fun ht84 => ?_)
  · try replace ht84 := of_decide_eq_true ht84
    refine sr ?_
    iterate 3 refine qa ?_
    refine sn ?_
    refine K.ret ?_
    refine K.ret_block ?_
    refine K.ret_then ?_
    refine K.end_ret (fun w _ => K.res_ttt rfl w) ?_
    exact K.gives (by rw [chk_3 hln hf0 (by omega)]; rfl)
  try replace ht84 := of_decide_eq_false ht84
  refine sr ?_
  refine qm ?_
  refine qp (K.gtr rfl rfl) ?_
  refine qa ?_
  refine sn ?_
  refine K.cond rfl (fun ht87 => ?_) (fun ht87 => ?_)
  · try replace ht87 := of_decide_eq_true ht87
    refine sr ?_
    refine qm ?_
    iterate 3 refine qa ?_
    refine sn ?_
    refine K.ret ?_
    refine K.ret_block ?_
    refine K.ret_then ?_
    refine K.end_ret (fun w _ => K.res_ttt rfl w) ?_
    exact K.gives (by rw [chk_4 hln hf0 (by omega)]; rfl)
  try replace ht87 := of_decide_eq_false ht87
  refine K.skip ?_
  refine K.norm_block ?_
  refine K.norm_then ?_
  refine K.seq ?_
  refine sr ?_
  refine qm ?_
  refine qp (K.len_sl sl_22 rfl) ?_
  refine qm ?_
  refine sn ?_
  refine K.block ?_
  refine K.loopW [93] [2, 3, 4, 10, 11, 94, 95, 96, 97, 98, 99, 100, 101, 102, 103, 104, 105, 106, 107, 108, 109, 110, 111, 112, 113, 114, 115, 116, 117, 118, 119, 120] (fun vi L => ∃ i : Nat, vi = [.int .i64 (i : Int)] ∧ L = [K.mq b16 none (kvS r r.length)] ∧ i ≤ r.length ∧ ∀ j, j < i → reaB r j = true) (fun vi => r.length - (intOf (K.nth vi 0)).toNat) ?_ ?_
  · exact ⟨0, rfl, rfl, Nat.zero_le _, fun j hj => absurd hj (Nat.not_lt_zero j)⟩
  intro vi vr L hJ
  obtain ⟨i, rfl, rfl, hin, hrea⟩ := hJ
  try dsimp only [setd, setn, ev, nth, over, cl, eI, eP, eT, eR, setM, setF, List.map, List.append, List.drop, List.take]
  refine sr ?_
  refine qp (K.lss rfl rfl) ?_
  refine sn ?_
  refine K.seq ?_
  refine K.cond rfl (fun ht94 => ?_) (fun ht94 => ?_)
  · try replace ht94 := of_decide_eq_true ht94
    have hi : i < r.length := by omega
    refine K.skip ?_
    refine K.norm_then ?_
    refine K.seq ?_
    refine K.block ?_
    refine sr ?_
    refine qm ?_
    refine qa ?_
    refine sn ?_
    refine sr ?_
    refine qm ?_
    refine qa ?_
    refine sn ?_
    refine K.seq ?_
    refine sr ?_
    refine qm ?_
    refine qp (K.len_sl sl_22 rfl) ?_
    refine qm ?_
    refine sn ?_
    refine K.block ?_
    refine K.loopW [11, 99] [100, 101, 102, 103, 104, 105, 106, 107, 108, 109, 110, 111, 112] (fun vi L => ∃ a : Nat, vi = [.int .i64 ((stps r a i : Nat) : Int), .int .i64 (a : Int)] ∧ L = [K.mq b16 none (kvS r r.length)] ∧ a ≤ r.length) (fun vi => r.length - (intOf (K.nth vi 1)).toNat) ?_ ?_
    · exact ⟨0, rfl, rfl, Nat.zero_le _⟩
    intro vi vr L hJ
    obtain ⟨a, rfl, rfl, han⟩ := hJ
    try dsimp only [setd, setn, ev, nth, over, cl, eI, eP, eT, eR, setM, setF, List.map, List.append, List.drop, List.take]
    refine sr ?_
    refine qp (K.lss rfl rfl) ?_
    refine sn ?_
    refine K.seq ?_
    refine K.cond rfl (fun ht100 => ?_) (fun ht100 => ?_)
    · try replace ht100 := of_decide_eq_true ht100
      have hal : a < r.length := by omega
      have hsl := stps_in hdn hi a
      have hsd := hdn _ hsl
      refine K.skip ?_
      refine K.norm_then ?_
      refine K.seq ?_
      refine K.block ?_
      refine sr ?_
      iterate 2 refine qm ?_
      refine K.seq_ix (M := []) (stps r a i) hR.sl sl_22 rfl rfl (by omega) (by omega) rfl ?_
      intro p103 hp103
      refine zN ?_
      refine qp (K.fieldAddr fo_44_1 rfl) ?_
      refine K.seq_sil (K.load1 one_3 rfl ((K.PtrL.fld hp103 (k := 1)).any)) rfl ?_
      refine zN ?_
      refine qp (K.neq rfl rfl) ?_
      refine sn ?_
      refine K.cond rfl (fun ht106 => ?_) (fun ht106 => ?_)
      · try replace ht106 := of_decide_eq_true ht106
        refine K.region_lit ?_
        iterate 2 refine qm ?_
        refine K.seq_ix (M := []) (stps r a i) hR.sl sl_22 rfl rfl (by omega) (by omega) rfl ?_
        intro p109 hp109
        refine zN ?_
        refine qp (K.fieldAddr fo_44_1 rfl) ?_
        refine K.seq_sil (K.load1 one_3 rfl ((K.PtrL.fld hp109 (k := 1)).any)) rfl ?_
        refine zN ?_
        refine qa ?_
        refine K.seq_nil ?_
        refine K.norm_block ?_
        refine K.norm_then ?_
        refine K.region_lit ?_
        refine qp (K.add_i64 rfl rfl (by omega)) ?_
        refine qm ?_
        refine K.seq_nil ?_
        have hst1 : ((stps r (a + 1) i : Nat) : Int) = (r.getD (stps r a i) default).dn := by rw [stps_up ht106]; omega
        exact K.round_endW (L'' := [K.mq b16 none (kvS r r.length)]) [.int .i64 (r.getD (stps r a i) default).dn, .int .i64 ((a : Int) + 1)] ⟨a + 1, by rw [hst1]; rfl, rfl, by omega⟩ (by simp [K.nth, intOf]; omega) (List.Sublist.refl _) (by kernel_rfl)
      try replace ht106 := of_decide_eq_false ht106
      refine K.skip ?_
      refine K.norm_block ?_
      refine K.norm_then ?_
      refine K.region_lit ?_
      refine qp (K.add_i64 rfl rfl (by omega)) ?_
      refine qm ?_
      refine K.seq_nil ?_
      exact K.round_endW (L'' := [K.mq b16 none (kvS r r.length)]) [.int .i64 ((stps r a i : Nat) : Int), .int .i64 ((a : Int) + 1)] ⟨a + 1, by rw [stps_st (Decidable.not_not.1 ht106)]; rfl, rfl, by omega⟩ (by simp [K.nth, intOf]; omega) (List.Sublist.refl _) (by kernel_rfl)
    try replace ht100 := of_decide_eq_false ht100
    refine K.exit ?_
    refine K.exit_then ?_
    refine K.exit_then ?_
    refine K.exit_here ?_
    refine K.norm_then ?_
    refine K.seq ?_
    have haa : a = r.length := by omega
    subst haa
    have hsl := stps_in hdn hi r.length
    refine K.region_lit ?_
    iterate 2 refine qm ?_
    refine K.seq_ix (M := []) (stps r r.length i) hR.sl sl_22 rfl rfl (by omega) (by omega) rfl ?_
    intro p115 hp115
    refine zN ?_
    refine qp (K.fieldAddr fo_44_1 rfl) ?_
    refine K.seq_sil (K.load1 one_3 rfl ((K.PtrL.fld hp115 (k := 1)).any)) rfl ?_
    refine zN ?_
    refine qp (K.neq rfl rfl) ?_
    refine sn ?_
    refine K.cond rfl (fun ht118 => ?_) (fun ht118 => ?_)
    · try replace ht118 := of_decide_eq_true ht118
      have hsx : True := trivial
      refine sr ?_
      refine qm ?_
      iterate 3 refine qa ?_
      refine sn ?_
      refine K.ret ?_
      refine K.ret_block ?_
      refine K.ret_then ?_
      refine K.ret_then ?_
      refine K.ret_block ?_
      refine K.ret_then ?_
      refine K.end_ret (fun w _ => K.res_ttt rfl w) ?_
      have hre : reaB r i = false := decide_eq_false ht118
      exact K.gives (by rw [chk_5 hln hf0 (by omega) hi hrea hre]; rfl)
    try replace ht118 := of_decide_eq_false ht118
    refine K.skip ?_
    refine K.norm_block ?_
    refine K.norm_then ?_
    refine K.region_lit ?_
    refine qp (K.add_i64 rfl rfl (by omega)) ?_
    refine qm ?_
    refine K.seq_nil ?_
    have hre : reaB r i = true := decide_eq_true (Decidable.not_not.1 ht118)
    exact K.round_endW (L'' := [K.mq b16 none (kvS r r.length)]) [.int .i64 ((i : Int) + 1)] ⟨i + 1, rfl, rfl, by omega, K.lt_succ_case hrea hre⟩ (by simp [K.nth, intOf]; omega) (List.Sublist.refl _) (by kernel_rfl)
  try replace ht94 := of_decide_eq_false ht94
  refine K.exit ?_
  refine K.exit_then ?_
  refine K.exit_then ?_
  refine K.exit_here ?_
  refine K.norm_then ?_
  refine sr ?_
  iterate 3 refine qa ?_
  refine sn ?_
  refine K.ret ?_
  refine K.end_ret (fun w _ => K.res_ttt rfl w) ?_
  exact K.gives (by rw [chk_0 hln hf0 (by omega) (fun j hj => hrea j (by omega))]; rfl)

end Go.Proofs.YtoemnobfnnjopaaDoor
end
section
set_option linter.unusedSimpArgs false
set_option linter.unusedVariables false
namespace Go.R
open Go.RowKit Go.K
/-- Parameters, set in turn. -/
def setP : List Value → List Tmp → List Value → List Value
  | l, p :: ps, v :: vs => setP (setn l p v) ps vs
  | l, _, _ => l
theorem setP_arr : ∀ (l : List Value) (ps : List Tmp) (vs : List Value), (ps.toArray.zip vs.toArray).foldl (fun tmps (t, a) => tmps.setIfInBounds t a) l.toArray = (setP l ps vs).toArray := by
  intro l ps vs
  have h : ∀ (l : List Value) (zs : List (Tmp × Value)), zs.foldl (fun tmps (z : Tmp × Value) => tmps.setIfInBounds z.1 z.2) l.toArray = (zs.foldl (fun l (z : Tmp × Value) => setn l z.1 z.2) l).toArray := by
    intro l zs
    induction zs generalizing l with
    | nil => rfl
    | cons z zs ih => simp only [List.foldl_cons]; rw [← ih]; simp [setn_eq]
  have h2 : ∀ (l : List Value) (ps : List Tmp) (vs : List Value), (ps.zip vs).foldl (fun l (z : Tmp × Value) => setn l z.1 z.2) l = setP l ps vs := by
    intro l ps
    induction ps generalizing l with
    | nil => intro vs; simp [setP]
    | cons p ps ih =>
      intro vs
      cases vs with
      | nil => simp [setP]
      | cons v vs => simp only [List.zip_cons_cons, List.foldl_cons, setP]; exact ih _ _
  rw [← h2, ← h, List.zip_toArray, List.foldl_toArray]
/-- One call of yield. -/
def RoundOK2 {α : Type} (P : Program) (lr : Nat) (enc : α → List Value) (XS : List α) (J Jx : Nat → (Nat → Prop) → World → Prop) : Prop :=
  ∀ k x f w, XS[k]? = some x → J k f w → YieldAt (fen none) 0 P lr (enc x).toArray w fun e w' => ∃ f', Grew f w f' ∧ Kept f w w' ∧ (∀ i, f' i → i < w'.heap.size) ∧ ((e = .returned (.bool true) ∧ J (k + 1) f' w') ∨ (e = .returned (.bool false) ∧ Jx (k + 1) f' w'))
/-- As Below, but for block b. -/
structure BelowX (B b : Nat) (w w' : World) : Prop where
  os : w'.os = w.os
  tape : w'.tape = w.tape
  output : w'.output = w.output
  size : w.heap.size ≤ w'.heap.size
  block : ∀ k, k < B → k ≠ b → w'.heap[k]? = w.heap[k]?
theorem BelowX.of {B b : Nat} {w w' : World} (h : Below B w w') : BelowX B b w w' := ⟨h.os, h.tape, h.output, h.size, fun k hk _ => h.block k hk⟩
theorem BelowX.trans {B b : Nat} {w w' w'' : World} (h : BelowX B b w w') (k : BelowX B b w' w'') : BelowX B b w w'' :=
  ⟨k.os.trans h.os, k.tape.trans h.tape, k.output.trans h.output, Nat.le_trans h.size k.size, fun i hi hn => (k.block i hi hn).trans (h.block i hi hn)⟩
theorem BelowX.mono {B B' b : Nat} {w w' : World} (h : BelowX B b w w') (hB : B' ≤ B) : BelowX B' b w w' := ⟨h.os, h.tape, h.output, h.size, fun k hk hn => h.block k (by omega) hn⟩
theorem BelowX.below {B B' b : Nat} {w w' : World} (h : BelowX B b w w') (hB : B' ≤ B) (hb : B' ≤ b) : Below B' w w' := ⟨h.os, h.tape, h.output, h.size, fun k hk => h.block k (by omega) (by omega)⟩
/-- A caller's state abides what an iterator does that began when the heap's size was B: changes of block b, and of blocks from B on, that are not the state's own. -/
def StaysX (B b : Nat) (J : Nat → (Nat → Prop) → World → Prop) : Prop := ∀ k f w w', J k f w → BelowX B b w w' → (∀ i, f i → w'.heap[i]? = w.heap[i]?) → J k f w'
theorem StaysX.below {B b : Nat} {J : Nat → (Nat → Prop) → World → Prop} (h : StaysX B b J) {k : Nat} {f : Nat → Prop} {w w' : World} (hJ : J k f w) (hf : ∀ i, f i → i < w.heap.size) (hB : B ≤ w.heap.size) (hb : Below w.heap.size w w') : J k f w' :=
  h k f w w' hJ (.of (hb.mono hB)) (fun i hi => hb.block i (hf i hi))
def orb (f : Nat → Prop) (b : Nat) : Nat → Prop := fun i => f i ∨ i = b
theorem Keep.orbs {f f' : Nat → Prop} {w w' : World} {b : Nat} (h : Keep f w f' w') : Keep (orb f b) w (orb f' b) w' := fun i hi hn => by
  have h1 := h i hi (fun h => hn (.inl h))
  exact ⟨fun h => h.elim h1.1 (fun e => hn (.inr e)), h1.2⟩
theorem Keep.off {f : Nat → Prop} {w w' : World} {b : Nat} (h : ∀ i, i ≠ b → w'.heap[i]? = w.heap[i]?) : Keep (orb f b) w (orb f b) w' := fun i _ hn => ⟨hn, h i (fun e => hn (.inr e))⟩
/-- A slice of nobody else's. -/
def OwnR {E : Type} (f : Nat → Prop) (w : World) (A : Option Addr) (size : Nat) (e : E → List Value) (xs : List E) : Prop :=
  ∀ k x, xs[k]? = some x → ∃ a, A = some a ∧ a.block < w.heap.size ∧ ¬ f a.block ∧ ∀ j u, (e x)[j]? = some u → w.cell? ((a.add (k * size)).add j) = some u
theorem OwnR.rd {E : Type} {f : Nat → Prop} {w : World} {A : Option Addr} {size : Nat} {e : E → List Value} {xs : List E} (h : OwnR f w A size e xs) : Rd w A size e xs := fun k x hx => let ⟨a, h1, h2, _, h3⟩ := h k x hx; ⟨a, h1, h2, h3⟩
theorem OwnR.keep {E : Type} {f f' : Nat → Prop} {w w' : World} {A : Option Addr} {size : Nat} {e : E → List Value} {xs : List E} (h : OwnR f w A size e xs) (hk : Keep f w f' w') : OwnR f' w' A size e xs := fun k x hx => by
  obtain ⟨a, h1, h2, h3, h4⟩ := h k x hx
  obtain ⟨a1, a2⟩ := hk _ h2 h3
  refine ⟨a, h1, lt_of_same h2 a2, a1, fun j u hu => ?_⟩
  rw [← h4 j u hu]
  exact World.cell?_of_block (by rw [addr_block, addr_block]; exact a2)
theorem Free.oldR {E : Type} {w0 w : World} {F : List Chunk} {f : Nat → Prop} {A : Option Addr} {size : Nat} {e : E → List Value} {xs : List E} (h : Free w0 F f w) (hR : Rd w0 A size e xs) : OwnR f w A size e xs := fun k x hx => by
  obtain ⟨a, h1, h2, _⟩ := hR k x hx
  obtain ⟨a', h1', h2', h3⟩ := hR.pass h.1 k x hx
  rw [h1] at h1'; cases h1'
  exact ⟨a, h1, h2', h.2.2 _ h2, h3⟩
theorem heap_ptr {w : World} {b : Nat} {t : TypeId} {cs : List Value} (h : w.heap[b]? = some (.cells cs.toArray t (0, 0))) : PtrL w [] ⟨b, 0, none⟩ cs :=
  PtrL.old (lt_of_some h) (fun j u hu => by
    rw [add_lit, Nat.zero_add, blk_cell (t := t) (cs := cs) (show (blk b t cs).holds w from h)]
    exact hu)
/-- The function, with what it holds, hands yield the things of XS in order, until yield returns false; it may change block b. -/
def IterX {α : Type} (P : Program) (g : FuncId) (first cap : List Value) (b : Nat) (pre : (Nat → Prop) → World → Prop) (enc : α → List Value) (XS : List α) : Prop :=
  ∀ (lr B : Nat) (J Jx : Nat → (Nat → Prop) → World → Prop) (f : Nat → Prop) (w : World), B ≤ w.heap.size → b < w.heap.size → StaysX B b J → StaysX B b Jx → (∀ k f w, J k f w → B ≤ w.heap.size) → (∀ k f w, Jx k f w → B ≤ w.heap.size) → (∀ i, f i → i < w.heap.size) → ¬ f b → RoundOK2 P lr enc XS J Jx → J 0 f w → pre f w →
    Calls P g (first ++ [Value.func (.yield lr) #[] #[]] ++ cap).toArray w fun e w' => (∃ v, e = .returned v) ∧ ((∃ f', J XS.length f' w') ∨ (∃ k f', k ≤ XS.length ∧ Jx k f' w'))
theorem rangeX {α : Type} {P : Program} {w0 : World} {L : List Chunk} {Q : Exit → Act → World → Prop} {l : List Value} {g : Operand} {ps : List Tmp} {assign body : Code} {gf : FuncId} {first cap : List Value} {pre : (Nat → Prop) → World → Prop} {enc : α → List Value} {XS : List α} {n : Nat} {D : List Deferred}
    (hg : ev l g = .func (.func gf) first.toArray cap.toArray) (hcal : callable P gf = true) (Lm F : List Chunk) {bx : Nat} {tx : TypeId} {cx : List Value} (hsp : ∀ w, St w0 L w → St w0 (Lm ++ (F ++ [blk bx tx cx])) w) (hF : ∀ c ∈ F, ∃ b t cs, c = blk b t cs) (hps : ∀ x, (enc x).length = ps.length) (hit : IterX P gf first cap bx pre enc XS) (hpre : ∀ f w, Free w0 F (orb f bx) w → w.heap[bx]? = some (.cells cx.toArray tx (0, 0)) → pre f w)
    (JL : Nat → List Chunk → Prop) (JX : Code → List Chunk → Prop) (h0 : JL 0 Lm)
    (round : ∀ k x L' lr E, XS[k]? = some x → (∀ b t cs, blk b t cs ∈ F → PtrL w0 [E] ⟨b, 0, none⟩ cs) → JL k L' → Hold w0 (L' ++ [E]) (assign.wpIn (fen (some lr)) 0 P (Exit.then (BodyC P w0 F JL JX k lr body E) (fun _ _ _ => False)) (frd [] (setP l ps (enc x)))))
    (done : ∀ b L', JL XS.length L' → Hold w0 (L' ++ (F ++ [dfr b])) (Q .normal (frd (mark b :: D) l)))
    (stop : ∀ b c L', JX c L' → Hold w0 (L' ++ (F ++ [dfr b])) (c.wpIn (fen none) n P Q (frd (mark b :: D) l))) :
    Hold w0 L ((Code.rangeFunc g ps.toArray assign body).wpIn (fen none) n P Q (frd D l)) := by
  intro w hw0
  have hwX := hsp w hw0
  have hw : St w0 (Lm ++ F) w := hwX.sub (List.Sublist.append (List.Sublist.refl _) (List.sublist_append_left _ _))
  have hbx0 : w0.heap.size ≤ bx := (hwX.2.1 (blk bx tx cx) (by simp)).2 bx rfl
  have hbxw : bx < w.heap.size := hwX.lt (c := blk bx tx cx) (by simp) rfl
  have hpX := List.pairwise_append.1 hwX.2.2
  have hpXF := List.pairwise_append.1 hpX.2.1
  have hbxL : ∀ c ∈ Lm, ¬ c.foot bx := fun c hc h => hpX.2.2 c hc (blk bx tx cx) (by simp) bx h rfl
  have hbxF : ∀ c ∈ F, ¬ c.foot bx := fun c hc h => hpXF.2.2 c hc (blk bx tx cx) (by simp) bx h rfl
  refine wpIn_rangeFunc ?_
  intro fn hfn
  obtain ⟨rc, hrc⟩ : ∃ rc : LoopState → Option Code → Loop, rc = fun st pe => { state := st, pending := pe, fn, tmps := l.toArray, params := ps.toArray, assign, body, defers := w.heap.size } := ⟨_, rfl⟩
  obtain ⟨W1, hW1⟩ : ∃ W1, (w.alloc (.deferred (some []))).alloc (.loop (rc .ready none)) = W1 := ⟨_, rfl⟩
  obtain ⟨rd, hrd⟩ : ∃ rd : Chunk, rd = both (obj (w.heap.size + 1) (.loop (rc .ready none))) (dfr w.heap.size) := ⟨_, rfl⟩
  have hst1' : St w0 ((Lm ++ F) ++ [rd]) W1 := by
    have hb1 : Below w.heap.size w W1 := by
      rw [← hW1]; exact ((Below.refl _ w).alloc (Nat.le_refl _) _).alloc (by simp) _
    refine st_snoc (st_below hw hb1) ?_ (fun k hk => ?_) (fun c hc k hk hk' => ?_)
    · subst hrd
      refine ⟨?_, ?_⟩
      · show W1.heap[w.heap.size + 1]? = _
        rw [← hW1]; have := World.alloc_heap_new (w.alloc (.deferred (some []))) (.loop (rc .ready none)); rwa [World.size_alloc] at this
      · show W1.heap[w.heap.size]? = _
        rw [← hW1]; exact (Below.heap_alloc _ _ _ (by simp)).trans (World.alloc_heap_new w _)
    · subst hrd
      have := hw.1.size
      rcases hk with hk | hk
      · have : k = w.heap.size + 1 := hk
        omega
      · have : k = w.heap.size := hk
        omega
    · subst hrd
      have := hw.lt hc hk
      rcases hk' with hk' | hk'
      · have : k = w.heap.size + 1 := hk'
        omega
      · have : k = w.heap.size := hk'
        omega
  have hst1 : St w0 (Lm ++ (F ++ [rd])) W1 := by rw [← List.append_assoc]; exact hst1'
  have hsub : ∀ {L' : List Chunk} {x : Chunk} {W : World}, St w0 (L' ++ (F ++ [x])) W → St w0 (L' ++ [x]) W := fun h => h.sub (List.Sublist.append (List.Sublist.refl _) (List.sublist_append_right _ _))
  have hfree : ∀ {L' : List Chunk} {W : World}, St w0 (L' ++ (F ++ [rd])) W → Free w0 F (foots (L' ++ [rd])) W := fun {L'} {W} h => by
    have hp := List.pairwise_append.1 h.2.2
    have hpF := List.pairwise_append.1 hp.2.1
    refine ⟨h.sub ((List.sublist_append_left F [rd]).trans (List.sublist_append_right _ _)), fun c hc i hi => ?_, fun i hi => ?_⟩
    · rintro ⟨d, hd, hdi⟩
      rcases List.mem_append.1 hd with hd | hd
      · exact hp.2.2 d hd c (by simp [hc]) i hdi hi
      · exact hpF.2.2 c hc d hd i hi hdi
    · rintro ⟨d, hd, hdi⟩
      have := ((hsub h).2.1 d hd).2 i hdi
      omega
  have hb1 : Below w.heap.size w W1 := by
    rw [← hW1]; exact ((Below.refl _ w).alloc (Nat.le_refl _) _).alloc (by simp) _
  have hsz1 : W1.heap.size = w.heap.size + 2 := by rw [← hW1]; simp
  have hbx1 : bx < W1.heap.size := Nat.lt_of_lt_of_le hbxw hb1.size
  have hbxf : ¬ foots (Lm ++ [rd]) bx := by
    rintro ⟨d, hd, hdi⟩
    rcases List.mem_append.1 hd with hd | hd
    · exact hbxL d hd hdi
    · simp at hd; subst hd; subst hrd
      rcases hdi with hdi | hdi
      · have : bx = w.heap.size + 1 := hdi
        omega
      · have : bx = w.heap.size := hdi
        omega
  have hfreeX : Free w0 F (orb (foots (Lm ++ [rd])) bx) W1 := by
    refine ⟨(hfree hst1).1, fun c hc i hi h => ?_, fun i hi h => ?_⟩
    · rcases h with h | h
      · exact (hfree hst1).2.1 c hc i hi h
      · exact hbxF c hc (h ▸ hi)
    · rcases h with h | h
      · exact (hfree hst1).2.2 i hi h
      · omega
  have hFW : ∀ c ∈ F, ∀ i, c.foot i → i < W1.heap.size := fun c hc i hi => hst1.lt (c := c) (by simp [hc]) hi
  refine ⟨w.heap.size + 1, [mark w.heap.size], W1, { target := .fn (.func gf) cap.toArray, args := first.toArray ++ #[Value.func (.yield (w.heap.size + 1)) #[] #[]] }, W1, gf,
    (first ++ [Value.func (.yield (w.heap.size + 1)) #[] #[]] ++ cap).toArray, W1, ?_, ?_, fun _ _ => trivial, ?_, fun h => (by cases h), ?_⟩
  · rw [← hW1, hrc]; exact run_enterLoop_outer _ _ _ _ _
  · have he : (frd D l).eval g = .func (.func gf) first.toArray cap.toArray := by rw [frd_eval]; exact hg
    simp only [resolve, he]
    simp [go_sem]
  · simp [invoke, go_sem, run_call hcal]
  · refine calls_fen ((hit (w.heap.size + 1) W1.heap.size
      (fun k f W => ∃ L', JL k L' ∧ St w0 (L' ++ (F ++ [rd])) W ∧ f = foots (L' ++ [rd]) ∧ ¬ f bx ∧ bx < W.heap.size)
      (fun k f W => ∃ c L', JX c L' ∧ St w0 (L' ++ (F ++ [both (obj (w.heap.size + 1) (.loop (rc .done (some c)))) (dfr w.heap.size)])) W ∧ f = foots (L' ++ [rd]) ∧ ¬ f bx ∧ bx < W.heap.size)
      (foots (Lm ++ [rd])) W1 (Nat.le_refl _) hbx1 ?_ ?_ ?_ ?_ ?_ hbxf ?_ ⟨Lm, h0, hst1, rfl, hbxf, hbx1⟩ (hpre _ _ hfreeX ((hwX.keep (hb1.mono hw.1.size) (fun c hc k hk => hb1.block k (hwX.lt hc hk))).2.1 (blk bx tx cx) (by simp)).1)).mono ?_)
    · rintro k f W W' ⟨L', h1, h2, rfl, hn, hlt⟩ hb hs
      refine ⟨L', h1, h2.keep (hb.below hst1.1.size hbx0) (fun c hc i hi => ?_), rfl, hn, Nat.lt_of_lt_of_le hlt hb.size⟩
      rcases List.mem_append.1 hc with hc | hc
      · exact hs i ⟨c, by simp [hc], hi⟩
      rcases List.mem_append.1 hc with hc | hc
      · exact hb.block i (hFW c hc i hi) (fun e => hbxF c hc (e ▸ hi))
      · exact hs i ⟨c, by simp [List.mem_singleton.1 hc], hi⟩
    · rintro k f W W' ⟨c0, L', h1, h2, rfl, hn, hlt⟩ hb hs
      refine ⟨c0, L', h1, h2.keep (hb.below hst1.1.size hbx0) (fun c hc i hi => ?_), rfl, hn, Nat.lt_of_lt_of_le hlt hb.size⟩
      rcases List.mem_append.1 hc with hc | hc
      · exact hs i ⟨c, by simp [hc], hi⟩
      rcases List.mem_append.1 hc with hc | hc
      · exact hb.block i (hFW c hc i hi) (fun e => hbxF c hc (e ▸ hi))
      · refine hs i ⟨rd, by simp, ?_⟩
        have := List.mem_singleton.1 hc
        subst this; subst hrd; exact hi
    · rintro k f W ⟨L', h1, h2, rfl, hn, hlt⟩
      have h3 := h2.lt (c := rd) (k := w.heap.size + 1) (by simp) (by subst hrd; exact .inl rfl)
      rw [hsz1]; omega
    · rintro k f W ⟨c0, L', h1, h2, rfl, hn, hlt⟩
      have h3 := h2.lt (c := both (obj (w.heap.size + 1) (.loop (rc .done (some c0)))) (dfr w.heap.size)) (k := w.heap.size + 1) (by simp) (.inl rfl)
      rw [hsz1]; omega
    · rintro i ⟨c, hc, hi⟩
      exact (hsub hst1).lt hc hi
    · -- one round
      rintro k x f W hx ⟨L', hJ, hstF, rfl, hbn, hblt⟩
      have hst := hsub hstF
      have hl : W.heap[w.heap.size + 1]? = some (.loop (rc .ready none)) := by
        have := (st_front hst).2.1
        subst hrd; exact this.1
      have hy := run_yield (P := P) (args := (enc x).toArray) hl (by rw [hrc]; simp [hps])
      have hy' : (Instr.yield (w.heap.size + 1) (enc x).toArray).run P W = .ok (.round (w.heap.size + 1) fn (setP l ps (enc x)).toArray assign body) W := by
        rw [hy, hrc]
        congr 2
        exact setP_arr l ps (enc x)
      refine ⟨fn, _, assign, body, hy', roundIn_of_wpIn trivial ?_⟩
      obtain ⟨ot, hot⟩ : ∃ ot : Chunk, ot = oth w0.heap.size (L' ++ [rd]) W := ⟨_, rfl⟩
      have hf := st_front hst
      have hE1 : St w0 (L' ++ [both rd ot]) W := by subst hot; exact fix_in hstF
      refine wide_seq (r := some (w.heap.size + 1)) (round k x L' (w.heap.size + 1) (both rd ot) hx (fun b t cs hm => by subst hot; exact fix_ptr hstF hm) hJ W hE1) ?_
      rintro e a1 w1 hp
      cases e with
      | normal =>
        obtain ⟨l2, L2, rfl, hst2, hbody⟩ := hp
        have hf2 := st_front hst2
        have hl2 : w1.heap[w.heap.size + 1]? = some (.loop (rc .ready none)) := by
          have h1 := hf2.2.1.1
          subst hrd; exact h1.1
        have hd2 : w1.heap[w.heap.size]? = some (.deferred (some [])) := by
          have h1 := hf2.2.1.1
          subst hrd; exact h1.2
        refine ⟨_, run_beginRound hl2 (by rw [hrc]), ?_⟩
        obtain ⟨rb, hrb⟩ : ∃ rb : Chunk, rb = both (obj (w.heap.size + 1) (.loop (rc .busy none))) (dfr w.heap.size) := ⟨_, rfl⟩
        have hlt : ∀ {W : World} {o : Obj}, W.heap[w.heap.size + 1]? = some o → w.heap.size + 1 < W.heap.size := fun h => lt_of_some h
        have hfoot : ∀ k, rb.foot k ↔ rd.foot k := fun k => by subst hrb; subst hrd; exact Iff.rfl
        have hrdl : rd.foot (w.heap.size + 1) := by subst hrd; exact .inl rfl
        have hrdd : rd.foot w.heap.size := by subst hrd; exact .inr rfl
        have hotn : ∀ {W' : World} {o : Obj}, ot.holds W' → ot.holds (W'.putObj (w.heap.size + 1) o) := fun h => by
          refine ot.loc _ _ h (fun k hk => World.putObj_heap_other (fun e => ?_))
          subst hot; subst e
          exact hk.2.2 ⟨rd, by simp, hrdl⟩
        have hst3 : St w0 (L2 ++ [both rb ot]) (w1.putObj (w.heap.size + 1) (.loop (rc .busy none))) := by
          refine st_put hst2 (.inl hrdl) ⟨?_, hotn hf2.2.1.2⟩ (fun k hk => ?_)
          · subst hrb
            exact ⟨World.putObj_heap_same (hlt hl2), (World.putObj_heap_other (by omega)).trans hd2⟩
          · rcases hk with hk | hk
            · exact .inl ((hfoot k).1 hk)
            · exact .inr hk
        have e0 : ({ rc .ready none with state := .busy } : Loop) = rc .busy none := by rw [hrc]
        rw [e0]
        refine wide_seq (r := some (w.heap.size + 1)) (hbody (both rb ot) (fun b t cs hm => by subst hot; exact fix_ptr hstF hm) _ hst3) ?_
        -- what a round's end owes
        have fin : ∀ (jump : Option Code) (w3 : World) (L3 : List Chunk), St w0 (L3 ++ [both rb ot]) w3 →
            (Instr.endRound (w.heap.size + 1) jump).run P w3 = .ok (.bool jump.isNone) (w3.putObj (w.heap.size + 1) (.loop (rc (if jump.isNone then .ready else .done) jump))) ∧
            St w0 (L3 ++ (F ++ [both (obj (w.heap.size + 1) (.loop (rc (if jump.isNone then .ready else .done) jump))) (dfr w.heap.size)])) (w3.putObj (w.heap.size + 1) (.loop (rc (if jump.isNone then .ready else .done) jump))) ∧
            Grew (foots (L' ++ [rd])) W (foots (L3 ++ [rd])) ∧ Kept (foots (L' ++ [rd])) W (w3.putObj (w.heap.size + 1) (.loop (rc (if jump.isNone then .ready else .done) jump))) ∧
            ∀ i, foots (L3 ++ [rd]) i → i < (w3.putObj (w.heap.size + 1) (.loop (rc (if jump.isNone then .ready else .done) jump))).heap.size := by
          intro jump w3 L3 hst4
          have hf4 := st_front hst4
          have h1 := hf4.2.1.1
          have hl4 : w3.heap[w.heap.size + 1]? = some (.loop (rc .busy none)) := by subst hrb; exact h1.1
          have hd4 : w3.heap[w.heap.size]? = some (.deferred (some [])) := by subst hrb; exact h1.2
          have hst5 : St w0 ((L3 ++ F) ++ [rb]) w3 := by
            rw [List.append_assoc]; subst hot; exact fix_expand hF hfoot hstF hst4
          have hs4 : St w0 (L3 ++ (F ++ [both (obj (w.heap.size + 1) (.loop (rc (if jump.isNone then .ready else .done) jump))) (dfr w.heap.size)])) (w3.putObj (w.heap.size + 1) (.loop (rc (if jump.isNone then .ready else .done) jump))) := by
            rw [← List.append_assoc]
            refine st_put hst5 ((hfoot _).2 hrdl) ⟨World.putObj_heap_same (hlt hl4), (World.putObj_heap_other (by omega)).trans hd4⟩ (fun k hk => (hfoot k).2 ?_)
            subst hrd; exact hk
          refine ⟨?_, hs4, ?_, ?_, ?_⟩
          · have := run_endRound (P := P) jump hl4
            rw [this, hrc]
          · rintro i ⟨c, hc, hi⟩
            by_cases hfi : foots (L' ++ [rd]) i
            · exact .inl hfi
            · refine .inr (Nat.le_of_not_lt fun hlt' => ?_)
              rcases List.mem_append.1 hc with hc | hc
              · refine hf4.2.2.2 c hc i hi (.inr ?_)
                subst hot
                exact ⟨(hst4.2.1 c (by simp [hc])).2 i hi, hlt', hfi⟩
              · simp at hc; subst hc; exact hfi ⟨c, by simp, hi⟩
          · intro i hi hni
            have hne : i ≠ w.heap.size + 1 := fun e => hni ⟨rd, by simp, by subst e; exact hrdl⟩
            rw [World.putObj_heap_other (by omega)]
            rcases Nat.lt_or_ge i w0.heap.size with h2 | h2
            · rw [hst4.1.block i h2, hst.1.block i h2]
            · have h3 := hf4.2.1.2
              subst hot
              exact h3 i h2 hi hni
          · rintro i ⟨c, hc, hi⟩
            have hs4' := hsub hs4
            rcases List.mem_append.1 hc with hc | hc
            · exact hs4'.lt (c := c) (by simp [hc]) hi
            · simp at hc
              refine hs4'.lt (c := both (obj (w.heap.size + 1) (.loop (rc (if jump.isNone then .ready else .done) jump))) (dfr w.heap.size)) (by simp) ?_
              subst hc; subst hrd; exact hi
        rintro e a3 w3 hq
        cases e with
        | normal =>
          obtain ⟨L3, hJ3, hst4⟩ := hq
          obtain ⟨hr, hs, hgr, hk, hlt3⟩ := fin none w3 L3 hst4
          exact ⟨_, _, hr, _, hgr, hk, hlt3, .inl ⟨rfl, L3, hJ3, by subst hrd; exact hs, rfl, fun h => (hgr _ h).elim hbn (fun h => by omega), lt_of_same hblt (hk bx hblt hbn)⟩⟩
        | ret =>
          obtain ⟨L3, hJ3, hst4⟩ := hq
          obtain ⟨hr, hs, hgr, hk, hlt3⟩ := fin (some .ret) w3 L3 hst4
          exact ⟨_, _, hr, _, hgr, hk, hlt3, .inr ⟨rfl, _, L3, hJ3, hs, rfl, fun h => (hgr _ h).elim hbn (fun h => by omega), lt_of_same hblt (hk bx hblt hbn)⟩⟩
        | exit id =>
          obtain ⟨L3, hJ3, hst4⟩ := hq
          obtain ⟨hr, hs, hgr, hk, hlt3⟩ := fin (some (.exit id)) w3 L3 hst4
          exact ⟨_, _, hr, _, hgr, hk, hlt3, .inr ⟨rfl, _, L3, hJ3, hs, rfl, fun h => (hgr _ h).elim hbn (fun h => by omega), lt_of_same hblt (hk bx hblt hbn)⟩⟩
        | _ => exact (show False from hq).elim
      | _ => exact (show False from hp).elim
    · -- the function has returned
      rintro e w3 ⟨⟨v, rfl⟩, hh⟩
      have hdef : ({ frd D l with defers := [mark w.heap.size] ++ (frd D l).defers } : Act) = frd (mark w.heap.size :: D) l := rfl
      rw [hdef]
      rcases hh with ⟨f', L', hJ, hstF, _⟩ | ⟨k, f', _, c, L', hJ, hstF, _⟩
      · have hf := st_front (hsub hstF)
        have hl3 : w3.heap[w.heap.size + 1]? = some (.loop (rc .ready none)) := by
          have h1 := hf.2.1
          subst hrd; exact h1.1
        have hd3 : w3.heap[w.heap.size]? = some (.deferred (some [])) := by
          have h1 := hf.2.1
          subst hrd; exact h1.2
        have hend := run_endLoop (P := P) hl3 (by rw [hrc]; simp)
        refine ⟨_, _, hend, ?_⟩
        have e1 : (rc .ready none).pending = none := by rw [hrc]
        rw [e1]
        refine done _ L' hJ _ ?_
        rw [← List.append_assoc] at hstF ⊢
        exact st_put hstF (by subst hrd; exact .inl rfl) ((World.putObj_heap_other (by omega)).trans hd3) (fun k hk => by subst hrd; exact .inr hk)
      · have hf := st_front (hsub hstF)
        have hl3 : w3.heap[w.heap.size + 1]? = some (.loop (rc .done (some c))) := hf.2.1.1
        have hd3 : w3.heap[w.heap.size]? = some (.deferred (some [])) := hf.2.1.2
        have hend := run_endLoop (P := P) hl3 (by rw [hrc]; simp)
        refine ⟨_, _, hend, ?_⟩
        have e1 : (rc .done (some c)).pending = some c := by rw [hrc]
        rw [e1]
        refine stop _ c L' hJ _ ?_
        rw [← List.append_assoc] at hstF ⊢
        exact st_put hstF (.inl rfl) ((World.putObj_heap_other (by omega)).trans hd3) (fun k hk => .inr hk)
theorem yield_steps {α : Type} {P : Program} {lr : Nat} {enc : α → List Value} {XS : List α} {J Jx : Nat → (Nat → Prop) → World → Prop} (hR : RoundOK2 P lr enc XS J Jx) {k : Nat} {x : α} {f : Nat → Prop} {w : World} (hx : XS[k]? = some x) (hJ : J k f w) :
    YieldAt (fen none) 0 P lr (enc x).toArray w (fun e w' => ∃ b, e = .returned (.bool b) ∧ Step2 XS J Jx k f w b w') := by
  obtain ⟨fn, tmps, assign, body, h1, h2⟩ := hR k x f w hx hJ
  refine ⟨fn, tmps, assign, body, h1, h2.mono ?_⟩
  rintro e w' ⟨f', hg, hk, hl, h⟩
  rcases h with ⟨he, h⟩ | ⟨he, h⟩
  · exact ⟨true, he, .inl ⟨rfl, f', h, Keep.of hg hk, hg, hl⟩⟩
  · exact ⟨false, he, .inr ⟨rfl, k + 1, f', (List.getElem?_eq_some_iff.1 hx).1, h, Keep.of hg hk, hg, hl⟩⟩
/-- The end of a round. -/
def RoundEndN (Inv : Nat → List Value → World → Prop) (m : Nat) (wi wr : List Nat) (l : List Value) : Act → World → Prop :=
  fun a w' => ∃ m' vi' vr', a = frd [] (setF vr' (setM l wi vi') wr) ∧ Inv m' vi' w' ∧ m' < m
/-- Loops that call yield, whose count is not in the frame. -/
theorem loopN {P : Program} {w0 : World} {L : List Chunk} {Q : Exit → Act → World → Prop} {l : List Value} {x : Code} {n : Nat} (wi wr : List Nat) (Inv : Nat → List Value → World → Prop) (n0 : Nat) (h0 : ∀ w, St w0 L w → Inv n0 (wi.map (nth l)) w)
    (round : ∀ m vi vr W, Inv m vi W → Hold W [] (x.wpIn (fen none) n P (Exit.then (RoundEndN Inv m wi wr l) Q) (frd [] (setF vr (setM l wi vi) wr)))) :
    Hold w0 L ((Code.loop x).wpIn (fen none) n P Q (frd [] l)) := by
  intro w hw
  refine wpIn_loop_ghost (fun n a w => ∃ vi vr, a = frd [] (setF vr (setM l wi vi) wr) ∧ Inv n vi w) _ ⟨_, nth l, by rw [setM_self, setF_self], h0 w hw⟩ ?_
  rintro n a w ⟨vi, vr, rfl, hJ⟩
  refine wpIn_mono (round n vi vr w hJ w (St.start w)) (fun e a' w' hq => ?_)
  cases e with
  | normal =>
    obtain ⟨m', vi', vr', rfl, hJ', hlt⟩ := hq
    exact ⟨_, hlt, vi', vr', rfl, hJ'⟩
  | _ => exact hq
theorem roundN {w0 : World} {L : List Chunk} {Q : Exit → Act → World → Prop} {Inv : Nat → List Value → World → Prop} {wi wr : List Nat} {l0 l : List Value} {m : Nat} (m' : Nat) (vi' : List Value) (hJ : ∀ w, St w0 L w → Inv m' vi' w) (hμ : m' < m) (he : l = setF (nth l) (setM l0 wi vi') wr) :
    Hold w0 L (Exit.then (RoundEndN Inv m wi wr l0) Q .normal (frd [] l)) := fun w hw => ⟨m', vi', nth l, by rw [← he], hJ w hw, hμ⟩
section
variable {r : Option Nat} {n : Nat} {P : Program} {w0 : World} {L : List Chunk} {D : List Deferred} {ops : Array Oper} {Q : Exit → Act → World → Prop} {rest : List Oper} {l : List Value} {o : Oper} {v : Value} {id : Nat}
/-- A call of yield. -/
theorem lseq_yield2 {d : Option Tmp} {ty : TypeId} {ps : String} {af : Array Edge} {g : Option (Nat × Bool)} {x : Operand} {ys : List Operand} {lr : Nat} {us : List Value} {ts : Array TypeId} {post : World → Bool → World → Prop} (hx : ev l x = .func (.yield lr) #[] #[]) (hy : ys.map (ev l) = us)
    (hg : wantL ops.toList l g = true) (hc : ∀ w, St w0 L w → YieldAt (fen none) 0 P lr us.toArray w (fun e w' => ∃ b, e = .returned (.bool b) ∧ post w b w'))
    (k : ∀ w, St w0 L w → ∀ b w', post w b w' → Hold w' [] (wpListIn (fen r) n P ops Q rest (frd D (setd l d (.bool b))))) : Hold w0 L (wpListIn (fen r) n P ops Q (⟨d, .call { callee := .value x, args := ys.toArray, argTypes := ts }, ty, ps, af, g⟩ :: rest) (frd D l)) := by
  intro w hw
  unfold wpListIn
  have hyl : Region.wanted ⟨d, .call { callee := .value x, args := ys.toArray, argTypes := ts }, ty, ps, af, g⟩ (yielded ops (frd D l).tmps) = wantL ops.toList l g := wanted_eq ops l _
  rw [if_pos (by rw [hyl]; exact hg)]
  refine ⟨fun _ _ => trivial, ?_⟩
  have hs : (⟨d, .call { callee := .value x, args := ys.toArray, argTypes := ts }, ty, ps, af, g⟩ : Oper).semAt (fen r).round (frd D l).eval = execOp (ev l) ⟨d, .call { callee := .value x, args := ys.toArray, argTypes := ts }, ty, ps, af, g⟩ := by
    rw [frd_eval]
    cases r with
    | none => rfl
    | some l' => exact Oper.semAt_some l' (ev l) _ (fun c hc => by cases hc)
  obtain ⟨fn, tmps, assign, body, hrun, hround⟩ := hc w hw
  rw [hs]
  have hexec : (execOp (ev l) ⟨d, .call { callee := .value x, args := ys.toArray, argTypes := ts }, ty, ps, af, g⟩).run P w = .ok (.round lr fn tmps assign body) w := by
    have e2 : ys.toArray.map (ev l) = us.toArray := by rw [← hy]; simp
    simp only [execOp, resolve, hx, e2, Deferred.ofValue, Sem.run_bind, Sem.run_pure, Result.andThen_ok, invoke]
    simp [hrun]
  rw [hexec]
  refine ⟨fun h => (by cases h), (round_fen hround).mono ?_⟩
  rintro e w' ⟨b, rfl, h⟩
  show wpListIn (fen r) n P ops Q rest ((frd D l).put d (.bool b)) w'
  rw [frd_put]
  exact k w hw b w' h w' (St.start w')
end
section
variable {P : Program} {w0 : World} {L : List Chunk} {ops : Array Oper} {Q : Exit → Act → World → Prop} {rest : List Oper} {l : List Value} {d : Option Tmp} {ty : TypeId} {ps : String} {af : Array Edge} {g : Option (Nat × Bool)}
theorem store_old {w : World} {t n b i : Nat} {e : TypeId} {x y : Operand} {cs : List Value} (hn : sz P t = some n) (hx : ev l x = .pointer (some ⟨b, i, none⟩)) (hlen : (cl (ev l y)).length = n) (hfit : i + n ≤ cs.length)
    (h1 : (cl (ev l y)).all Value.oneCell' = true) (hh : w.heap[b]? = some (.cells cs.toArray e (0, 0))) :
    OpT P ⟨d, .store t x y, ty, ps, af, g⟩ l w (fun _ w' => w' = w.setRow b (over cs i (cl (ev l y))).toArray) := by
  have hst := run_storeCells_at P b i e (cl (ev l y)) 0 cs.toArray w hh (by simp; omega) (by simpa using h1)
  simp only [Nat.add_zero] at hst
  rw [← over_eq _ _ _ (by omega)] at hst
  refine OpT.of_skip (w' := w.setRow b (over cs i (cl (ev l y))).toArray) ?_ rfl
  unfold sz at hn
  cases hi : P.info? t with
  | none => simp [hi] at hn
  | some q =>
    have hs : q.size = n := by simpa [hi] using hn
    have hcs : (ev l y).cells.size = n := by rw [← hlen, ← cells_cl]; simp
    simp [execOp, hx, Instr.storeAt, Instr.sureAddr, storeVar, sizeOf, typeInfo, hi, hs, hcs, cells_cl, hst]
/-- A store into a block that was there before. -/
theorem seq_old {t n b i : Nat} {e : TypeId} {x y : Operand} {cs : List Value} (hn : sz P t = some n) (hx : ev l x = .pointer (some ⟨b, i, none⟩)) (hlen : (cl (ev l y)).length = n) (hfit : i + n ≤ cs.length)
    (h1 : (cl (ev l y)).all Value.oneCell' = true) (hg : wantL ops.toList l g = true) (hd : d = none) (hh : ∀ w, St w0 L w → w.heap[b]? = some (.cells cs.toArray e (0, 0)))
    (k : ∀ w w', St w0 L w → w'.heap[b]? = some (.cells (over cs i (cl (ev l y))).toArray e (0, 0)) → (∀ i, i ≠ b → w'.heap[i]? = w.heap[i]?) → (∀ B, BelowX B b w w') → Hold w' [] (wpList P ops Q rest (fr l))) :
    Hold w0 L (wpList P ops Q (⟨d, .store t x y, ty, ps, af, g⟩ :: rest) (fr l)) :=
  seq_op (R := fun w v w' => w' = w.setRow b (over cs i (cl (ev l y))).toArray) hg (fun w hw => store_old hn hx hlen hfit h1 (hh w hw)) (fun w hw v w' hR => by
    subst hR; subst hd
    have hgr := grownBy_setRow w b (over cs i (cl (ev l y))).toArray
    have hne : ∀ j, j ≠ b → (w.setRow b (over cs i (cl (ev l y))).toArray).heap[j]? = w.heap[j]? := fun j hj => by
      simp only [World.setRow, Array.getElem?_modify]
      rw [if_neg (fun e => hj e.symm)]
    exact k w _ hw (setRow_heap w b cs.toArray _ e (0, 0) (hh w hw)) hne (fun B => ⟨hgr.os, hgr.tape, hgr.output, hgr.size, fun j _ hj => hne j hj⟩) _ (St.start _))
end
end Go.R

namespace Go.K
open Go.RowKit
theorem row_holds {v : Value} {e : TypeId} {size n : Nat} {xs : List Value} {w : World} : (row v e size n xs).holds w ↔ w.ownsRow 0 e size v n xs := Iff.rfl
theorem row_foot {v : Value} {e : TypeId} {size n k : Nat} {xs : List Value} : (row v e size n xs).foot k ↔ v.ownBlock = some k := Iff.rfl
/-- The element's type of a slice, its bytes, and what it is at first: of one cell. -/
def mk1 (P : Program) (t : TypeId) : Option (TypeId × Nat × Value) :=
  match P.underlying t with
  | some (.slice e) => match P.info? e with
    | some i => match i.zero with
      | some z => if z.cells.size = 1 ∧ i.size = 1 then some (e, i.bytes, z.cells[0]!) else none
      | none => none
    | none => none
  | _ => none
theorem mk1_spec {P : Program} {t e b : Nat} {u : Value} (h : mk1 P t = some (e, b, u)) : ∃ i z, P.underlying t = some (.slice e) ∧ P.info? e = some i ∧ i.zero = some z ∧ i.size = 1 ∧ i.bytes = b ∧ z.cells = #[u] := by
  unfold mk1 at h
  split at h
  · rename_i e' hs
    split at h
    · rename_i i hi
      split at h
      · rename_i z hz
        split at h
        · rename_i hc
          simp only [Option.some.injEq, Prod.mk.injEq] at h
          obtain ⟨rfl, rfl, rfl⟩ := h
          refine ⟨i, z, hs, hi, hz, hc.2, rfl, ?_⟩
          apply Array.ext
          · simp [hc.1]
          · intro j h1 h2
            have : j = 0 := by simp at h2; omega
            subst this
            simp [hc.1]
        · cases h
      · cases h
    · cases h
  · cases h
theorem made1 (u : Value) (n : Nat) : madeCells #[u] n = (List.replicate n u).toArray := by
  apply Array.ext
  · simp [madeCells]
  · intro j h1 h2
    simp [madeCells, Nat.mod_one]
section
variable {P : Program} {w0 : World} {L L' : List Chunk} {l : List Value} {d : Option Tmp} {ty : TypeId} {ps : String} {af : Array Edge} {g : Option (Nat × Bool)}
theorem mkSlice {t e bytes n : Nat} {u : Value} {x y : Operand} (h : mk1 P t = some (e, bytes, u)) (hx : ev l x = .int .i64 (n : Int)) (hy : ev l y = .int .i64 (n : Int)) (hb : bytes * n ≤ 281474976710656) (hn : n ≤ 281474976710656) :
    Loud P w0 L ⟨d, .makeSlice t x y, ty, ps, af, g⟩ l (fun _ : Nat => True) (fun b => .slice (some ⟨b, 0, none⟩) n n) (fun b => [blk b e (List.replicate n u)]) := fun F w _ hw => by
  obtain ⟨i, z, hs, hi, hz, h1, h2, h3⟩ := mk1_spec h
  refine OpT.of_run (w' := w.alloc (.cells (List.replicate n u).toArray e)) ?_ ⟨w.heap.size, trivial, rfl, hw.new e (List.replicate n u)⟩
  have hb' : (i.bytes : Int) * (n : Int) ≤ 281474976710656 := by
    rw [h2]
    have : ((bytes * n : Nat) : Int) ≤ 281474976710656 := by omega
    rwa [Int.natCast_mul] at this
  have hr := run_make (P := P) w t e i z hs hi hz .i64 .i64 n n (by omega) (Int.le_refl _) hb' (by omega)
  rw [h3, h1, Int.toNat_natCast, Nat.mul_one, made1] at hr
  simp only [execOp, hx, hy, Sem.run_bind, hr, Sem.run_pure, Result.andThen_ok]
theorem rep_int {n : Nat} {z : Int} : List.replicate n (Value.int .i64 z) = (List.replicate n z).flatMap eI := by
  induction n with
  | zero => rfl
  | succ n ih => rw [List.replicate_succ, List.replicate_succ, List.flatMap_cons, ih]; rfl
theorem andnot_int {xt yt : TypeId} {x y : Operand} {k : IntKind} {m n : Int} (hx : ev l x = .int k m) (hy : ev l y = .int k n) : Pure P ⟨d, .binOp .andNot xt x y yt, ty, ps, af, g⟩ l (.int k (k.wrap (BitVec.ofInt k.bits m &&& ~~~BitVec.ofInt k.bits n).toNat)) := fun w => by
  simp [execOp, hx, hy, binOp, eqGuard, Op.intBits]
/-- A row, of which only the first part is looked at. -/
theorem row_shrink {A : Option Addr} {n m c e size : Nat} {xs : List Value} {G : World → Prop} (hr : Rep (row (.slice A n c) e size n xs) (row (.slice A m c) e size m (xs.take (m * size))) L L') (hm : m ≤ n) (k : Hold w0 L' G) : Hold w0 L G := fun w hw => by
  have ho : w.ownsRow 0 e size (.slice A n c) n xs := (hw.2.1 _ hr.mem).1
  refine k w (hw.upd (row := none) hr ⟨rfl, rfl, rfl, Nat.le_refl _, fun _ _ _ => rfl⟩ (fun _ h => by cases h) ?_ (fun q hq => .inl ?_))
  · obtain ⟨hl, hd⟩ := ho
    have hml : m * size ≤ n * size := Nat.mul_le_mul_right _ hm
    refine ⟨by rw [List.length_take]; omega, ?_⟩
    rcases hd with ⟨hv, h0⟩ | ⟨gg, cap, cur, hv, hb, hh, h2, h3, h4, h5⟩
    · injection hv with e1 _ e3
      subst e1; subst e3
      exact .inl ⟨by rw [show m = 0 by omega], by omega⟩
    · injection hv with e1 _ e3
      subst e1; subst e3
      refine .inr ⟨gg, c, cur, rfl, hb, hh, by omega, h3, h4, ?_⟩
      rw [← h5, List.take_take, Nat.min_eq_left hml]
  · cases A with
    | none => simp [row, Value.ownBlock] at hq
    | some a => exact hq
theorem row_pop {A : Option Addr} {n c e : Nat} {xs : List Value} {v : Value} {G : World → Prop} (hr : Rep (row (.slice A (n + 1) c) e 1 (n + 1) (xs ++ [v])) (row (.slice A n c) e 1 n xs) L L') (hl : xs.length = n) (k : Hold w0 L' G) : Hold w0 L G := by
  have e1 : (xs ++ [v]).take (n * 1) = xs := by rw [Nat.mul_one, ← hl, List.take_left]
  have hr2 : Rep (row (.slice A (n + 1) c) e 1 (n + 1) (xs ++ [v])) (row (.slice A n c) e 1 n ((xs ++ [v]).take (n * 1))) L L' := by rw [e1]; exact hr
  exact row_shrink hr2 (Nat.le_succ n) k
theorem slice_hm {t et size n c : Nat} {x y z : Operand} {A : Option Addr} {k k' : IntKind} (hs : sl P t = some (et, size)) (hx : ev l x = .slice A n c) (hy : ev l y = .int k (n : Int)) (hz : ev l z = .int k' (n : Int)) (h1 : n ≤ c) :
    Pure P ⟨d, .slice t x none (some y) (some z), ty, ps, af, g⟩ l (.slice A n n) := fun w => by
  obtain ⟨hu, he⟩ := elem_sl hs
  obtain ⟨i, _, hi, hn⟩ := sl_spec hs
  have := run_slice_hm (P := P) w t A n c hu k k' (n : Int) (n : Int) (by omega) (by omega) (by omega)
  have e0 : A.map (fun a => a.add (0 * size)) = A := by cases A <;> simp [addr_add0]
  simp only [execOp, Option.map_some, Option.map_none, hx, hy, hz, run_sliceAt_slice w t _ none _ _ hu, this, sizeOf, typeInfo, he, hi, hn, Sem.run_bind, run_program, Sem.run_pure, Result.andThen_ok, sliced, Nat.sub_zero, Int.toNat_natCast, e0, ite_self]
/-- An append to a slice without room: a new row. -/
theorem appendN {t ty' e size bytes n m c' : Nat} {A : Option Addr} {ad : Addr} {s x : Operand} {E : Type} {enc : E → List Value} {xs : List E} {news : List Value} {M : List Chunk} (ht : el P t = some (e, size, bytes)) (hs : ev l s = .slice A n n) (hx : ev l x = .slice (some ad) m c')
    (hold : Sl w0 M A size enc xs) (hM : ∀ c ∈ M, c ∈ L) (hA : xs.length = 0 ∨ ∃ b, A = some ⟨b, 0, none⟩) (hn : xs.length = n) (hle : ∀ x, (enc x).length = size)
    (hp : PtrL w0 L ad news) (hl : news.length = m * size) (hm : 0 < m) (hb : (n + m) * bytes ≤ 140737488355328) (hb' : n + m ≤ 140737488355328) :
    Loud P w0 L ⟨d, .call { callee := .builtin .append, args := #[s, x], argTypes := #[t, t] }, ty', ps, af, g⟩ l (fun _ : Nat × Nat => True) (fun r => .slice (some ⟨r.1, 0, none⟩) (n + m) r.2) (fun r => [row (.slice (some ⟨r.1, 0, none⟩) (n + m) r.2) e size (n + m) (xs.flatMap enc ++ news)]) := fun F w hF hw => by
  obtain ⟨i, z, hu, hi, hz, hsi, hby, hzs, hpos⟩ := el_spec ht
  subst hsi hby hn
  have hlo : (xs.flatMap enc).length = xs.length * i.size := flat_len hle xs
  have hnw := hp F w hF hw
  have hlen : (xs.flatMap enc ++ news).length = (xs.length + m) * i.size := by rw [List.length_append, hlo, hl, Nat.add_mul]
  have key : ∀ old, old ≤ xs.length → (Builtin.append_ #[t, t] ty' #[.slice A xs.length xs.length, .slice (some ad) m c']).run P w =
      .ok (.slice (some ⟨w.heap.size, 0, none⟩) (xs.length + m) (grownCap w (xs.length + m) old e)) (w.drew.alloc (.cells ((xs.flatMap enc).toArray ++ news.toArray ++ Builtin.zeroCells z.cells (grownCap w (xs.length + m) old e - (xs.length + m))) e)) →
      OpT P ⟨d, .call { callee := .builtin .append, args := #[s, x], argTypes := #[t, t] }, ty', ps, af, g⟩ l w (fun v w' => ∃ r : Nat × Nat, True ∧ v = .slice (some ⟨r.1, 0, none⟩) (xs.length + m) r.2 ∧ St w0 ([row (.slice (some ⟨r.1, 0, none⟩) (xs.length + m) r.2) e i.size (xs.length + m) (xs.flatMap enc ++ news)] ++ F) w') := fun old ho hr => by
    have hge := grownCap_ge w (xs.length + m) old e
    have hcm : grownCap w (xs.length + m) old e ≤ maxLen := grownCap_le_maxLen w (xs.length + m) old e (by simp only [maxLen]; omega)
    refine OpT.of_run (w' := w.drew.alloc (.cells ((xs.flatMap enc).toArray ++ news.toArray ++ Builtin.zeroCells z.cells (grownCap w (xs.length + m) old e - (xs.length + m))) e)) ?_ ⟨(w.heap.size, grownCap w (xs.length + m) old e), trivial, rfl, ?_⟩
    · simp only [execOp, resolve, invoke, builtin, Sem.run_bind, Sem.run_pure, Result.andThen_ok, List.map_toArray, List.map_cons, List.map_nil, hs, hx, hr]
    · have hbe : Below w.heap.size w (w.drew.alloc (.cells ((xs.flatMap enc).toArray ++ news.toArray ++ Builtin.zeroCells z.cells (grownCap w (xs.length + m) old e - (xs.length + m))) e)) := (Below.refl _ w).drew.alloc (by simp) _
      have hst := hw.keep (hbe.mono hw.1.size) (fun c hc k hk => hbe.block k (hw.lt hc hk))
      refine ⟨hst.1, fun c hc => ?_, ?_⟩
      · rcases List.mem_append.1 hc with hc | hc
        · simp at hc; subst hc
          refine ⟨⟨hlen, .inr ⟨w.heap.size, _, _, rfl, Nat.zero_le _, heap_alloc_new w.drew _, hge, hcm, ?_, ?_⟩⟩, fun k hk => ?_⟩
          · simp only [Array.size_append, List.size_toArray, size_zeroCells, hzs, hlo, hl, ← Nat.add_mul]
            congr 1
            omega
          · simp only [Array.toList_append, List.append_assoc]
            rw [← List.append_assoc, ← hlen]
            exact List.take_left
          · have : w.heap.size = k := by simpa [row, Value.ownBlock] using hk
            have := hw.1.size
            omega
        · exact hst.2.1 c hc
      · refine List.pairwise_append.2 ⟨by simp, hst.2.2, fun c hc c2 hc2 k hk hk2 => ?_⟩
        simp at hc; subst hc
        have e1 : w.heap.size = k := by simpa [row, Value.ownBlock] using hk
        have := hw.lt hc2 hk2
        omega
  cases A with
  | none =>
    have h0 : xs = [] := by
      rcases hA with h | ⟨b, h⟩
      · exact List.eq_nil_of_length_eq_zero h
      · cases h
    subst h0
    refine key 0 (Nat.le_refl _) ?_
    have hr := run_append_nil (P := P) w t ty' e i z hu hi hz ad m c' news hl hnw hm (by omega) (by
      have hb2 := hb
      simp only [List.length_nil, Nat.zero_add] at hb2; omega)
    simpa using hr
  | some a =>
    refine key xs.length (Nat.le_refl _) ?_
    have holds : ∀ j u, (xs.flatMap enc)[j]? = some u → w.cell? (a.add j) = some u := (hold.ptr hle hpos) F w (fun c hc => hF _ (hM c hc)) hw
    exact run_append_grow (P := P) w t ty' e i z hu hi hz a xs.length xs.length (xs.flatMap enc) hlo holds ad m c' news hl hnw (by omega) (by omega) (growslice_fits (by omega) hb)
end
end Go.K
end
section
set_option linter.unusedSimpArgs false
set_option linter.unusedVariables false
namespace Go.Proofs.YtoemnobfnnjopaaDoor
open Go.RowKit Go
open Go.K (setd setn ev nth over cl eI eP eT setM setF)
attribute [local irreducible] K.blk K.row
/-- The iterator's own count. -/
def curS (r : List RvT) (i k : Nat) : Int := if k ≤ dep r i then ((stps r k i : Nat) : Int) else -1
theorem cur_yes {r : List RvT} {i k : Nat} (g : Good r) (hi : i < r.length) (h : curS r i k ≠ -1) : k ≤ dep r i ∧ curS r i k = ((stps r k i : Nat) : Int) := by
  unfold curS at h ⊢
  split at h
  · rename_i hk; exact ⟨hk, if_pos hk⟩
  · exact absurd rfl h
theorem cur_no {r : List RvT} {i k : Nat} (h : curS r i k = -1) : dep r i < k := by
  unfold curS at h
  split at h
  · omega
  · omega
theorem cur_next {r : List RvT} {i k : Nat} (g : Good r) (hi : i < r.length) (hk : k ≤ dep r i) : curS r i (k + 1) = (r.getD (stps r k i) default).dn := by
  have hd := dep_is g hi
  unfold curS
  by_cases h : k + 1 ≤ dep r i
  · have := hd.2.2 k (by omega)
    have h2 := g.p _ (stps_lt g hi k)
    rw [if_pos h, stps_up this]; omega
  · have e : k = dep r i := by omega
    subst e
    rw [if_neg h, hd.2.1]
theorem drop_next {r : List RvT} {i k : Nat} (g : Good r) (hi : i < r.length) : DM r i - DM r (stps r k i) + (r.getD (stps r k i) default).ls = DM r i - DM r (stps r (k + 1) i) := by
  have hl := stps_lt g hi k
  by_cases h : (r.getD (stps r k i) default).dn = -1
  · have := (g.p _ hl).2.2 h
    rw [stps_st h]; omega
  · have := DM_d g hl h
    rw [stps_up h]; omega

set_option maxRecDepth 100000 in
theorem c57 {i : Int} {r : List RvT} {A : Option Addr} {c : Nat} (w : World) :
    Calls Tryd.prog 57 [.slice A r.length c, .int .i64 i].toArray w (K.Ret (fun _ : Nat × Nat => True) (fun q => .func (.func 84) #[] #[.pointer (some ⟨q.2, 0, none⟩), .pointer (some ⟨q.1, 0, none⟩)]) (fun q => [K.blk q.2 3 [.int .i64 i], K.blk q.1 75 [.slice A r.length c]]) w) := by
  refine K.enter (args := [.slice A r.length c, .int .i64 i]) Tryd.func57 rfl (n := 4) rfl ?_
  simp only [List.replicate, List.cons_append, List.nil_append]
  refine sr ?_
  refine K.seq_new (K.box) rfl ?_
  intro b2
  refine zN ?_
  refine K.seq_new (K.box) rfl ?_
  intro b3
  refine zN ?_
  refine qa ?_
  refine sn ?_
  refine sr ?_
  refine K.seq_pure (K.mkFunc) rfl ?_
  refine zN ?_
  refine qa ?_
  refine sn ?_
  refine K.ret ?_
  refine K.end_ret (fun w _ => K.res_tmp rfl w) ?_
  exact K.rets_v (b2, b3) trivial rfl rfl (List.Sublist.refl _)

set_option maxRecDepth 100000 in
set_option maxHeartbeats 1000000 in
theorem c84 {r : List RvT} {A : Option Addr} {c : Nat} {b i : Nat} {p : Addr} (g : Good r) (hi : i < r.length) :
    R.IterX Tryd.prog 84 [] [.pointer (some ⟨b, 0, none⟩), .pointer (some p)] b (fun f w => w.heap[b]? = some (.cells #[.int .i64 (i : Int)] 3 (0, 0)) ∧ R.Own1 (R.orb f b) w p [.slice A r.length c] ∧ R.OwnR (R.orb f b) w A 4 eR r) (fun s : Int × Int => [Value.int .i64 s.1, Value.int .i64 s.2]) (belS r i) := by
  intro lr B0 J Jx f w hB hbl hJa hJxa hJb hJxb hf hnf hR hJ0 hpre
  obtain ⟨hbx, h2, hO⟩ := hpre
  refine R.enter (args := [.func (.yield lr) #[] #[], .pointer (some ⟨b, 0, none⟩), .pointer (some p)]) Tryd.func84 rfl (m := 22) rfl ?_
  simp only [List.replicate, List.cons_append, List.nil_append]
  refine R.seq ?_
  refine R.region_lit rfl ?_
  refine qa ?_
  refine K.seq_nil ?_
  refine R.out ?_
  refine R.norm_then ?_
  refine R.block ?_
  refine R.loopN [4] [5, 6, 7, 8, 9, 10, 11, 12, 13, 14, 15, 16, 17, 18, 19, 20, 21, 22, 23, 24] (fun m vi W => ∃ (k : Nat) (f1 : Nat → Prop), vi = [.int .i64 (DM r i - DM r (stps r k i))] ∧ m = dep r i + 1 - k ∧ k ≤ dep r i + 1 ∧ J k f1 W ∧ (∀ i, f1 i → i < W.heap.size) ∧ ¬ f1 b ∧ W.heap[b]? = some (.cells #[.int .i64 (curS r i k)] 3 (0, 0)) ∧ R.Own1 (R.orb f1 b) W p [.slice A r.length c] ∧ R.OwnR (R.orb f1 b) W A 4 eR r) (dep r i + 1) ?_ ?_
  · intro w1 hw1
    exact ⟨0, f, by simp only [List.map, K.nth, stps]; rw [Int.sub_self], rfl, by omega, hJa.below hJ0 hf hB hw1.1, fun i hi => Nat.lt_of_lt_of_le (hf i hi) hw1.1.size, hnf, (hw1.1.block b (K.lt_of_some hbx)).trans hbx, h2.keep (R.Keep.below hw1.1), hO.keep (R.Keep.below hw1.1)⟩
  intro m vi vr W hJ
  obtain ⟨k, f1, rfl, rfl, hkd1, hJ1, hfb, hnb, hbx, h2, hO⟩ := hJ
  have h1 := R.heap_ptr hbx
  try dsimp only [setd, setn, ev, nth, over, cl, eI, eP, eT, eR, setM, setF, List.map, List.append, List.drop, List.take]
  refine R.seq ?_
  refine R.seq ?_
  refine R.lregion ?_
  refine R.lseq_sil (K.load1 one_3 rfl (h1.any)) rfl rfl ?_
  refine zN ?_
  refine R.lseq_pure (K.neq rfl rfl) rfl rfl ?_
  refine zn ?_
  refine R.lseq_pure (K.move) rfl rfl ?_
  refine zn ?_
  refine R.lsplit 7 rfl (fun hg7 => ?_) (fun hg7 => ?_)
  · try replace hg7 := of_decide_eq_true hg7
    obtain ⟨hkd, hcu⟩ := cur_yes g hi hg7
    refine R.lseq_pure (K.move) rfl rfl ?_
    refine zn ?_
    refine R.lseq_sil (K.load1 one_3 rfl (h1.any)) rfl rfl ?_
    refine zN ?_
    rw [hcu]
    refine zN ?_
    refine R.lseq_pure (K.move) rfl rfl ?_
    refine zn ?_
    refine R.lseq_yield2 rfl rfl rfl (fun w1 hw1 => R.yield_steps hR (bel_at hkd) (hJa.below hJ1 hfb (hJb _ _ _ hJ1) hw1.1)) ?_
    intro w1 hw1 bb w2 hst
    refine zN ?_
    refine R.lseq_pure (K.pick_t rfl) rfl rfl ?_
    refine zn ?_
    refine R.lseq_nil ?_
    refine R.norm_then ?_
    refine R.cond rfl (fun ht12 => ?_) (fun ht12 => ?_)
    · try replace ht12 := of_decide_eq_true ht12
      have hbt : bb = true := by simpa using ht12
      subst hbt
      rcases hst with ⟨_, f2, hJ2, hk2, _, hf2⟩ | ⟨h, _⟩
      case inr => cases h
      have ek := ((R.Keep.below (f := f1) hw1.1).trans hk2)
      have hB2 := hJb _ _ _ hJ2
      have hbx2 : w2.heap[b]? = some (.cells #[.int .i64 (curS r i k)] 3 (0, 0)) := (ek b (K.lt_of_some hbx) hnb).2.trans hbx
      have h2 := h2.keep (R.Keep.orbs ek)
      have hO := hO.keep (R.Keep.orbs ek)
      have hP := hO.rd
      have h1 := R.heap_ptr hbx2
      rw [hcu] at h1
      have hnx := cur_next g hi hkd
      have hdr := drop_next (k := k) g hi
      have hls := stps_lt g hi k
      have hpk := g.p _ hls
      have hdl := DM_le g hi
      have hdk := DM_le g hls
      refine R.skip ?_
      refine R.norm_then ?_
      refine R.seq ?_
      refine R.block ?_
      refine R.region_lit rfl ?_
      refine qm ?_
      refine K.seq_sil (K.load1 one_75 rfl (h2.ptr.any)) rfl ?_
      refine zN ?_
      refine K.seq_sil (K.load1 one_3 rfl (h1.any)) rfl ?_
      refine zN ?_
      refine K.seq_ix (M := []) (stps r k i) hP.sl sl_75 rfl rfl (by omega) (by omega) rfl ?_
      intro p21 hp21
      refine zN ?_
      refine qp (K.fieldAddr fo_44_2 rfl) ?_
      refine K.seq_sil (K.load1 one_3 rfl ((K.PtrL.fld hp21 (k := 2)).any)) rfl ?_
      refine zN ?_
      refine K.seq_pure (K.add_i64 rfl rfl (by omega)) rfl ?_
      refine zN ?_
      rw [hdr]
      refine zN ?_
      refine qa ?_
      refine K.seq_nil ?_
      refine R.out ?_
      refine R.norm_block ?_
      refine R.norm_then ?_
      refine R.region_lit rfl ?_
      refine K.seq_sil (K.load1 one_75 rfl (h2.ptr.any)) rfl ?_
      refine zN ?_
      refine K.seq_sil (K.load1 one_3 rfl (h1.any)) rfl ?_
      refine zN ?_
      refine K.seq_ix (M := []) (stps r k i) hP.sl sl_75 rfl rfl (by omega) (by omega) rfl ?_
      intro p15 hp15
      refine zN ?_
      refine qp (K.fieldAddr fo_44_1 rfl) ?_
      refine K.seq_sil (K.load1 one_3 rfl ((K.PtrL.fld hp15 (k := 1)).any)) rfl ?_
      refine zN ?_
      refine R.seq_old (cs := [.int .i64 (curS r i k)]) sz_3 rfl rfl (Nat.le_refl 1) rfl rfl rfl (fun w hw => (hw.1.block b (K.lt_of_some hbx2)).trans hbx2) (fun w5 w6 hw5 hb6 hne hbe => ?_)
      refine zN ?_
      refine K.seq_nil ?_
      refine R.out ?_
      refine R.roundN (dep r i + 1 - (k + 1)) [.int .i64 (DM r i - DM r (stps r (k + 1) i))] (fun w4 hw4 => ?_) (by omega) (by kernel_rfl)
      have ek2 := (((R.Keep.below (f := R.orb f2 b) hw5.1).trans (R.Keep.off hne)).trans (R.Keep.below hw4.1))
      have hn2 : ¬ f2 b := (ek b (K.lt_of_some hbx) hnb).1
      have hsz6 : w5.heap.size ≤ w6.heap.size := (hbe 0).size
      have hJ4 : J (k + 1) f2 w4 := hJa _ _ w2 w4 hJ2 ((R.BelowX.of (hw5.1.mono hB2)).trans ((hbe B0).trans (R.BelowX.of (hw4.1.mono (Nat.le_trans hB2 (Nat.le_trans hw5.1.size hsz6)))))) (fun j hj => by
        have hj2 := hf2 j hj
        rw [hw4.1.block j (Nat.lt_of_lt_of_le hj2 (Nat.le_trans hw5.1.size hsz6)), hne j (fun e => hn2 (e ▸ hj)), hw5.1.block j hj2])
      refine ⟨k + 1, f2, rfl, rfl, by omega, hJ4, fun j hj => Nat.lt_of_lt_of_le (hf2 j hj) (Nat.le_trans hw5.1.size (Nat.le_trans hsz6 hw4.1.size)), hn2, ?_, h2.keep ek2, hO.keep ek2⟩
      rw [hw4.1.block b (K.lt_of_some hb6), hnx]
      exact hb6
    try replace ht12 := of_decide_eq_false ht12
    refine R.exit ?_
    refine R.exit_then ?_
    refine R.exit_then ?_
    refine R.exit_here ?_
    refine R.end_normal (fun w _ => K.res_none rfl w) ?_
    intro w3 hw3
    refine ⟨⟨_, rfl⟩, .inr ?_⟩
    have hbf : bb = false := by simpa using ht12
    subst hbf
    rcases hst with ⟨h, _⟩ | ⟨_, k2, f2, hk2, hJ2, hkp, _, hf2⟩
    · cases h
    exact ⟨k2, f2, hk2, hJxa.below hJ2 hf2 (hJxb _ _ _ hJ2) hw3.1⟩
  try replace hg7 := of_decide_eq_false hg7
  refine R.lseq_skip ?_ ?_
  · rfl
  refine zN ?_
  refine R.lseq_skip ?_ ?_
  · rfl
  refine zN ?_
  refine R.lseq_skip ?_ ?_
  · rfl
  refine zN ?_
  refine R.lseq_skip ?_ ?_
  · rfl
  refine zN ?_
  refine R.lseq_pure (K.pick_f rfl) rfl rfl ?_
  refine zn ?_
  refine R.lseq_nil ?_
  refine R.norm_then ?_
  refine R.cond_false rfl ?_
  refine R.exit ?_
  refine R.exit_then ?_
  refine R.exit_then ?_
  refine R.exit_here ?_
  refine R.end_normal (fun w _ => K.res_none rfl w) ?_
  intro w3 hw3
  refine ⟨⟨_, rfl⟩, .inl ⟨f1, ?_⟩⟩
  have hcn : curS r i k = -1 := Decidable.not_not.1 hg7
  have e0 : k = dep r i + 1 := by have := cur_no hcn; omega
  rw [bel_len, ← e0]
  exact hJa.below hJ1 hfb (hJb _ _ _ hJ1) hw3.1

end Go.Proofs.YtoemnobfnnjopaaDoor
end
section
set_option linter.unusedSimpArgs false
set_option linter.unusedVariables false
namespace Go.Proofs.YtoemnobfnnjopaaDoor
open Go.RowKit Go
open Go.K (setd setn ev nth over cl eI eP eT setM setF)
attribute [local irreducible] K.blk K.row
theorem bl79 {A : Option Addr} {n c : Nat} (S : Value) (h : S = .slice A n c) : K.Bl Tryd.prog 79 [(0, S)] (.agg (S :: dcell (fun _ _ => 0)).toArray) := fun w => by subst h; kernel_rfl

set_option maxRecDepth 100000 in
theorem c54 {r : List RvT} {A : Option Addr} {c : Nat} {b i : Nat} {w : World} (hX : K.PtrL w [] ⟨b, 0, none⟩ (.slice A r.length c :: dcell (drT r))) (hXb : b < w.heap.size) (hR : K.Rd w A 4 eR r) (hi : i < r.length) :
    Calls Tryd.prog 54 [.pointer (some ⟨b, 0, none⟩), .int .i64 (i : Int)].toArray w (K.Gives (.int .i64 (r.getD i default).ht) w) := by
  refine K.enter (args := [.pointer (some ⟨b, 0, none⟩), .int .i64 (i : Int)]) Tryd.func54 rfl (n := 11) rfl ?_
  simp only [List.replicate, List.cons_append, List.nil_append]
  refine sr ?_
  refine qa ?_
  refine sn ?_
  refine sr ?_
  refine qm ?_
  refine qp (K.nilCheck rfl) ?_
  refine qp (K.fieldAddr_lit fo_79_0 rfl) ?_
  refine K.seq_sil (K.load_at one_75 rfl (hX.any) rfl) rfl ?_
  refine zN ?_
  refine qm ?_
  refine K.seq_ix (M := []) _ hR.sl sl_75 rfl rfl rfl (by omega) rfl ?_
  intro p10 hp10
  refine zN ?_
  refine qp (K.fieldAddr fo_44_3 rfl) ?_
  refine K.seq_sil (K.load1 one_3 rfl ((K.PtrL.fld hp10 (k := 3)).any)) rfl ?_
  refine zN ?_
  refine qa ?_
  refine sn ?_
  refine K.ret ?_
  refine K.end_ret (fun w _ => K.res_tmp rfl w) ?_
  exact K.gives rfl

set_option maxRecDepth 100000 in
theorem c53 {r : List RvT} {A : Option Addr} {c : Nat} {b i : Nat} {w : World} (hX : K.PtrL w [] ⟨b, 0, none⟩ (.slice A r.length c :: dcell (drT r))) (hXb : b < w.heap.size) (hR : K.Rd w A 4 eR r) (g : Good r) (hi : i < r.length) :
    Calls Tryd.prog 53 [.pointer (some ⟨b, 0, none⟩), .int .i64 (i : Int), .func (.func 54) #[.pointer (some ⟨b, 0, none⟩)] #[]].toArray w (K.Gives (.bool (!badB r (ownS r) i)) w) := by
  have hpi := g.p i hi
  have hgn := g.n
  refine K.enter (args := [.pointer (some ⟨b, 0, none⟩), .int .i64 (i : Int), .func (.func 54) #[.pointer (some ⟨b, 0, none⟩)] #[]]) Tryd.func53 rfl (n := 28) rfl ?_
  simp only [List.replicate, List.cons_append, List.nil_append]
  refine sr ?_
  refine qa ?_
  refine sn ?_
  refine sr ?_
  refine qm ?_
  refine qp (K.nilCheck rfl) ?_
  refine qp (K.fieldAddr_lit fo_79_0 rfl) ?_
  refine K.seq_sil (K.load_at one_75 rfl (hX.any) rfl) rfl ?_
  refine zN ?_
  refine qm ?_
  refine K.seq_ix (M := []) _ hR.sl sl_75 rfl rfl rfl (by omega) rfl ?_
  intro p13 hp13
  refine zN ?_
  refine K.seq_sil (K.loadA_p ag_44 rfl (hp13.any) rfl) rfl ?_
  refine zN ?_
  refine K.seq_new (K.alloc zr_44) rfl ?_
  intro b7
  refine zN ?_
  refine K.seq_st (K.store_all sz_44 rfl rfl rfl rfl (K.rp0)) rfl ?_
  refine zN ?_
  refine sn ?_
  refine K.seq ?_
  refine K.draw_L [] Tryd_mixed ?_
  refine K.d_pure 0 rfl (K.fieldAddr_lit fo_44_1 rfl) (by kernel_rfl) rfl ?_
  refine zn ?_
  refine K.d_mem 1 rfl (K.load1_own one_3 rfl (K.m0) rfl) (fun _ h => h) (by kernel_rfl) (by kernel_rfl) rfl ?_
  refine zN ?_
  refine K.d_pure 2 rfl (K.eql rfl rfl) (by kernel_rfl) rfl ?_
  refine zn ?_
  refine K.d_pure 3 rfl (K.move) (by kernel_rfl) rfl ?_
  refine zn ?_
  refine K.dsplit 18 rfl (fun hg18 => ?_) (fun hg18 => ?_)
  · try replace hg18 := of_decide_eq_true hg18
    refine K.d_skip 4 rfl (by kernel_rfl) rfl ?_
    refine zN ?_
    refine K.d_skip 5 rfl (by kernel_rfl) rfl ?_
    refine zN ?_
    refine K.d_skip 6 rfl (by kernel_rfl) rfl ?_
    refine zN ?_
    refine K.d_skip 7 rfl (by kernel_rfl) rfl ?_
    refine zN ?_
    refine K.d_skip 8 rfl (by kernel_rfl) rfl ?_
    refine zN ?_
    refine K.d_skip 9 rfl (by kernel_rfl) rfl ?_
    refine zN ?_
    refine K.d_skip 10 rfl (by kernel_rfl) rfl ?_
    refine zN ?_
    refine K.d_skip 11 rfl (by kernel_rfl) rfl ?_
    refine zN ?_
    refine K.d_skip 12 rfl (by kernel_rfl) rfl ?_
    refine zN ?_
    refine K.d_skip 13 rfl (by kernel_rfl) rfl ?_
    refine zN ?_
    refine K.d_skip 14 rfl (by kernel_rfl) rfl ?_
    refine zN ?_
    refine K.d_pure 15 rfl (K.pick_t rfl) (by kernel_rfl) rfl ?_
    refine zn ?_
    refine K.d_pure 16 rfl (K.assign) (by kernel_rfl) rfl ?_
    refine zn ?_
    refine K.d_done (by kernel_rfl) ?_
    refine K.norm_then ?_
    refine K.ret ?_
    refine K.end_ret (fun w _ => K.res_tmp rfl w) ?_
    have hb : badB r (ownS r) i = false := bad_no.2 (.inl hg18)
    exact K.gives_b rfl (by rw [hb]; rfl)
  try replace hg18 := of_decide_eq_false hg18
  have hd : (r.getD i default).dn ≠ -1 := hg18
  have hdl := dn_lt g hi hd
  have hdv : (((r.getD i default).dn.toNat : Nat) : Int) = (r.getD i default).dn := by omega
  have hpd := g.p _ hdl
  refine K.d_pure 4 rfl (K.move) (by kernel_rfl) rfl ?_
  refine zn ?_
  refine K.d_pure 5 rfl (K.move) (by kernel_rfl) rfl ?_
  refine zn ?_
  refine K.d_pure 7 rfl (K.move) (by kernel_rfl) rfl ?_
  refine zn ?_
  refine K.d_pure 8 rfl (K.fieldAddr_lit fo_44_1 rfl) (by kernel_rfl) rfl ?_
  refine zn ?_
  refine K.d_mem 9 rfl (K.load1_own one_3 rfl (K.m0) rfl) (fun _ h => h) (by kernel_rfl) (by kernel_rfl) rfl ?_
  refine zN ?_
  refine K.d_pure 11 rfl (K.fieldAddr_lit fo_44_2 rfl) (by kernel_rfl) rfl ?_
  refine zn ?_
  refine K.d_mem 12 rfl (K.load1_own one_3 rfl (K.m0) rfl) (fun _ h => h) (by kernel_rfl) (by kernel_rfl) rfl ?_
  refine zN ?_
  refine K.d_call 6 rfl (K.callv_g (first := [.pointer (some ⟨b, 0, none⟩)]) (cap := []) rfl cal_54 (fun F w hF hw => c54 (hX.into hXb hw) (K.lt_into hXb hw) (hR.pass hw) hi)) (fun _ h => h) (by kernel_rfl) rfl ?_
  refine zN ?_
  refine K.d_call 10 rfl (K.callv_g (first := [.pointer (some ⟨b, 0, none⟩)]) (cap := []) rfl cal_54 (fun F w hF hw => (by have hg := c54 (i := (r.getD i default).dn.toNat) (hX.into hXb hw) (K.lt_into hXb hw) (hR.pass hw) hdl; rw [hdv] at hg; exact hg))) (fun _ h => h) (by kernel_rfl) rfl ?_
  refine zN ?_
  refine K.d_pure 13 rfl (K.add_i64 rfl rfl (by omega)) (by kernel_rfl) rfl ?_
  refine zn ?_
  refine K.d_pure 14 rfl (K.geq rfl rfl) (by kernel_rfl) rfl ?_
  refine zn ?_
  refine K.d_pure 15 rfl (K.pick_f rfl) (by kernel_rfl) rfl ?_
  refine zn ?_
  refine K.d_pure 16 rfl (K.assign) (by kernel_rfl) rfl ?_
  refine zn ?_
  refine K.d_done (by kernel_rfl) ?_
  refine K.norm_then ?_
  refine K.ret ?_
  refine K.end_ret (fun w _ => K.res_tmp rfl w) ?_
  exact K.gives_b rfl (by rw [Bool.eq_iff_iff, decide_eq_true_eq, Bool.not_eq_true', bad_no, own_at hi, own_at hdl]; exact ⟨fun h => .inr (by omega), fun h => by rcases h with h | h <;> omega⟩)

set_option maxRecDepth 100000 in
theorem e52 {r : List RvT} {A : Option Addr} {c : Nat} {w : World} (hR : K.Rd w A 4 eR r) (hn : r.length ≤ 4611686018427387904) (hc : (chk r).2.2 ≠ 0) :
    Calls Tryd.prog 52 [.slice A r.length c].toArray w (K.Gives (.tuple #[.pointer none, .int .i64 (chk r).2.2]) w) := by
  refine R.enter (args := [.slice A r.length c]) Tryd.func52 rfl (m := 55) rfl ?_
  simp only [List.replicate, List.cons_append, List.nil_append]
  refine R.seq ?_
  refine R.region_lit rfl ?_
  refine K.seq_new (K.alloc zr_65) rfl ?_
  intro b2
  refine zN ?_
  refine qa ?_
  refine K.seq_nil ?_
  refine R.out ?_
  refine R.norm_then ?_
  refine R.seq ?_
  refine R.seq ?_
  refine R.region_lit rfl ?_
  refine qm ?_
  refine K.seq_call (K.call_g cal_14 (fun F w hF hw => c14 (hR.pass hw) hn)) rfl ?_
  refine zN ?_
  refine qm ?_
  refine qx ?_
  refine qx ?_
  refine qx ?_
  refine qa ?_
  refine K.seq_nil ?_
  refine R.out ?_
  refine R.norm_then ?_
  refine R.seq ?_
  refine R.region_lit rfl ?_
  refine qm ?_
  refine qp (K.neq rfl rfl) ?_
  refine K.seq_nil ?_
  refine R.out ?_
  refine R.norm_then ?_
  refine R.cond_true (by exact congrArg Value.bool (decide_eq_true hc)) ?_
  refine R.seq ?_
  refine R.region_lit rfl ?_
  refine qm ?_
  refine K.seq_st (K.store sz_65 rfl rfl rfl rfl (K.rp0)) rfl ?_
  refine zN ?_
  refine qa ?_
  refine K.seq_nil ?_
  refine R.out ?_
  refine R.norm_then ?_
  refine R.ret ?_
  refine R.ret_then ?_
  refine R.end_ret (fun w hw => K.res_ct rfl rfl (K.run_cell1 one_65 rfl (K.m0) w hw)) ?_
  exact K.gives rfl

set_option maxRecDepth 100000 in
set_option maxHeartbeats 1000000 in
theorem g52 {r : List RvT} {A : Option Addr} {c : Nat} {w : World} (hR : K.Rd w A 4 eR r) (hn : r.length ≤ 4611686018427387904) (hc : (chk r).2.2 = 0) :
    Calls Tryd.prog 52 [.slice A r.length c].toArray w (K.Ret (fun _ : Nat => True) (fun b => .tuple #[.pointer (some ⟨b, 0, none⟩), .int .i64 0]) (fun b => [K.blk b 79 (.slice A r.length c :: dcell (drT r))]) w) := by
  have g : Good r := chk_good hc
  have hgn := g.n
  refine R.enter (args := [.slice A r.length c]) Tryd.func52 rfl (m := 55) rfl ?_
  simp only [List.replicate, List.cons_append, List.nil_append]
  refine R.seq ?_
  refine R.region_lit rfl ?_
  refine K.seq_new (K.alloc zr_65) rfl ?_
  intro b2
  refine zN ?_
  refine qa ?_
  refine K.seq_nil ?_
  refine R.out ?_
  refine R.norm_then ?_
  refine R.seq ?_
  refine R.seq ?_
  refine R.region_lit rfl ?_
  refine qm ?_
  refine K.seq_call (K.call_g cal_14 (fun F w hF hw => c14 (hR.pass hw) hn)) rfl ?_
  refine zN ?_
  refine qm ?_
  refine qx ?_
  refine qx ?_
  refine qx ?_
  refine K.seq_pure (K.assign) rfl ?_
  refine zN ?_
  rw [hc]
  refine zN ?_
  refine K.seq_nil ?_
  refine R.out ?_
  refine R.norm_then ?_
  refine R.seq ?_
  refine R.region_lit rfl ?_
  refine qm ?_
  refine qp (K.neq rfl rfl) ?_
  refine K.seq_nil ?_
  refine R.out ?_
  refine R.norm_then ?_
  refine R.cond_false (by exact congrArg Value.bool (decide_eq_false (by omega))) ?_
  refine R.skip ?_
  refine R.norm_then ?_
  refine R.seq ?_
  refine R.region_lit rfl ?_
  refine qm ?_
  refine K.seq_pure (K.build (bl79 _ rfl)) rfl ?_
  refine zN ?_
  try dsimp only [List.toList_toArray]
  refine zN ?_
  refine K.seq_new (K.box) rfl ?_
  intro b19
  refine zN ?_
  refine K.seq_st (K.store sz_65 rfl rfl rfl rfl (K.rp1)) rfl ?_
  refine zN ?_
  refine K.seq_nil ?_
  refine R.out ?_
  refine R.norm_then ?_
  refine R.seq ?_
  refine R.seq ?_
  refine R.region_lit rfl ?_
  refine qm ?_
  refine qp (K.len_sl sl_22 rfl) ?_
  refine qm ?_
  refine K.seq_nil ?_
  refine R.out ?_
  refine R.norm_then ?_
  refine R.block ?_
  refine R.loopD [22] [4, 5, 6, 7, 23, 24, 25, 26, 27, 28, 29, 30, 31, 32, 33, 34, 35, 36, 37, 38, 39, 40, 41, 42, 43, 46, 47, 48, 49, 50, 51, 52, 53, 54] (fun vi L => ∃ i : Nat, vi = [.int .i64 (i : Int)] ∧ L = [K.blk b19 79 (.slice A r.length c :: dcell (dA r i 0)), K.blk b2 65 [.pointer (some ⟨b19, 0, none⟩)]] ∧ i ≤ r.length) (fun vi => r.length - (intOf (K.nth vi 0)).toNat) ?_ ?_
  · rw [← dA_0]
    exact ⟨0, rfl, rfl, Nat.zero_le _⟩
  intro vi vr L bs hJ
  obtain ⟨i, rfl, rfl, hin⟩ := hJ
  try dsimp only [List.cons_append, List.nil_append]
  try dsimp only [setd, setn, ev, nth, over, cl, eI, eP, eT, eR, setM, setF, List.map, List.append, List.drop, List.take]
  refine R.seq ?_
  refine R.region_lit rfl ?_
  refine qp (K.lss rfl rfl) ?_
  refine K.seq_nil ?_
  refine R.out ?_
  refine R.norm_then ?_
  refine R.seq ?_
  refine R.cond rfl (fun ht23 => ?_) (fun ht23 => ?_)
  · try replace ht23 := of_decide_eq_true ht23
    have hi : i < r.length := by omega
    refine R.skip ?_
    refine R.norm_then ?_
    refine R.seq ?_
    refine R.block ?_
    refine R.seq ?_
    refine R.region_lit rfl ?_
    refine qm ?_
    refine K.seq_new (K.alloc zr_3) rfl ?_
    intro b4
    refine zN ?_
    refine K.seq_st (K.store sz_3 rfl rfl rfl rfl (K.rp0)) rfl ?_
    refine zN ?_
    refine K.seq_nil ?_
    refine R.out ?_
    refine R.norm_then ?_
    refine R.seq ?_
    refine R.seq ?_
    refine R.region_lit rfl ?_
    refine qm ?_
    refine qp (K.len_sl sl_22 rfl) ?_
    refine qm ?_
    refine K.seq_nil ?_
    refine R.out ?_
    refine R.norm_then ?_
    refine R.block ?_
    refine R.loopW [27] [5, 28, 29, 30, 31, 32, 33, 34, 35, 36, 37] (fun vi L => ∃ k : Nat, vi = [.int .i64 (k : Int)] ∧ L = [K.blk b4 3 [.int .i64 (i : Int)], K.blk b19 79 (.slice A r.length c :: dcell (dA r i k)), K.blk b2 65 [.pointer (some ⟨b19, 0, none⟩)], R.dfs bs] ∧ k ≤ r.length) (fun vi => r.length - (intOf (K.nth vi 0)).toNat) ?_ ?_
    · exact ⟨0, rfl, rfl, Nat.zero_le _⟩
    intro vi vr L hJ
    obtain ⟨k, rfl, rfl, hkn⟩ := hJ
    try dsimp only [setd, setn, ev, nth, over, cl, eI, eP, eT, eR, setM, setF, List.map, List.append, List.drop, List.take]
    refine R.seq ?_
    refine R.region_lit rfl ?_
    refine qp (K.lss rfl rfl) ?_
    refine K.seq_nil ?_
    refine R.out ?_
    refine R.norm_then ?_
    refine R.seq ?_
    refine R.cond rfl (fun ht28 => ?_) (fun ht28 => ?_)
    · try replace ht28 := of_decide_eq_true ht28
      have hk : k < r.length := by omega
      refine R.skip ?_
      refine R.norm_then ?_
      refine R.seq ?_
      refine R.block ?_
      refine R.seq ?_
      refine R.region_lit rfl ?_
      refine qm ?_
      refine qa ?_
      refine K.seq_nil ?_
      refine R.out ?_
      refine R.norm_then ?_
      refine R.draw_L [7] Tryd_mixed rfl ?_
      refine K.d_mem 0 rfl (K.load1_own one_65 rfl (K.m2) rfl) (fun _ h => h) (by kernel_rfl) (by kernel_rfl) rfl ?_
      refine zN ?_
      refine K.d_mem 1 rfl (K.load1_own one_3 rfl (K.m0) rfl) (fun _ h => h) (by kernel_rfl) (by kernel_rfl) rfl ?_
      refine zN ?_
      refine K.d_pure 2 rfl (K.move) (by kernel_rfl) rfl ?_
      refine zn ?_
      refine K.d_pure 3 rfl (K.nilCheck rfl) (by kernel_rfl) rfl ?_
      refine zn ?_
      refine K.d_pure 4 rfl (K.fieldAddr_lit fo_79_1 rfl) (by kernel_rfl) rfl ?_
      refine zn ?_
      refine K.d_pure 5 rfl (K.indexAddr_ar ar_77 rfl rfl (by omega) (by omega)) (by kernel_rfl) rfl ?_
      refine zN ?_
      refine K.d_pure 6 rfl (K.indexAddr_ar ar_76 rfl rfl (by omega) (by omega)) (by kernel_rfl) rfl ?_
      refine zN ?_
      refine K.d_last 7 rfl (K.store_ix sz_3 rfl rfl (by simp only [List.length_cons, dcell_len]; omega) rfl (K.rp1)) rfl (by kernel_rfl) rfl ?_
      intro _ _
      refine zN ?_
      rw [Int.toNat_natCast i, Int.toNat_natCast k, dA_next (r := r) (i := i) (k := k) (by omega) (by omega)]
      refine zN ?_
      refine K.d_done (by kernel_rfl) ?_
      refine R.out ?_
      refine R.norm_block ?_
      refine R.norm_then ?_
      refine R.region_lit rfl ?_
      refine qp (K.add_i64 rfl rfl (by omega)) ?_
      refine qm ?_
      refine K.seq_nil ?_
      refine R.out ?_
      exact R.round_endW (L'' := [K.blk b4 3 [.int .i64 (i : Int)], K.blk b19 79 (.slice A r.length c :: dcell (dA r i (k + 1))), K.blk b2 65 [.pointer (some ⟨b19, 0, none⟩)], R.dfs bs]) [.int .i64 ((k : Int) + 1)] ⟨k + 1, rfl, rfl, by omega⟩ (by simp [K.nth, intOf]; omega) (by repeat (first | exact List.Sublist.refl _ | apply List.Sublist.cons)) (by kernel_rfl)
    try replace ht28 := of_decide_eq_false ht28
    have hkr : k = r.length := by omega
    subst hkr
    rw [dB_0]
    refine R.exit ?_
    refine R.exit_then ?_
    refine R.exit_then ?_
    refine R.exit_here ?_
    refine R.norm_then ?_
    refine R.seq ?_
    refine R.draw_L [] Tryd_mixed rfl ?_
    refine K.d_mem 0 rfl (K.load1_own one_65 rfl (K.m2) rfl) (fun _ h => h) (by kernel_rfl) (by kernel_rfl) rfl ?_
    refine zN ?_
    refine K.d_pure 1 rfl (K.nilCheck rfl) (by kernel_rfl) rfl ?_
    refine zn ?_
    refine K.d_pure 2 rfl (K.fieldAddr_lit fo_79_0 rfl) (by kernel_rfl) rfl ?_
    refine zn ?_
    refine K.d_mem 3 rfl (K.load1_own one_75 rfl (K.m1) rfl) (fun _ h => h) (by kernel_rfl) (by kernel_rfl) rfl ?_
    refine zN ?_
    refine K.d_mem 4 rfl (K.load1_own one_3 rfl (K.m0) rfl) (fun _ h => h) (by kernel_rfl) (by kernel_rfl) rfl ?_
    refine zN ?_
    refine K.d_loud 5 rfl (K.call_f cal_57 (fun F w hF hw => c57 w)) (fun _ h => h) (by kernel_rfl) rfl ?_
    rintro ⟨q1, q2⟩ _
    refine zN ?_
    refine K.d_done (by kernel_rfl) ?_
    refine R.out ?_
    refine R.norm_then ?_
    refine R.block ?_
    refine R.rangeX (gf := 84) (first := []) (cap := [.pointer (some ⟨q2, 0, none⟩), .pointer (some ⟨q1, 0, none⟩)]) (enc := (fun s : Int × Int => [Value.int .i64 s.1, Value.int .i64 s.2])) (XS := belS r i) (ps := [44, 45]) rfl cal_84 [K.blk b4 3 [.int .i64 (i : Int)], K.blk b19 79 (.slice A r.length c :: dcell (dB r i 0)), K.blk b2 65 [.pointer (some ⟨b19, 0, none⟩)], R.dfs bs] [K.blk q1 75 [.slice A r.length c]] (K.st_perm (show List.Perm [K.blk q2 3 [.int .i64 (i : Int)], K.blk q1 75 [.slice A r.length c], K.blk b4 3 [.int .i64 (i : Int)], K.blk b19 79 (.slice A r.length c :: dcell (dB r i 0)), K.blk b2 65 [.pointer (some ⟨b19, 0, none⟩)], R.dfs bs] ([K.blk b4 3 [.int .i64 (i : Int)], K.blk b19 79 (.slice A r.length c :: dcell (dB r i 0)), K.blk b2 65 [.pointer (some ⟨b19, 0, none⟩)], R.dfs bs] ++ ([K.blk q1 75 [.slice A r.length c]] ++ [K.blk q2 3 [.int .i64 (i : Int)]])) from (List.Perm.trans (List.perm_middle (l₁ := [_, _])) (List.Perm.cons _ (List.Perm.trans (List.perm_middle (l₁ := [_, _])) (List.Perm.cons _ (List.Perm.trans (List.perm_middle (l₁ := [_, _])) (List.Perm.cons _ (List.Perm.trans (List.perm_middle (l₁ := [_, _])) (List.Perm.cons _ (List.Perm.trans (List.perm_middle (l₁ := [_])) (List.Perm.cons _ (List.Perm.refl _))))))))))))) (R.fixC R.fixN) (fun _ => rfl) (c84 (c := c) (A := A) (p := ⟨q1, 0, none⟩) (b := q2) g hi) (fun f w hf hb => ⟨hb, hf.own1 K.m0, hf.oldR hR⟩) (fun k L => L = [K.blk b4 3 [.int .i64 (i : Int)], K.blk b19 79 (.slice A r.length c :: dcell (dB r i k)), K.blk b2 65 [.pointer (some ⟨b19, 0, none⟩)], R.dfs bs]) (fun cX L => False) ?_ ?_ ?_ ?_
    · rfl
    · intro k s L lr E hs hE hJ
      subst hJ
      obtain ⟨hkd, rfl⟩ := bel_some hs
      have hsl := stps_lt g hi k
      dsimp only [R.setP]
      try dsimp only [List.cons_append, List.nil_append]
      try dsimp only [setd, setn, ev, nth, over, cl, eI, eP, eT, eR, setM, setF, List.map, List.append, List.drop, List.take]
      refine R.seq ?_
      refine R.region_lit rfl ?_
      refine qa ?_
      refine K.seq_nil ?_
      refine R.out ?_
      refine R.norm_then ?_
      refine R.region_lit rfl ?_
      refine qa ?_
      refine K.seq_nil ?_
      refine R.out ?_
      refine R.norm_then ?_
      refine R.bodyC' rfl (fun E hE => ?_)
      dsimp only [List.dropLast, List.cons_append, List.nil_append]
      refine zN ?_
      refine R.block ?_
      refine R.draw_L [8] Tryd_mixed rfl ?_
      refine K.d_mem 0 rfl (K.load1_own one_65 rfl (K.m2) rfl) (fun _ h => h) (by kernel_rfl) (by kernel_rfl) rfl ?_
      refine zN ?_
      refine K.d_mem 1 rfl (K.load1_own one_3 rfl (K.m0) rfl) (fun _ h => h) (by kernel_rfl) (by kernel_rfl) rfl ?_
      refine zN ?_
      refine K.d_pure 2 rfl (K.move) (by kernel_rfl) rfl ?_
      refine zn ?_
      refine K.d_pure 3 rfl (K.move) (by kernel_rfl) rfl ?_
      refine zn ?_
      refine K.d_pure 4 rfl (K.nilCheck rfl) (by kernel_rfl) rfl ?_
      refine zn ?_
      refine K.d_pure 5 rfl (K.fieldAddr_lit fo_79_1 rfl) (by kernel_rfl) rfl ?_
      refine zn ?_
      refine K.d_pure 6 rfl (K.indexAddr_ar ar_77 rfl rfl (by omega) (by omega)) (by kernel_rfl) rfl ?_
      refine zN ?_
      refine K.d_pure 7 rfl (K.indexAddr_ar ar_76 rfl rfl (by omega) (by omega)) (by kernel_rfl) rfl ?_
      refine zN ?_
      refine K.d_last 8 rfl (K.store_ix sz_3 rfl rfl (by simp only [List.length_cons, dcell_len]; omega) rfl (K.rp1)) rfl (by kernel_rfl) rfl ?_
      intro _ _
      refine zN ?_
      rw [Int.toNat_natCast i, Int.toNat_natCast (stps r k i), dB_next (r := r) (i := i) (m := k) g hi hkd]
      refine zN ?_
      refine K.d_done (by kernel_rfl) ?_
      refine R.out ?_
      refine R.norm_block ?_
      exact R.rp_normal (L := [K.blk b4 3 [.int .i64 (i : Int)], K.blk b19 79 (.slice A r.length c :: dcell (dB r i (k + 1))), K.blk b2 65 [.pointer (some ⟨b19, 0, none⟩)], R.dfs bs]) rfl (by repeat (first | exact List.Sublist.refl _ | apply List.Sublist.cons))
    · intro bD L hJ
      subst hJ
      rw [bel_len, dB_all g hi]
      try dsimp only [List.cons_append, List.nil_append]
      try dsimp only [setd, setn, ev, nth, over, cl, eI, eP, eT, eR, setM, setF, List.map, List.append, List.drop, List.take]
      refine R.markJ (L := [K.blk b19 79 (.slice A r.length c :: dcell (dA r (i + 1) 0)), K.blk b2 65 [.pointer (some ⟨b19, 0, none⟩)]]) (K.st_sub (List.Sublist.cons _ (List.Sublist.cons_cons _ (List.Sublist.cons_cons _ (List.Sublist.cons_cons _ (List.Sublist.cons _ (List.Sublist.cons_cons _ (List.Sublist.refl _)))))))) ?_
      try dsimp only [List.cons_append, List.nil_append]
      refine zN ?_
      refine R.norm_block ?_
      refine R.norm_block ?_
      refine R.norm_then ?_
      refine R.region_lit rfl ?_
      refine qp (K.add_i64 rfl rfl (by omega)) ?_
      refine qm ?_
      refine K.seq_nil ?_
      refine R.out ?_
      exact R.round_endD (L'' := [K.blk b19 79 (.slice A r.length c :: dcell (dA r (i + 1) 0)), K.blk b2 65 [.pointer (some ⟨b19, 0, none⟩)]]) [.int .i64 ((i : Int) + 1)] ⟨i + 1, rfl, rfl, by omega⟩ (by simp [K.nth, intOf]; omega) (by repeat (first | exact List.Sublist.refl _ | apply List.Sublist.cons)) (by kernel_rfl)
    · intro bD cX L hJ
      exact hJ.elim
      skip
  try replace ht23 := of_decide_eq_false ht23
  refine R.exit ?_
  refine R.exit_then ?_
  refine R.exit_then ?_
  refine R.exit_here ?_
  refine R.norm_then ?_
  refine R.seq ?_
  refine R.region_lit rfl ?_
  refine K.seq_sil (K.load1_own one_65 rfl (K.m1) rfl) rfl ?_
  refine zN ?_
  refine K.seq_st (K.store sz_65 rfl rfl rfl rfl (K.rp1)) rfl ?_
  refine zN ?_
  refine qa ?_
  refine K.seq_nil ?_
  refine R.out ?_
  refine R.norm_then ?_
  refine R.ret ?_
  refine R.end_retD rfl (by dsimp only [List.dropLast]; exact (fun w hw => K.res_ct rfl rfl (K.run_cell1 one_65 rfl (K.m1) w hw))) ?_
  dsimp only [List.dropLast]
  have e0 : i = r.length := by omega
  subst e0
  rw [dA_all]
  exact K.rets_v b19 trivial rfl rfl (List.Sublist.cons_cons _ (List.nil_sublist _))

end Go.Proofs.YtoemnobfnnjopaaDoor
end
