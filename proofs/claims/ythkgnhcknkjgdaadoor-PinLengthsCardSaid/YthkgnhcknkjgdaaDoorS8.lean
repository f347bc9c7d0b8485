/-
  Plain lemmas and plain functions, several texts joined.
  Conditions stand in each theorem.
-/
import Derived.Test.YthkgnhcknkjgdaaDoorS7
set_option linter.unusedSimpArgs false
set_option linter.unusedVariables false
/-
  Laws of eyes and places, in plain form.
  No conditions but those in the theorems.
-/
namespace Go.Proofs.YthkgnhcknkjgdaaDoor
open Go
theorem hides_mono {m : Mod} {l : List Int} {x y lo hi : Int} {i : Nat} (h : Way m x y i) (hle : lo ≤ hi) : (hidesS m l x y hi i).length ≤ (hidesS m l x y lo i).length := by
  unfold hidesS
  rw [List.length_map, List.length_map, ← List.countP_eq_length_filter, ← List.countP_eq_length_filter]
  refine List.countP_mono_left fun s hs hb => ?_
  obtain ⟨k, hk⟩ := List.getElem?_of_mem hs
  have h1 := h.step hk
  unfold hideB at hb ⊢
  rw [decide_eq_true_eq] at hb ⊢
  have h2 : lo * (s.2.2 - s.2.1) ≤ hi * (s.2.2 - s.2.1) := Int.mul_le_mul_of_nonneg_right hle (by omega)
  omega
/-- A stand and a pin of a good model. -/
structure SP (m : Mod) (s p : Nat) : Prop where
  c : (chk m).2.2 = 0
  s : s < m.ss.length
  p : p < m.ps.length
section
variable {m : Mod} {s p : Nat}
theorem SP.g (h : SP m s p) : Good m := chk_good h.c
theorem SP.way (h : SP m s p) : Way m (m.ss.getD s default).x (m.ss.getD s default).y p := by
  have := h.g.st h.s
  exact ⟨h.g, h.p, by omega, by omega⟩
theorem SP.ask (h : SP m s p) : askE m s p = 0 := by
  have := h.s
  have := h.p
  have := h.c
  unfold askE asE; rw [if_neg (by omega), if_neg (by omega)]
theorem SP.hid (h : SP m s p) {eye : Int} (he : 0 ≤ eye ∧ eye ≤ 2000) : hidE m s eye p = 0 := hid_0 h.ask he
theorem SP.hidL (h : SP m s p) {eye : Int} (he : 0 ≤ eye ∧ eye ≤ 2000) : hidL m s eye p = hidesS m (ownS m) (m.ss.getD s default).x (m.ss.getD s default).y eye p := hidL_0 (h.hid he)
abbrev EYE (m : Mod) (s p : Nat) : Int := eyeS m (ownS m) (m.ss.getD s default).x (m.ss.getD s default).y p
theorem SP.hid_nil (h : SP m s p) {eye : Int} (he : 0 ≤ eye ∧ eye ≤ 2000) : Go.Proofs.YthkgnhcknkjgdaaDoor.hidL m s eye p = [] ↔ EYE m s p ≤ eye := by
  rw [h.hidL he]; exact hides_iff h.way he.1
theorem SP.hid_len (h : SP m s p) {lo hi : Int} (h1 : 0 ≤ lo) (h2 : lo ≤ hi) (h3 : hi ≤ 2000) : (Go.Proofs.YthkgnhcknkjgdaaDoor.hidL m s hi p).length ≤ (Go.Proofs.YthkgnhcknkjgdaaDoor.hidL m s lo p).length := by
  rw [h.hidL ⟨by omega, h3⟩, h.hidL ⟨h1, by omega⟩]; exact hides_mono h.way h2
theorem SP.eye (h : SP m s p) : eyeR m s p = if EYE m s p > 2000 then (0, 9) else (EYE m s p, 0) := by
  unfold eyeR; rw [if_neg (by rw [h.ask]; decide)]; rfl
theorem SP.seenE (h : SP m s p) : seenE m s = 0 := seen_0 h.c h.s
theorem SP.lo (h : SP m s p) : 0 ≤ (m.ss.getD s default).lo ∧ (m.ss.getD s default).lo ≤ (m.ss.getD s default).hi ∧ (m.ss.getD s default).hi ≤ 2000 := (h.g.st h.s).2.1
theorem SP.sure (h : SP m s p) : ((p : Int) ∈ sureL m s) ↔ EYE m s p ≤ (m.ss.getD s default).lo := by
  have hl := h.lo
  rw [sure_0 h.seenE]
  unfold seenL
  rw [mem_sel]
  constructor
  · rintro ⟨i, _, hi, e⟩
    obtain rfl : i = p := by omega
    exact (sees_iff h.way hl.1).1 hi
  · intro hE; exact ⟨p, h.p, (sees_iff h.way hl.1).2 hE, rfl⟩
theorem SP.may (h : SP m s p) : ((p : Int) ∈ mayL m s) ↔ EYE m s p ≤ (m.ss.getD s default).hi := by
  have hl := h.lo
  rw [may_0 h.seenE]
  unfold seenL
  rw [mem_sel]
  constructor
  · rintro ⟨i, _, hi, e⟩
    obtain rfl : i = p := by omega
    exact (sees_iff h.way (by omega)).1 hi
  · intro hE; exact ⟨p, h.p, (sees_iff h.way (by omega)).2 hE, rfl⟩
end
theorem sure_in {m : Mod} {s : Nat} (hc : (chk m).2.2 = 0) (hs : s < m.ss.length) {x : Int} (h : x ∈ sureL m s) : x ∈ mayL m s := by
  have h0 := h
  rw [sure_0 (seen_0 hc hs)] at h0
  unfold seenL at h0
  obtain ⟨i, hi, _, rfl⟩ := mem_sel.1 h0
  have k : SP m s i := ⟨hc, hs, hi⟩
  have hl := k.lo
  have := k.sure.1 h
  exact k.may.2 (by omega)
/-! Best -/
theorem fromL_len {m : Mod} {x y eye : Int} : (fromL m x y eye).length ≤ m.ps.length := selN_len
def vis (b a : Nat) (x y : Int) : Prop := y + 1 < b ∨ y + 1 = b ∧ x + 1 < a
structure Vis (m : Mod) (eye : Int) (b a : Nat) (c : Acc) : Prop where
  le : ∀ x y, (-1 ≤ x ∧ x ≤ m.W) → -1 ≤ y → ¬ onF m.W m.D x y → vis b a x y → ((fromL m x y eye).length : Int) ≤ c.2.2.2 ∧ (((fromL m x y eye).length : Int) = c.2.2.2 → c.2.1 < y ∨ c.2.1 = y ∧ c.1 ≤ x)
  at' : c.2.2.2 = -1 ∨ (c.2.2.1 = fromL m c.1 c.2.1 eye ∧ c.2.2.2 = (c.2.2.1.length : Int) ∧ (-1 ≤ c.1 ∧ c.1 ≤ m.W) ∧ -1 ≤ c.2.1 ∧ ¬ onF m.W m.D c.1 c.2.1 ∧ vis b a c.1 c.2.1)
theorem vis_step {m : Mod} {eye : Int} {b a : Nat} {c : Acc} (ha : (a : Int) - 1 ≤ m.W) (h : Vis m eye b a c) : Vis m eye b (a + 1) (bstep m eye ((a : Int) - 1) ((b : Int) - 1) c) := by
  have hvs : ∀ x y, vis b (a + 1) x y → vis b a x y ∨ (x = (a : Int) - 1 ∧ y = (b : Int) - 1) := fun x y hv => by unfold vis at *; omega
  have hvm : ∀ x y, vis b a x y → vis b (a + 1) x y := fun x y hv => by unfold vis at *; omega
  by_cases hF : onF m.W m.D ((a : Int) - 1) ((b : Int) - 1)
  · rw [bstep_on hF]
    refine ⟨fun x y hx hy hn hv => ?_, ?_⟩
    · rcases hvs x y hv with h1 | ⟨rfl, rfl⟩
      · exact h.le x y hx hy hn h1
      · exact absurd hF hn
    · rcases h.at' with h1 | ⟨h1, h2, h3, h4, h5, h6⟩
      · exact .inl h1
      · exact .inr ⟨h1, h2, h3, h4, h5, hvm _ _ h6⟩
  · by_cases hg : ((fromL m ((a : Int) - 1) ((b : Int) - 1) eye).length : Int) > c.2.2.2
    · rw [bstep_gt hF hg]
      refine ⟨fun x y hx hy hn hv => ?_, .inr ⟨rfl, rfl, ⟨by simp only; omega, by simp only; omega⟩, by simp only; omega, hF, .inr ⟨by simp only; omega, by simp only; omega⟩⟩⟩
      rcases hvs x y hv with h1 | ⟨rfl, rfl⟩
      · have := (h.le x y hx hy hn h1).1
        exact ⟨by simp only; omega, fun e => by simp only at e; omega⟩
      · exact ⟨Int.le_refl _, fun _ => .inr ⟨rfl, Int.le_refl _⟩⟩
    · rw [bstep_le hF hg]
      refine ⟨fun x y hx hy hn hv => ?_, ?_⟩
      · rcases hvs x y hv with h1 | ⟨rfl, rfl⟩
        · exact h.le x y hx hy hn h1
        · refine ⟨by omega, fun e => ?_⟩
          rcases h.at' with h1 | ⟨_, _, _, _, _, h6⟩
          · omega
          · unfold vis at h6; omega
      · rcases h.at' with h1 | ⟨h1, h2, h3, h4, h5, h6⟩
        · exact .inl h1
        · exact .inr ⟨h1, h2, h3, h4, h5, hvm _ _ h6⟩
theorem vis_in {m : Mod} {eye : Int} {b : Nat} {c : Acc} (h : Vis m eye b 0 c) : ∀ a : Nat, (a : Int) - 2 ≤ m.W → Vis m eye b a (inK m eye b c a)
  | 0, _ => h
  | a + 1, ha => vis_step (by omega) (vis_in h a (by omega))
theorem vis_row {m : Mod} {eye : Int} {b : Nat} {c : Acc} (hw : 0 ≤ m.W) (h : Vis m eye b (m.W + 2).toNat c) : Vis m eye (b + 1) 0 c := by
  refine ⟨fun x y hx hy hn hv => h.le x y hx hy hn (by unfold vis at *; omega), ?_⟩
  rcases h.at' with h1 | ⟨h1, h2, h3, h4, h5, h6⟩
  · exact .inl h1
  · exact .inr ⟨h1, h2, h3, h4, h5, by unfold vis at *; omega⟩
theorem vis_out {m : Mod} {eye : Int} (hw : 0 ≤ m.W) : ∀ b : Nat, Vis m eye b 0 (outK m eye b)
  | 0 => ⟨fun x y hx hy hn hv => by unfold vis at hv; omega, .inl rfl⟩
  | b + 1 => vis_row hw (vis_in (vis_out hw b) _ (by omega))
/-- The best place. -/
theorem best_spec {m : Mod} {eye : Int} (hw : 0 ≤ m.W) (hd : 0 ≤ m.D) : ((bestA m eye).2.2.1 = fromL m (bestA m eye).1 (bestA m eye).2.1 eye ∧ (-1 ≤ (bestA m eye).1 ∧ (bestA m eye).1 ≤ m.W) ∧ (-1 ≤ (bestA m eye).2.1 ∧ (bestA m eye).2.1 ≤ m.D) ∧ ¬ onF m.W m.D (bestA m eye).1 (bestA m eye).2.1) ∧
    ∀ x y, (-1 ≤ x ∧ x ≤ m.W) → (-1 ≤ y ∧ y ≤ m.D) → ¬ onF m.W m.D x y → (fromL m x y eye).length ≤ (bestA m eye).2.2.1.length ∧ ((fromL m x y eye).length = (bestA m eye).2.2.1.length → (bestA m eye).2.1 < y ∨ (bestA m eye).2.1 = y ∧ (bestA m eye).1 ≤ x) := by
  have h := vis_out (m := m) (eye := eye) hw (m.D + 2).toNat
  have h0 := h.le (-1) (-1) ⟨by omega, by omega⟩ (by omega) (by omega) (by unfold vis; omega)
  have e : outK m eye (m.D + 2).toNat = bestA m eye := rfl
  rw [e] at h h0
  rcases h.at' with h1 | ⟨h1, h2, h3, h4, h5, h6⟩
  · omega
  · refine ⟨⟨h1, h3, ⟨h4, by unfold vis at h6; omega⟩, h5⟩, fun x y hx hy hn => ?_⟩
    have := h.le x y hx hy.1 hn (by unfold vis; omega)
    rw [h2] at this
    exact ⟨by omega, fun e => this.2 (by omega)⟩
/-- A good model with two stands of its own. -/
def twoM (m : Mod) (a b x y n : Int) : Mod := { m with ss := [⟨a, b, n, n⟩, ⟨x, y, n, n⟩] }
theorem two_chk {m : Mod} {a b x y n : Int} (hc : (chk m).2.2 = 0) (hn : 0 ≤ n ∧ n ≤ 2000) (ha : -1 ≤ a ∧ a ≤ m.W) (hb : -1 ≤ b ∧ b ≤ m.D) (h1 : ¬ onF m.W m.D a b) (hx : -1 ≤ x ∧ x ≤ m.W) (hy : -1 ≤ y ∧ y ≤ m.D) (h2 : ¬ onF m.W m.D x y) : (chk (twoM m a b x y n)).2.2 = 0 := by
  have g := chk_good hc
  have gw := g.w
  have gd := g.d
  obtain ⟨k1, k2, k3, k4, k5, k6, k7⟩ := chk_part.1 hc
  refine chk_part.2 ⟨k1, k2, k3, k4, k5, by simp [twoM], fst_zero.2 fun s hs => ?_⟩
  have hs' : s = ⟨a, b, n, n⟩ ∨ s = ⟨x, y, n, n⟩ := by simpa [twoM] using hs
  rcases hs' with rfl | rfl
  · unfold stE; rw [if_neg (by simp only; omega), if_neg (by exact h1), if_neg (by simp only; omega)]
  · unfold stE; rw [if_neg (by simp only; omega), if_neg (by exact h2), if_neg (by simp only; omega)]
theorem two_sure {m : Mod} {a b x y n : Int} (hc : (chk (twoM m a b x y n)).2.2 = 0) : (seenE (twoM m a b x y n) 0 = 0 ∧ sureL (twoM m a b x y n) 0 = fromL m a b n) ∧ (seenE (twoM m a b x y n) 1 = 0 ∧ sureL (twoM m a b x y n) 1 = fromL m x y n) := by
  have h0 : seenE (twoM m a b x y n) ((0 : Nat) : Int) = 0 := seen_0 hc (by simp [twoM])
  have h1 : seenE (twoM m a b x y n) ((1 : Nat) : Int) = 0 := seen_0 hc (by simp [twoM])
  exact ⟨⟨h0, sure_0 h0⟩, ⟨h1, sure_0 h1⟩⟩
end Go.Proofs.YthkgnhcknkjgdaaDoor
