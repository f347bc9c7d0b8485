/-
  Plain lemmas and plain functions, several texts joined.
  Conditions stand in each theorem.
-/
import Derived.Test.YthkgnhcknkjgdaaDoorS3
set_option linter.unusedSimpArgs false
set_option linter.unusedVariables false
/-
  How long lists are that functions return.
  No conditions but those in the theorems.
-/
namespace Go.Proofs.YthkgnhcknkjgdaaDoor
open Go
theorem hid_len6 {m : Mod} {s eye p : Int} : (hidL m s eye p).length ≤ 1000000 := by
  unfold hidL
  split
  · rename_i h
    have ha : askE m s p = 0 := by
      unfold hidE at h; split at h
      · rename_i h1; exact absurd h h1
      · rename_i h1; exact Decidable.not_not.1 h1
    obtain ⟨hc, hs, hp⟩ := ask_0 ha
    obtain ⟨s, rfl⟩ := Int.eq_ofNat_of_zero_le hs.1
    obtain ⟨p, rfl⟩ := Int.eq_ofNat_of_zero_le hp.1
    have g := chk_good hc
    have hst := g.st (s := s) (by omega)
    have hw : Way m (m.ss.getD s default).x (m.ss.getD s default).y p := ⟨g, by omega, by omega, by omega⟩
    have := hides_len (l := ownS m) (eye := eye) hw
    exact Nat.le_trans this (by decide)
  · simp
theorem seenE_0 {m : Mod} {s : Int} (h : seenE m s = 0) : (chk m).2.2 = 0 := by
  unfold seenE at h; split at h
  · rename_i h1; exact absurd h h1
  · rename_i h1; exact Decidable.not_not.1 h1
theorem sure_len6 {m : Mod} {s : Int} : (sureL m s).length ≤ 1000000 := by
  unfold sureL
  split
  · rename_i h
    have := (chk_good (seenE_0 h)).n
    exact Nat.le_trans seenL_len (by omega)
  · simp
theorem may_len6 {m : Mod} {s : Int} : (mayL m s).length ≤ 1000000 := by
  unfold mayL
  split
  · rename_i h
    have := (chk_good (seenE_0 h)).n
    exact Nat.le_trans seenL_len (by omega)
  · simp
theorem lng_len6 {m : Mod} : (lngL m).length ≤ 1000000 := by
  unfold lngL
  split
  · have := @rounds_len m
    rw [List.length_take]; omega
  · simp
end Go.Proofs.YthkgnhcknkjgdaaDoor

/-
  Laws of eyes and places, in plain form.
  No conditions but those in the theorems.
-/
namespace Go.Proofs.YthkgnhcknkjgdaaDoor
open Go
theorem hides_mono {m : Mod} {l : List Int} {x y lo hi : Int} {i : Nat} (h : Way m x y i) (hle : lo ≤ hi) : (hidesS m l x y hi i).length ≤ (hidesS m l x y lo i).length := by
  unfold hidesS
  rw [List.length_map, List.length_map, ← List.countP_eq_length_filter, ← List.countP_eq_length_filter]
  refine List.countP_mono_left fun s hs hb => ?_
  obtain ⟨k, hk⟩ := List.getElem?_of_mem hs
  have h1 := h.step hk
  unfold hideB at hb ⊢
  rw [decide_eq_true_eq] at hb ⊢
  have h2 : lo * (s.2.2 - s.2.1) ≤ hi * (s.2.2 - s.2.1) := Int.mul_le_mul_of_nonneg_right hle (by omega)
  omega
/-- A stand and a pin of a good model. -/
structure SP (m : Mod) (s p : Nat) : Prop where
  c : (chk m).2.2 = 0
  s : s < m.ss.length
  p : p < m.ps.length
section
variable {m : Mod} {s p : Nat}
theorem SP.g (h : SP m s p) : Good m := chk_good h.c
theorem SP.way (h : SP m s p) : Way m (m.ss.getD s default).x (m.ss.getD s default).y p := by
  have := h.g.st h.s
  exact ⟨h.g, h.p, by omega, by omega⟩
theorem SP.ask (h : SP m s p) : askE m s p = 0 := by
  have := h.s
  have := h.p
  have := h.c
  unfold askE asE; rw [if_neg (by omega), if_neg (by omega)]
theorem SP.hid (h : SP m s p) {eye : Int} (he : 0 ≤ eye ∧ eye ≤ 2000) : hidE m s eye p = 0 := hid_0 h.ask he
theorem SP.hidL (h : SP m s p) {eye : Int} (he : 0 ≤ eye ∧ eye ≤ 2000) : hidL m s eye p = hidesS m (ownS m) (m.ss.getD s default).x (m.ss.getD s default).y eye p := hidL_0 (h.hid he)
abbrev EYE (m : Mod) (s p : Nat) : Int := eyeS m (ownS m) (m.ss.getD s default).x (m.ss.getD s default).y p
theorem SP.hid_nil (h : SP m s p) {eye : Int} (he : 0 ≤ eye ∧ eye ≤ 2000) : Go.Proofs.YthkgnhcknkjgdaaDoor.hidL m s eye p = [] ↔ EYE m s p ≤ eye := by
  rw [h.hidL he]; exact hides_iff h.way he.1
theorem SP.hid_len (h : SP m s p) {lo hi : Int} (h1 : 0 ≤ lo) (h2 : lo ≤ hi) (h3 : hi ≤ 2000) : (Go.Proofs.YthkgnhcknkjgdaaDoor.hidL m s hi p).length ≤ (Go.Proofs.YthkgnhcknkjgdaaDoor.hidL m s lo p).length := by
  rw [h.hidL ⟨by omega, h3⟩, h.hidL ⟨h1, by omega⟩]; exact hides_mono h.way h2
theorem SP.eye (h : SP m s p) : eyeR m s p = if EYE m s p > 2000 then (0, 9) else (EYE m s p, 0) := by
  unfold eyeR; rw [if_neg (by rw [h.ask]; decide)]; rfl
theorem SP.seenE (h : SP m s p) : seenE m s = 0 := seen_0 h.c h.s
theorem SP.lo (h : SP m s p) : 0 ≤ (m.ss.getD s default).lo ∧ (m.ss.getD s default).lo ≤ (m.ss.getD s default).hi ∧ (m.ss.getD s default).hi ≤ 2000 := (h.g.st h.s).2.1
theorem SP.sure (h : SP m s p) : ((p : Int) ∈ sureL m s) ↔ EYE m s p ≤ (m.ss.getD s default).lo := by
  have hl := h.lo
  rw [sure_0 h.seenE]
  unfold seenL
  rw [mem_sel]
  constructor
  · rintro ⟨i, _, hi, e⟩
    obtain rfl : i = p := by omega
    exact (sees_iff h.way hl.1).1 hi
  · intro hE; exact ⟨p, h.p, (sees_iff h.way hl.1).2 hE, rfl⟩
theorem SP.may (h : SP m s p) : ((p : Int) ∈ mayL m s) ↔ EYE m s p ≤ (m.ss.getD s default).hi := by
  have hl := h.lo
  rw [may_0 h.seenE]
  unfold seenL
  rw [mem_sel]
  constructor
  · rintro ⟨i, _, hi, e⟩
    obtain rfl : i = p := by omega
    exact (sees_iff h.way (by omega)).1 hi
  · intro hE; exact ⟨p, h.p, (sees_iff h.way (by omega)).2 hE, rfl⟩
end
theorem sure_in {m : Mod} {s : Nat} (hc : (chk m).2.2 = 0) (hs : s < m.ss.length) {x : Int} (h : x ∈ sureL m s) : x ∈ mayL m s := by
  have h0 := h
  rw [sure_0 (seen_0 hc hs)] at h0
  unfold seenL at h0
  obtain ⟨i, hi, _, rfl⟩ := mem_sel.1 h0
  have k : SP m s i := ⟨hc, hs, hi⟩
  have hl := k.lo
  have := k.sure.1 h
  exact k.may.2 (by omega)
/-! Best -/
theorem fromL_len {m : Mod} {x y eye : Int} : (fromL m x y eye).length ≤ m.ps.length := selN_len
def vis (b a : Nat) (x y : Int) : Prop := y + 1 < b ∨ y + 1 = b ∧ x + 1 < a
structure Vis (m : Mod) (eye : Int) (b a : Nat) (c : Acc) : Prop where
  le : ∀ x y, (-1 ≤ x ∧ x ≤ m.W) → -1 ≤ y → ¬ onF m.W m.D x y → vis b a x y → ((fromL m x y eye).length : Int) ≤ c.2.2.2 ∧ (((fromL m x y eye).length : Int) = c.2.2.2 → c.2.1 < y ∨ c.2.1 = y ∧ c.1 ≤ x)
  at' : c.2.2.2 = -1 ∨ (c.2.2.1 = fromL m c.1 c.2.1 eye ∧ c.2.2.2 = (c.2.2.1.length : Int) ∧ (-1 ≤ c.1 ∧ c.1 ≤ m.W) ∧ -1 ≤ c.2.1 ∧ ¬ onF m.W m.D c.1 c.2.1 ∧ vis b a c.1 c.2.1)
theorem vis_step {m : Mod} {eye : Int} {b a : Nat} {c : Acc} (ha : (a : Int) - 1 ≤ m.W) (h : Vis m eye b a c) : Vis m eye b (a + 1) (bstep m eye ((a : Int) - 1) ((b : Int) - 1) c) := by
  have hvs : ∀ x y, vis b (a + 1) x y → vis b a x y ∨ (x = (a : Int) - 1 ∧ y = (b : Int) - 1) := fun x y hv => by unfold vis at *; omega
  have hvm : ∀ x y, vis b a x y → vis b (a + 1) x y := fun x y hv => by unfold vis at *; omega
  by_cases hF : onF m.W m.D ((a : Int) - 1) ((b : Int) - 1)
  · rw [bstep_on hF]
    refine ⟨fun x y hx hy hn hv => ?_, ?_⟩
    · rcases hvs x y hv with h1 | ⟨rfl, rfl⟩
      · exact h.le x y hx hy hn h1
      · exact absurd hF hn
    · rcases h.at' with h1 | ⟨h1, h2, h3, h4, h5, h6⟩
      · exact .inl h1
      · exact .inr ⟨h1, h2, h3, h4, h5, hvm _ _ h6⟩
  · by_cases hg : ((fromL m ((a : Int) - 1) ((b : Int) - 1) eye).length : Int) > c.2.2.2
    · rw [bstep_gt hF hg]
      refine ⟨fun x y hx hy hn hv => ?_, .inr ⟨rfl, rfl, ⟨by simp only; omega, by simp only; omega⟩, by simp only; omega, hF, .inr ⟨by simp only; omega, by simp only; omega⟩⟩⟩
      rcases hvs x y hv with h1 | ⟨rfl, rfl⟩
      · have := (h.le x y hx hy hn h1).1
        exact ⟨by simp only; omega, fun e => by simp only at e; omega⟩
      · exact ⟨Int.le_refl _, fun _ => .inr ⟨rfl, Int.le_refl _⟩⟩
    · rw [bstep_le hF hg]
      refine ⟨fun x y hx hy hn hv => ?_, ?_⟩
      · rcases hvs x y hv with h1 | ⟨rfl, rfl⟩
        · exact h.le x y hx hy hn h1
        · refine ⟨by omega, fun e => ?_⟩
          rcases h.at' with h1 | ⟨_, _, _, _, _, h6⟩
          · omega
          · unfold vis at h6; omega
      · rcases h.at' with h1 | ⟨h1, h2, h3, h4, h5, h6⟩
        · exact .inl h1
        · exact .inr ⟨h1, h2, h3, h4, h5, hvm _ _ h6⟩
theorem vis_in {m : Mod} {eye : Int} {b : Nat} {c : Acc} (h : Vis m eye b 0 c) : ∀ a : Nat, (a : Int) - 2 ≤ m.W → Vis m eye b a (inK m eye b c a)
  | 0, _ => h
  | a + 1, ha => vis_step (by omega) (vis_in h a (by omega))
theorem vis_row {m : Mod} {eye : Int} {b : Nat} {c : Acc} (hw : 0 ≤ m.W) (h : Vis m eye b (m.W + 2).toNat c) : Vis m eye (b + 1) 0 c := by
  refine ⟨fun x y hx hy hn hv => h.le x y hx hy hn (by unfold vis at *; omega), ?_⟩
  rcases h.at' with h1 | ⟨h1, h2, h3, h4, h5, h6⟩
  · exact .inl h1
  · exact .inr ⟨h1, h2, h3, h4, h5, by unfold vis at *; omega⟩
theorem vis_out {m : Mod} {eye : Int} (hw : 0 ≤ m.W) : ∀ b : Nat, Vis m eye b 0 (outK m eye b)
  | 0 => ⟨fun x y hx hy hn hv => by unfold vis at hv; omega, .inl rfl⟩
  | b + 1 => vis_row hw (vis_in (vis_out hw b) _ (by omega))
/-- The best place. -/
theorem best_spec {m : Mod} {eye : Int} (hw : 0 ≤ m.W) (hd : 0 ≤ m.D) : ((bestA m eye).2.2.1 = fromL m (bestA m eye).1 (bestA m eye).2.1 eye ∧ (-1 ≤ (bestA m eye).1 ∧ (bestA m eye).1 ≤ m.W) ∧ (-1 ≤ (bestA m eye).2.1 ∧ (bestA m eye).2.1 ≤ m.D) ∧ ¬ onF m.W m.D (bestA m eye).1 (bestA m eye).2.1) ∧
    ∀ x y, (-1 ≤ x ∧ x ≤ m.W) → (-1 ≤ y ∧ y ≤ m.D) → ¬ onF m.W m.D x y → (fromL m x y eye).length ≤ (bestA m eye).2.2.1.length ∧ ((fromL m x y eye).length = (bestA m eye).2.2.1.length → (bestA m eye).2.1 < y ∨ (bestA m eye).2.1 = y ∧ (bestA m eye).1 ≤ x) := by
  have h := vis_out (m := m) (eye := eye) hw (m.D + 2).toNat
  have h0 := h.le (-1) (-1) ⟨by omega, by omega⟩ (by omega) (by omega) (by unfold vis; omega)
  have e : outK m eye (m.D + 2).toNat = bestA m eye := rfl
  rw [e] at h h0
  rcases h.at' with h1 | ⟨h1, h2, h3, h4, h5, h6⟩
  · omega
  · refine ⟨⟨h1, h3, ⟨h4, by unfold vis at h6; omega⟩, h5⟩, fun x y hx hy hn => ?_⟩
    have := h.le x y hx hy.1 hn (by unfold vis; omega)
    rw [h2] at this
    exact ⟨by omega, fun e => this.2 (by omega)⟩
/-- A good model with two stands of its own. -/
def twoM (m : Mod) (a b x y n : Int) : Mod := { m with ss := [⟨a, b, n, n⟩, ⟨x, y, n, n⟩] }
theorem two_chk {m : Mod} {a b x y n : Int} (hc : (chk m).2.2 = 0) (hn : 0 ≤ n ∧ n ≤ 2000) (ha : -1 ≤ a ∧ a ≤ m.W) (hb : -1 ≤ b ∧ b ≤ m.D) (h1 : ¬ onF m.W m.D a b) (hx : -1 ≤ x ∧ x ≤ m.W) (hy : -1 ≤ y ∧ y ≤ m.D) (h2 : ¬ onF m.W m.D x y) : (chk (twoM m a b x y n)).2.2 = 0 := by
  have g := chk_good hc
  have gw := g.w
  have gd := g.d
  obtain ⟨k1, k2, k3, k4, k5, k6, k7⟩ := chk_part.1 hc
  refine chk_part.2 ⟨k1, k2, k3, k4, k5, by simp [twoM], fst_zero.2 fun s hs => ?_⟩
  have hs' : s = ⟨a, b, n, n⟩ ∨ s = ⟨x, y, n, n⟩ := by simpa [twoM] using hs
  rcases hs' with rfl | rfl
  · unfold stE; rw [if_neg (by simp only; omega), if_neg (by exact h1), if_neg (by simp only; omega)]
  · unfold stE; rw [if_neg (by simp only; omega), if_neg (by exact h2), if_neg (by simp only; omega)]
theorem two_sure {m : Mod} {a b x y n : Int} (hc : (chk (twoM m a b x y n)).2.2 = 0) : (seenE (twoM m a b x y n) 0 = 0 ∧ sureL (twoM m a b x y n) 0 = fromL m a b n) ∧ (seenE (twoM m a b x y n) 1 = 0 ∧ sureL (twoM m a b x y n) 1 = fromL m x y n) := by
  have h0 : seenE (twoM m a b x y n) ((0 : Nat) : Int) = 0 := seen_0 hc (by simp [twoM])
  have h1 : seenE (twoM m a b x y n) ((1 : Nat) : Int) = 0 := seen_0 hc (by simp [twoM])
  exact ⟨⟨h0, sure_0 h0⟩, ⟨h1, sure_0 h1⟩⟩
end Go.Proofs.YthkgnhcknkjgdaaDoor

/-
  Lengths: which ones show a pin; the reference's rounds.
  No conditions but those in the theorems.
-/
namespace Go.Proofs.YthkgnhcknkjgdaaDoor
open Go
/-- Lengths that are the same on a model's pins. -/
def Agree (m : Mod) (l l' : List Int) : Prop := ∀ i, i < m.ps.length → l.getD i default = l'.getD i default
section
variable {m : Mod} {l l' : List Int}
theorem Agree.top (h : Agree m l l') {f : Int} : topS m l f = topS m l' f := by
  rw [topS_eq, topS_eq]
  cases e : pinAt m f with
  | none => rfl
  | some i => simp only [h i (pinAtK_some (k := m.ps.length) e).1]
theorem Agree.hide (h : Agree m l l') {eye : Int} {i : Nat} (hi : i < m.ps.length) (s : Int × Int × Int) : hideB m l eye i s = hideB m l' eye i s := by
  unfold hideB headS; rw [h.top, h i hi]
theorem Agree.hides (h : Agree m l l') {x y eye : Int} {i : Nat} (hi : i < m.ps.length) : hidesS m l x y eye i = hidesS m l' x y eye i := by
  unfold hidesS; rw [show hideB m l eye i = hideB m l' eye i from funext (h.hide hi)]
theorem Agree.sees (h : Agree m l l') {x y eye : Int} {i : Nat} (hi : i < m.ps.length) : seesB m l x y eye i = seesB m l' x y eye i := by
  unfold seesB; rw [h.hides hi]
theorem Agree.needE (h : Agree m l l') {lo : Int} {i : Nat} : Go.Proofs.YthkgnhcknkjgdaaDoor.needE m l lo i = Go.Proofs.YthkgnhcknkjgdaaDoor.needE m l' lo i := by
  funext s; unfold Go.Proofs.YthkgnhcknkjgdaaDoor.needE more2; rw [h.top]
theorem Agree.needK (h : Agree m l l') {i : Nat} : ∀ k, Go.Proofs.YthkgnhcknkjgdaaDoor.needK m l i k = Go.Proofs.YthkgnhcknkjgdaaDoor.needK m l' i k
  | 0 => rfl
  | k + 1 => by
    unfold Go.Proofs.YthkgnhcknkjgdaaDoor.needK
    rw [h.needK k]
    unfold needA
    rw [h.needE]
theorem Agree.need (h : Agree m l l') {i : Nat} : needS m l i = needS m l' i := h.needK _
theorem Agree.symm (h : Agree m l l') : Agree m l' l := fun i hi => (h i hi).symm
end
section
variable {m : Mod} {l : List Int} {x y lo : Int} {i k : Nat} {s : Int × Int × Int}
/-- A field between is not the pin's own. -/
theorem step_ne (h : Way m x y i) (hs : (stepsS m x y i)[k]? = some s) : s.1 ≠ fldS m i := by
  obtain ⟨j, h1, h2, rfl⟩ := steps_at hs
  intro e
  have h3 := fld_inj h.g.w h2 (h.g.p i h.i).1 e
  have gx := gS_x (m := m) (x := x) (y := y) (i := i)
  have gy := gS_y (m := m) (x := x) (y := y) (i := i)
  have hb := h.gb
  obtain ⟨e1, e2⟩ := h3
  unfold atX at e1
  unfold atY at e2
  generalize hg : gS m x y i = g at *
  obtain ⟨q, hq⟩ := gx
  obtain ⟨r, hr⟩ := gy
  rw [hq, Int.mul_ediv_cancel_left _ (by omega)] at e1
  rw [hr, Int.mul_ediv_cancel_left _ (by omega)] at e2
  have z : ∀ t d : Int, d = g * t → t * ((j : Int) + 1) = d → t = 0 := fun t d hd he => by
    have h4 : t * (g - ((j : Int) + 1)) = 0 := by rw [Int.mul_sub, he, hd, Int.mul_comm t g]; omega
    rcases Int.mul_eq_zero.1 h4 with h5 | h5
    · exact h5
    · omega
  have hq0 := z q _ hq (by omega)
  have hr0 := z r _ hr (by omega)
  subst hq0 hr0
  have : gS m x y i = 0 := by
    unfold gS gcdS
    rw [show (m.ps.getD i default).x - x = 0 by omega, show (m.ps.getD i default).y - y = 0 by omega]; rfl
  omega
theorem top_set {v : Int} (h : Way m x y i) (hs : (stepsS m x y i)[k]? = some s) : topS m (l.set i v) s.1 = topS m l s.1 := by
  rw [topS_eq, topS_eq]
  cases e : pinAt m s.1 with
  | none => rfl
  | some j =>
    have hj := pinAtK_some (k := m.ps.length) e
    have hne : i ≠ j := fun e2 => step_ne h hs (by rw [e2]; exact hj.2.symm)
    simp only [List.getD_eq_getElem?_getD, List.getElem?_set_ne hne]
theorem set_at {v : Int} (hi : i < l.length) : (l.set i v).getD i default = v := by
  rw [List.getD_eq_getElem?_getD, List.getElem?_set_self hi]; rfl
theorem set_self (hi : i < l.length) : l.set i (l.getD i default) = l := by
  rw [List.getD_eq_getElem?_getD, List.getElem?_eq_getElem hi]; simp
/-- A step hides just with a length below what it needs. -/
theorem need_step {v : Int} (h : Way m x y i) (hil : i < l.length) (hv : 0 ≤ v) (hs : (stepsS m x y i)[k]? = some s) : hideB m (l.set i v) lo i s = false ↔ needE m l lo i s ≤ v := by
  have h1 := h.step hs
  have hh : headS m (l.set i v) i = hgS m i + v := by rw [head_eq, set_at hil]
  unfold hideB
  rw [decide_eq_false_iff_not, top_set h hs, hh, Int.add_mul]
  have hmul : 0 ≤ v * s.2.1 := Int.mul_nonneg hv (by omega)
  unfold needE
  split
  · rename_i h2
    have h3 := Int.ediv_lt_iff_lt_mul (a := more2 m l lo i s) (b := v) (c := s.2.1) (by omega)
    unfold more2 at *
    omega
  · rename_i h2
    unfold more2 at h2
    omega
end
/-- The pin is surely seen from all stands. -/
def openB (m : Mod) (l : List Int) (i : Nat) : Bool := (List.range m.ss.length).all fun s => seesB m l (m.ss.getD s default).x (m.ss.getD s default).y (m.ss.getD s default).lo i
section
variable {m : Mod} {l : List Int} {i : Nat}
theorem needK_le {v : Int} (hv : 0 ≤ v) : ∀ k, needK m l i k ≤ v ↔ ∀ s, s < k → ∀ u ∈ stepsS m (m.ss.getD s default).x (m.ss.getD s default).y i, needE m l (m.ss.getD s default).lo i u ≤ v
  | 0 => ⟨fun _ s hs => absurd hs (Nat.not_lt_zero s), fun _ => hv⟩
  | k + 1 => by
    unfold needK needA
    rw [foldmax_le, needK_le hv k]
    constructor
    · rintro ⟨h1, h2⟩ s hs u hu
      rcases Nat.lt_or_ge s k with h3 | h3
      · exact h1 s h3 u hu
      · obtain rfl : s = k := by omega
        exact h2 _ (List.mem_map.2 ⟨u, hu, rfl⟩)
    · intro h
      refine ⟨fun s hs u hu => h s (by omega) u hu, fun z hz => ?_⟩
      obtain ⟨u, hu, rfl⟩ := List.mem_map.1 hz
      exact h k (by omega) u hu
theorem sees_need {v : Int} (g : Good m) (hi : i < m.ps.length) (hil : i < l.length) (hv : 0 ≤ v) {s : Nat} (hs : s < m.ss.length) : seesB m (l.set i v) (m.ss.getD s default).x (m.ss.getD s default).y (m.ss.getD s default).lo i = true ↔ ∀ u ∈ stepsS m (m.ss.getD s default).x (m.ss.getD s default).y i, needE m l (m.ss.getD s default).lo i u ≤ v := by
  have hst := g.st hs
  have hw : Way m (m.ss.getD s default).x (m.ss.getD s default).y i := ⟨g, hi, by omega, by omega⟩
  unfold seesB hidesS
  rw [List.isEmpty_iff, List.map_eq_nil_iff, List.filter_eq_nil_iff]
  constructor
  · intro h u hu
    obtain ⟨k, hk⟩ := List.getElem?_of_mem hu
    exact (need_step hw hil hv hk).1 (by simpa using h u hu)
  · intro h u hu
    obtain ⟨k, hk⟩ := List.getElem?_of_mem hu
    have := (need_step (lo := (m.ss.getD s default).lo) hw hil hv hk).2 (h u hu)
    simpa using this
/-- A pin is surely seen from all stands just from needS on. -/
theorem open_iff {v : Int} (g : Good m) (hi : i < m.ps.length) (hil : i < l.length) (hv : 0 ≤ v) : openB m (l.set i v) i = true ↔ needS m l i ≤ v := by
  unfold openB needS
  rw [needK_le hv, List.all_eq_true]
  constructor
  · intro h s hs; exact (sees_need g hi hil hv hs).1 (h s (List.mem_range.2 hs))
  · intro h s hs; exact (sees_need g hi hil hv (List.mem_range.1 hs)).2 (h s (List.mem_range.1 hs))
theorem open_own (g : Good m) (hi : i < m.ps.length) (hil : i < l.length) (hl : LB l) : openB m l i = true ↔ needS m l i ≤ l.getD i default := by
  rw [← open_iff g hi hil (hl i).1, set_self hil]
theorem needS_nn : 0 ≤ needS m l i := by
  unfold needS
  have : ∀ k, 0 ≤ needK m l i k := by
    intro k
    induction k with
    | zero => exact Int.le_refl _
    | succ k ih =>
      unfold needK needA
      exact Int.le_trans ih ((foldmax_le (A := _) _).1 (Int.le_refl _)).1
  exact this _
end
/-- The lengths after a round of the reference. -/
def roundR (m : Mod) (l : List Int) (k : Nat) : List Int := (List.range k).map fun i => min (max (l.getD i default) (needS m l i)) ((m.ps.getD i default).most + 1)
section
variable {m : Mod} {l l6 : List Int} {i k : Nat}
theorem roundR_len : (roundR m l k).length = k := by simp [roundR]
theorem roundR_succ : roundR m l (k + 1) = roundR m l k ++ [min (max (l.getD k default) (needS m l k)) ((m.ps.getD k default).most + 1)] := by
  unfold roundR; rw [List.range_succ, List.map_append]; rfl
theorem roundR_at (h : i < k) : (roundR m l k).getD i default = min (max (l.getD i default) (needS m l i)) ((m.ps.getD i default).most + 1) := by
  unfold roundR; rw [List.getD_eq_getElem?_getD, List.getElem?_map, List.getElem?_range h]; rfl
theorem next_at (h6 : m.ps.length ≤ 6) (h : i < m.ps.length) : (nextS m l6).getD i default = max (l6.getD i default) (needS m l6 i) := by
  unfold nextS; rw [nx_at (by omega), if_pos h]
/-- The first pin that is longer than it may be. -/
def tooR (m : Mod) (l : List Int) : Option Nat := (List.range l.length).find? fun i => decide (l.getD i default > (m.ps.getD i default).most)
theorem find_congr {p q : Nat → Bool} {n : Nat} (h : ∀ i, i < n → p i = q i) : (List.range n).find? p = (List.range n).find? q := by
  have : ∀ xs : List Nat, (∀ x ∈ xs, p x = q x) → xs.find? p = xs.find? q := by
    intro xs
    induction xs with
    | nil => intro _; rfl
    | cons x xs ih => intro hx; rw [List.find?_cons, List.find?_cons, hx x List.mem_cons_self, ih (fun z hz => hx z (List.mem_cons_of_mem _ hz))]
  exact this _ (fun x hx => h x (List.mem_range.1 hx))
theorem tooR_eq (h6 : m.ps.length ≤ 6) (ha : Agree m l l6) : tooR m (roundR m l m.ps.length) = tooF m (nextS m l6) := by
  unfold tooR tooF
  rw [roundR_len]
  refine find_congr fun i hi => decide_eq_decide.2 ?_
  rw [roundR_at hi, next_at h6 hi, ha i hi, ha.need]
  omega
theorem agree_round (h6 : m.ps.length ≤ 6) (ha : Agree m l l6) (ht : tooF m (nextS m l6) = none) : Agree m (roundR m l m.ps.length) (nextS m l6) := fun i hi => by
  have := too_none.1 ht i hi
  rw [roundR_at hi, next_at h6 hi, ha i hi, ha.need]
  rw [next_at h6 hi] at this
  omega
theorem agree_take {n : Nat} (h6 : l6.length = 6) (hn : n ≤ 6) : ∀ i, i < n → (l6.take n).getD i default = l6.getD i default := fun i hi => by
  rw [List.getD_eq_getElem?_getD, List.getD_eq_getElem?_getD, List.getElem?_take, if_pos hi]
theorem agree_eq {n : Nat} {a b : List Int} (ha : a.length = n) (hb : b.length = n) (h : ∀ i, i < n → a.getD i default = b.getD i default) : a = b := by
  apply List.ext_getElem (by omega)
  intro i h1 h2
  have := h i (by omega)
  rwa [List.getD_eq_getElem?_getD, List.getD_eq_getElem?_getD, List.getElem?_eq_getElem h1, List.getElem?_eq_getElem h2] at this
/-- The reference's list is the beginning of the six lengths. -/
theorem round_take (h6 : m.ps.length ≤ 6) (hl6 : l6.length = 6) (ht : tooF m (nextS m l6) = none) : roundR m (l6.take m.ps.length) m.ps.length = (nextS m l6).take m.ps.length := by
  have h7 : (nextS m l6).length = 6 := nx_len
  refine agree_eq (n := m.ps.length) roundR_len (by rw [List.length_take, h7]; omega) fun i hi => ?_
  rw [agree_take h7 h6 i hi]
  exact agree_round h6 (fun i hi => agree_take hl6 h6 i hi) ht i hi
/-- No length changes just if none of the six does. -/
theorem take_same (h6 : m.ps.length ≤ 6) (hl6 : l6.length = 6) : l6.take m.ps.length = (nextS m l6).take m.ps.length ↔ nextS m l6 = l6 := by
  have h7 : (nextS m l6).length = 6 := nx_len
  constructor
  · intro h
    refine ext6 h7 hl6 fun i hi => ?_
    rcases Nat.lt_or_ge i m.ps.length with h1 | h1
    · rw [← agree_take h7 h6 i h1, ← h, agree_take hl6 h6 i h1]
    · unfold nextS; rw [nx_at hi, if_neg (by omega)]
  · intro h; rw [h]
theorem own_take (h6 : m.ps.length ≤ 6) : (own6 m).take m.ps.length = ownS m := by
  refine agree_eq (n := m.ps.length) (by rw [List.length_take, own6_len]; omega) own_len fun i hi => ?_
  rw [agree_take own6_len h6 i hi, own6_at, if_pos (by omega)]
theorem lb_take {n : Nat} (h : LB l6) : LB (l6.take n) := fun i => by
  rw [List.getD_eq_getElem?_getD, List.getElem?_take]
  split
  · have := h i; rwa [List.getD_eq_getElem?_getD] at this
  · exact ⟨Int.le_refl _, by show (0 : Int) ≤ 300; decide⟩
theorem lb_set {v : Int} (h : LB l) (hv : 0 ≤ v ∧ v ≤ 300) : LB (l.set i v) := fun j => by
  rw [List.getD_eq_getElem?_getD, List.getElem?_set]
  split
  · split
    · exact hv
    · exact ⟨Int.le_refl _, by show (0 : Int) ≤ 300; decide⟩
  · have := h j; rwa [List.getD_eq_getElem?_getD] at this
end
end Go.Proofs.YthkgnhcknkjgdaaDoor

/-
  The rounds' results.
  No conditions but those in the theorems.
-/
namespace Go.Proofs.YthkgnhcknkjgdaaDoor
open Go
theorem hides_pos {m : Mod} {l : List Int} {x y eye : Int} {i : Nat} : decide (((hidesS m l x y eye i).length : Int) > 0) = !seesB m l x y eye i := by
  rw [← sees_len, ← decide_not]
  exact decide_eq_decide.2 (by omega)
theorem too_find {m : Mod} {l : List Int} {k : Nat} (hk : k < l.length) (hall : ∀ i, i < k → ¬ l.getD i default > (m.ps.getD i default).most) (h : l.getD k default > (m.ps.getD k default).most) : tooR m l = some k := by
  unfold tooR
  rw [List.find?_eq_some_iff_append]
  refine ⟨by simpa using h, List.range k, (List.range (l.length - k - 1)).map (fun j => k + 1 + j), ?_, fun a ha => by have := hall a (List.mem_range.1 ha); simpa using this⟩
  apply List.ext_getElem?
  intro j
  rcases Nat.lt_trichotomy j k with h1 | h1 | h1
  · rw [List.getElem?_append_left (by simpa using h1), List.getElem?_range (by omega), List.getElem?_range h1]
  · subst h1
    rw [List.getElem?_append_right (by simp), List.getElem?_range hk]; simp
  · rw [List.getElem?_append_right (by simp; omega)]
    have e : j - (List.range k).length = (j - k - 1) + 1 := by simp; omega
    rw [e, List.getElem?_cons_succ, List.getElem?_map]
    rcases Nat.lt_or_ge j l.length with h2 | h2
    · rw [List.getElem?_range h2, List.getElem?_range (by omega)]
      simp; omega
    · rw [List.getElem?_eq_none (by simpa using h2), List.getElem?_eq_none (by simp; omega)]; rfl
theorem too_no {m : Mod} {l : List Int} (h : ∀ i, i < l.length → ¬ l.getD i default > (m.ps.getD i default).most) : tooR m l = none := by
  unfold tooR
  rw [List.find?_eq_none]
  intro i hi
  have := h i (List.mem_range.1 hi)
  simpa using this
theorem rnd_sign {m : Mod} : ∀ (f : Nat) (l : List Int) (r : Int), 0 ≤ r → (((rndS m f l r).2.2 = -1 ∧ (rndS m f l r).2.1 = 0) ∨ ((rndS m f l r).2.2 ≠ -1 ∧ (rndS m f l r).2.1 > 0))
  | 0, l, r, _ => .inl ⟨rfl, rfl⟩
  | f + 1, l, r, hr => by
    cases ht : tooF m (nextS m l) with
    | some i => rw [rnd_some ht]; right; exact ⟨by simp only; omega, by simp only; omega⟩
    | none =>
      by_cases he : nextS m l = l
      · rw [rnd_end ht he]; exact .inl ⟨rfl, rfl⟩
      · rw [rnd_next ht he]; exact rnd_sign f _ _ (by omega)
theorem rounds_sign {m : Mod} : ((roundsS m).2.2 = -1 ∧ (roundsS m).2.1 = 0) ∨ ((roundsS m).2.2 ≠ -1 ∧ (roundsS m).2.1 > 0) := rnd_sign _ _ _ (Int.le_refl _)
/-- The pin that gets too long is that of the next round. -/
theorem rnd_too {m : Mod} : ∀ (f : Nat) (l : List Int) (r : Int), (rndS m f l r).2.2 ≠ -1 → ∃ i : Nat, tooF m (nextS m (rndS m f l r).1) = some i ∧ (rndS m f l r).2.2 = (i : Int)
  | 0, l, r, h => absurd rfl h
  | f + 1, l, r, h => by
    cases ht : tooF m (nextS m l) with
    | some i => rw [rnd_some ht]; exact ⟨i, ht, rfl⟩
    | none =>
      by_cases he : nextS m l = l
      · rw [rnd_end ht he] at h; exact absurd rfl h
      · rw [rnd_next ht he] at h ⊢; exact rnd_too f _ _ h
theorem rounds_too {m : Mod} (h : (roundsS m).2.2 ≠ -1) : ∃ i : Nat, tooF m (nextS m (roundsS m).1) = some i ∧ (roundsS m).2.2 = (i : Int) := rnd_too _ _ _ h
/-- No length is above its pin's most before a round. -/
def LM (m : Mod) (l : List Int) : Prop := ∀ i, i < m.ps.length → l.getD i default ≤ (m.ps.getD i default).most
theorem lm_next {m : Mod} {l : List Int} (h : tooF m (nextS m l) = none) : LM m (nextS m l) := fun i hi => by
  have := too_none.1 h i hi; omega
theorem lm_own {m : Mod} (g : Good m) : LM m (own6 m) := fun i hi => by
  have h6 := g.n
  have h1 := g.p i hi
  rw [own6_at, if_pos (by omega), own_at hi]; omega
theorem rnd_lm {m : Mod} : ∀ (f : Nat) (l : List Int) (r : Int), LM m l → LM m (rndS m f l r).1
  | 0, l, r, h => h
  | f + 1, l, r, h => by
    cases ht : tooF m (nextS m l) with
    | some i => rw [rnd_some ht]; exact h
    | none =>
      by_cases he : nextS m l = l
      · rw [rnd_end ht he]; exact h
      · rw [rnd_next ht he]; exact rnd_lm f _ _ (lm_next ht)
theorem rounds_lm {m : Mod} (g : Good m) : LM m (roundsS m).1 := rnd_lm _ _ _ (lm_own g)
theorem lm_take {m : Mod} {l : List Int} (h6 : m.ps.length ≤ 6) (hl : l.length = 6) (h : LM m l) : LM m (l.take m.ps.length) := fun i hi => by
  rw [agree_take hl h6 i hi]; exact h i hi
theorem tk_len {m : Mod} {l : List Int} (h6 : m.ps.length ≤ 6) (hl : l.length = 6) : (l.take m.ps.length).length = m.ps.length := by rw [List.length_take]; omega
/-- A list of a model's lengths, with another one for one of them. -/
theorem agree_set {m : Mod} {l l' : List Int} {p : Nat} {v : Int} (h : Agree m l l') (hp : p < m.ps.length) (hl : l.length = m.ps.length) (hl' : m.ps.length ≤ l'.length) : Agree m (l.set p v) (l'.set p v) := fun i hi => by
  rcases Decidable.em (i = p) with rfl | hne
  · rw [set_at (by omega), set_at (by omega)]
  · rw [List.getD_eq_getElem?_getD, List.getElem?_set_ne (fun e => hne e.symm), List.getD_eq_getElem?_getD, List.getElem?_set_ne (fun e => hne e.symm), ← List.getD_eq_getElem?_getD, ← List.getD_eq_getElem?_getD]
    exact h i hi
theorem stk_take {m : Mod} (g : Good m) {p : Nat} (hp : p < m.ps.length) : Agree m (((roundsS m).1.take m.ps.length).set p (m.ps.getD p default).most) (stkL m p) := by
  have h6 := g.n
  have hl := @rounds_len m
  exact agree_set (fun i hi => agree_take hl h6 i hi) hp (tk_len h6 hl) (by omega)
theorem sum_lt {l : List Int} {r : Nat} (hb : LB l) (h6 : l.length = 6) (h : (r : Int) ≤ l.sum) : r ≤ 1800 := by
  have := (lb_sum hb h6).2; omega
end Go.Proofs.YthkgnhcknkjgdaaDoor

/-
  The reference's lists.
  No conditions but those in the theorems.
-/
namespace Go.Proofs.YthkgnhcknkjgdaaDoor
open Go
/-- The ascending lists of so many numbers from one on, below another one. -/
def lsF : Nat → Int → Int → List (List Int)
  | 0, _, _ => [[]]
  | m + 1, f, n => (List.range (n - f).toNat).flatMap fun (j : Nat) => (lsF m (f + (j : Int) + 1) n).map (List.cons (f + (j : Int)))
def partF (m : Nat) (f n : Int) (k : Nat) : List (List Int) := (List.range k).flatMap fun (j : Nat) => (lsF m (f + (j : Int) + 1) n).map (List.cons (f + (j : Int)))
section
variable {m k : Nat} {f n : Int}
theorem partF_succ : partF m f n (k + 1) = partF m f n k ++ (lsF m (f + (k : Int) + 1) n).map (List.cons (f + (k : Int))) := by
  unfold partF; rw [List.range_succ, List.flatMap_append]; simp
theorem partF_all : partF m f n (n - f).toNat = lsF (m + 1) f n := rfl
theorem lists_lsF : ∀ {m : Nat} {b : List Int} {n : Int}, listsS m b n = (lsF m (fromS b) n).map (b ++ ·)
  | 0, b, n => by simp [listsS, lsF]
  | m + 1, b, n => by
    unfold listsS lsF
    rw [List.map_flatMap]
    congr 1
    funext j
    rw [lists_lsF, fromS_snoc, List.map_map]
    congr 1
    funext z
    simp
theorem lists_nil {m : Nat} {n : Int} : listsS m [] n = lsF m 0 n := by
  rw [lists_lsF]
  have e : fromS [] = 0 := rfl
  rw [e]
  have h : (fun z : List Int => [] ++ z) = id := by funext z; rfl
  rw [h, List.map_id]
theorem lsF_ln : ∀ {m : Nat} {f n : Int} {z : List Int}, z ∈ lsF m f n → z.length = m
  | 0, f, n, z, h => by simp [lsF] at h; subst h; rfl
  | m + 1, f, n, z, h => by
    unfold lsF at h
    obtain ⟨j, _, hz⟩ := List.mem_flatMap.1 h
    obtain ⟨y, hy, rfl⟩ := List.mem_map.1 hz
    rw [List.length_cons, lsF_ln hy]
theorem from1 : fromS [f - 1] = f := by unfold fromS; simp
theorem lsF_len (hn : n ≤ 8) (hf : 0 ≤ f) (hm : m ≤ 8) : (lsF m f n).length ≤ 16777216 := by
  have h := lists_len8 (m := m) (b := [f - 1]) (n := n) hn (by rw [from1]; exact hf) hm
  rw [lists_lsF, from1, List.length_map] at h
  exact h
theorem partF_len (hn : n ≤ 8) (hf : 0 ≤ f) (hm : m ≤ 8) (hk : k ≤ 8) : (partF m f n k).length ≤ 134217728 := by
  have h := part_len (m := m) (b := [f - 1]) (n := n) (k := k) hn (by rw [from1]; exact hf) hm hk
  have e : ∀ k, (partS m [f - 1] n k).length = (partF m f n k).length := fun k => by
    induction k with
    | zero => rfl
    | succ k ih => rw [partS_succ, partF_succ, List.length_append, List.length_append, ih, lists_lsF, fromS_snoc, from1, List.length_map, List.length_map]
  rw [← e]; exact h
end
end Go.Proofs.YthkgnhcknkjgdaaDoor

/-
  Stands that cover, pins taken off, the best place: the reference's ways.
  No conditions but those in the theorems.
-/
namespace Go.Proofs.YthkgnhcknkjgdaaDoor
open Go
theorem seen_mem {m : Mod} {l : List Int} {s i : Nat} {eye : Int} (hi : i < m.ps.length) : decide ((i : Int) ∈ seenL m l s eye) = seesB m l (m.ss.getD s default).x (m.ss.getD s default).y eye i := by
  unfold seenL
  cases h : seesB m l (m.ss.getD s default).x (m.ss.getD s default).y eye i with
  | true => exact decide_eq_true (mem_sel.2 ⟨i, hi, h, rfl⟩)
  | false =>
    refine decide_eq_false fun h2 => ?_
    obtain ⟨j, _, hj, e⟩ := mem_sel.1 h2
    obtain rfl : i = j := by omega
    rw [h] at hj; cases hj
/-- Numbers below n. -/
def Below6 (n : Nat) (z : List Int) : Prop := ∀ j, j < z.length → 0 ≤ z.getD j default ∧ z.getD j default < n
theorem pts_below {n s : Nat} : Below6 n (ptsS n s) := fun j hj => by
  have h := K.gt_mem hj
  unfold ptsS at h
  obtain ⟨i, hi, _, e⟩ := mem_sel.1 h
  unfold ptsS at *
  rw [e]; omega
theorem lists_below {n k : Nat} {z : List Int} (hn : n ≤ 6) (hk : k ≤ n) (h : z ∈ listsS k [] n) : Below6 n z := by
  have hm : z ∈ lstA n (n + 1) := by unfold lstA; exact List.mem_flatMap.2 ⟨k, List.mem_range.2 (by omega), h⟩
  obtain ⟨s, _, rfl⟩ := (lst_spec hn).2.2 z hm
  exact pts_below
theorem lists_len6 {n k : Nat} {z : List Int} (h : z ∈ listsS k [] n) : z.length = k := by have := lists_ln h; simpa using this
/-- The reference finds what Fewest finds. -/
theorem few_ref {m : Mod} (hk : m.ss.length ≤ 6) : (lstA m.ss.length (m.ss.length + 1)).find? (covB m) = fewM m := few_find hk (fun _ _ => rfl)
/-- A model without the pins of a list. -/
def withP (m : Mod) (z : List Int) (k : Nat) : List PinT := ((List.range k).filter fun (i : Nat) => !decide ((i : Int) ∈ z)).map fun i => m.ps.getD i default
def withM (m : Mod) (z : List Int) : Mod := { m with ps := withP m z m.ps.length }
section
variable {m : Mod} {z : List Int} {k : Nat}
theorem with_yes (h : (k : Int) ∉ z) : withP m z (k + 1) = withP m z k ++ [m.ps.getD k default] := by
  unfold withP; rw [List.range_succ, List.filter_append, List.map_append]; simp [h]
theorem with_no (h : (k : Int) ∈ z) : withP m z (k + 1) = withP m z k := by
  unfold withP; rw [List.range_succ, List.filter_append, List.map_append]; simp [h]
theorem with_len : (withP m z k).length ≤ k := by
  unfold withP; rw [List.length_map]; exact Nat.le_trans (List.length_filter_le _ _) (by simp)
theorem with_sub : List.Sublist (withP m z m.ps.length) m.ps := by
  have e : (List.range m.ps.length).map (fun i => m.ps.getD i default) = m.ps := by
    apply List.ext_getElem?
    intro i
    rw [List.getElem?_map]
    rcases Nat.lt_or_ge i m.ps.length with h | h
    · rw [List.getElem?_range h]; simp [List.getD_eq_getElem?_getD, h]
    · rw [List.getElem?_eq_none (by simpa using h), List.getElem?_eq_none h]; rfl
  have h : List.Sublist (withP m z m.ps.length) ((List.range m.ps.length).map fun i => m.ps.getD i default) := by
    unfold withP; exact List.Sublist.map _ (List.filter_sublist)
  rwa [e] at h
theorem with_chk (hc : (chk m).2.2 = 0) : (chk (withM m z)).2.2 = 0 := chk_less hc with_sub
theorem with_pts {s : Nat} : withM m (ptsS m.ps.length s) = lessM m s := by
  unfold withM lessM
  congr 1
  unfold withP lessP
  congr 1
  apply List.filter_congr
  intro i hi
  have hi' := List.mem_range.1 hi
  congr 1
  unfold ptsS
  cases h : s.testBit i with
  | true => exact decide_eq_true (mem_sel.2 ⟨i, hi', h, rfl⟩)
  | false =>
    refine decide_eq_false fun h2 => ?_
    obtain ⟨j, _, hj, e⟩ := mem_sel.1 h2
    obtain rfl : i = j := by omega
    rw [h] at hj; cases hj
end
/-- Each pin is surely seen from each stand. -/
def showsB (m : Mod) (l : List Int) : Bool := (List.range m.ps.length).all (openB m l)
theorem shows_all {m : Mod} : showsB m (ownS m) = allB m := by
  unfold showsB allB
  rw [Bool.eq_iff_iff, List.all_eq_true, List.all_eq_true]
  constructor
  · intro h s hs
    rw [List.all_eq_true]
    intro i hi
    have := h i hi
    unfold openB at this
    exact List.all_eq_true.1 this s hs
  · intro h i hi
    unfold openB
    rw [List.all_eq_true]
    intro s hs
    exact List.all_eq_true.1 (h s hs) i hi
/-- The reference finds what Off finds. -/
theorem off_ref {m : Mod} (hn : m.ps.length ≤ 6) : (lstA m.ps.length (m.ps.length + 1)).find? (fun z => showsB (withM m z) (ownS (withM m z))) = offM m := few_find hn (fun s _ => by rw [shows_all, with_pts])
theorem find_none6 {n : Nat} {T : List Int → Bool} (h : ∀ z ∈ lstA n (n + 1), T z = false) : (lstA n (n + 1)).find? T = none := List.find?_eq_none.2 (fun z hz => by rw [h z hz]; decide)
/-! The best place, as the reference finds it -/
def BInv (m : Mod) (eye : Int) (b a : Nat) (c : Acc) : Prop :=
  (b = 0 ∧ a = 0 ∧ c = (-1, -1, fromL m (-1) (-1) eye, ((fromL m (-1) (-1) eye).length : Int))) ∨ ((0 < b ∨ 0 < a) ∧ c = inK m eye b (outK m eye b) a)
section
variable {m : Mod} {eye : Int} {b a : Nat} {c : Acc}
theorem binv_step (h : BInv m eye b a c) : BInv m eye b (a + 1) (bstep m eye ((a : Int) - 1) ((b : Int) - 1) c) := by
  rcases h with ⟨rfl, rfl, rfl⟩ | ⟨h, rfl⟩
  · refine .inr ⟨.inr (by omega), ?_⟩
    have hF : ¬ onF m.W m.D (((0 : Nat) : Int) - 1) (((0 : Nat) : Int) - 1) := by omega
    show _ = bstep m eye (((0 : Nat) : Int) - 1) (((0 : Nat) : Int) - 1) (0, 0, [], -1)
    rw [bstep_le hF (by show ¬ ((fromL m (-1) (-1) eye).length : Int) > ((fromL m (-1) (-1) eye).length : Int); omega), bstep_gt hF (by simp only; omega)]
    rfl
  · exact .inr ⟨.inr (by omega), rfl⟩
theorem binv_row (hw : 0 ≤ m.W) (h : BInv m eye b (m.W + 2).toNat c) : BInv m eye (b + 1) 0 c := by
  rcases h with ⟨_, h, _⟩ | ⟨_, rfl⟩
  · omega
  · exact .inr ⟨.inl (by omega), rfl⟩
theorem binv_end (hd : 0 ≤ m.D) (h : BInv m eye (m.D + 2).toNat 0 c) : c = bestA m eye := by
  rcases h with ⟨h, _⟩ | ⟨_, rfl⟩
  · omega
  · rfl
end
end Go.Proofs.YthkgnhcknkjgdaaDoor
