/-
  Plain lemmas and plain functions, several texts joined.
  Conditions stand in each theorem.
-/
import Derived.Test.YtafkbioeoklldaaS7
import Derived.Test.YtafkbioeoklldaaS6
set_option linter.unusedSimpArgs false
set_option linter.unusedVariables false
/-
  What the points of Tell come to.
  No conditions: no program is in sight.
-/
namespace Go.Proofs.Ytafkbioeoklldaa
open Go
section
variable {kind base most : Int} {hs : List Int} {rs : List (Int × Int)} {l : List (Int × Int)}
/-- The points of Tell: they tell, and no fewer ones do. -/
theorem told_spec (hn : hs.length ≤ 8) (hw : twiceB kind base hs l = false) : ∃ t, (tellF kind base hs l hs.length (2 ^ hs.length)).1 = ptsS hs.length t ∧ toldB kind base hs l (ptsS hs.length t) = true ∧
    ∀ s, s < 2 ^ hs.length → toldB kind base hs l (ptsS hs.length s) = true → (ptsS hs.length t).length ≤ (ptsS hs.length s).length := by
  have hfull : toldB kind base hs l (ptsS hs.length (2 ^ hs.length - 1)) = true := by rw [told_full, hw]; rfl
  rcases tell_inv (T := toldB kind base hs l) hn (fun s _ => ap_told hn) (2 ^ hs.length) (Nat.le_refl _) with ⟨h1, _⟩ | ⟨t, ht, hT, h2, h3⟩
  · have := h1 (2 ^ hs.length - 1) (by have := Nat.two_pow_pos hs.length; omega)
    rw [hfull] at this; cases this
  · refine ⟨t, by rw [h2], hT, fun s hs' hTs => ?_⟩
    have := h3 s hs' hTs
    unfold ltL at this
    omega
theorem pts_pw {n s : Nat} : (ptsS n s).Pairwise (· < ·) := by
  unfold ptsS selN
  rw [List.pairwise_map]
  have : ((List.range n).filter fun i => s.testBit i).Pairwise (· < ·) := List.Pairwise.sublist List.filter_sublist List.pairwise_lt_range
  exact this.imp (fun h => by omega)
theorem pts_at {n s j : Nat} (hj : j < (ptsS n s).length) : 0 ≤ (ptsS n s).getD j default ∧ (ptsS n s).getD j default < n := by
  obtain ⟨i, hi, _, he⟩ := mem_sel.1 (K.gt_mem hj)
  rw [show (ptsS n s).getD j default = _ from he]; omega
theorem pts_lt {n s j : Nat} (hj : j + 1 < (ptsS n s).length) : (ptsS n s).getD j default < (ptsS n s).getD (j + 1) default := by
  have := List.pairwise_iff_getElem.1 (@pts_pw n s) j (j + 1) (by omega) hj (by omega)
  rw [List.getD_eq_getElem?_getD, List.getD_eq_getElem?_getD, List.getElem?_eq_getElem (by omega), List.getElem?_eq_getElem hj]
  exact this
/-- A bit of a byte. -/
def bitX (x : Int) (i : Nat) : Bool := decide (x.fdiv (2 ^ min (Int.toNat (i : Int)) IntKind.u8.bits) % 2 = 1)
theorem bitX_all : (List.range 256).all (fun x => (List.range 8).all fun i => decide (bitX ((x : Nat) : Int) i = x.testBit i)) = true := by decide +kernel
theorem other_pts {x : Int} {n : Nat} (hx : 0 ≤ x ∧ x ≤ 255) (hn : n ≤ 8) : ∃ s, s < 2 ^ n ∧ selN (bitX x) n = ptsS n s := by
  refine ⟨x.toNat % 2 ^ n, Nat.mod_lt _ (Nat.two_pow_pos n), ?_⟩
  unfold ptsS selN
  congr 1
  apply List.filter_congr
  intro i hi
  have hi2 := List.mem_range.1 hi
  have h := List.all_eq_true.1 (List.all_eq_true.1 bitX_all x.toNat (List.mem_range.2 (by omega))) i (List.mem_range.2 (by omega))
  rw [Nat.testBit_mod_two_pow]
  simp only [decide_eq_true_eq] at h
  rw [show ((x.toNat : Nat) : Int) = x by omega] at h
  rw [h]; simp [hi2]
/-- A mark with just this cut. -/
@[reducible] def mkAt (cs : List Int) (p : Int) : Int × Int × Int := (p, cs.getD p.toNat default, cs.getD p.toNat default)
theorem mkAt_ok {cs : List Int} {ps : List Int} (h : ∀ p ∈ ps, 0 ≤ p ∧ p < cs.length) (h0 : ∀ p ∈ ps, 0 ≤ cs.getD p.toNat default) (h1 : ∀ p ∈ ps, cs.getD p.toNat default ≤ 100000) : ∀ y ∈ ps.map (mkAt cs), mkOK cs y := fun y hy => by
  obtain ⟨p, hp, rfl⟩ := List.mem_map.1 hy
  exact ⟨h p hp, ⟨h0 p hp, h1 p hp⟩, Int.le_refl _, Int.le_refl _⟩
/-- Another scale of the list does not agree with the marks. -/
theorem told_out {ps : List Int} (ht : toldB kind base hs l ps = true) {i k : Nat} (hi : i < l.length) (hk : k < l.length) (hne : l.getD i default ≠ l.getD k default)
    (h0 : marksE kind base most hs rs (ps.map (mkAt (cuts kind base (l.getD k default).1 (l.getD k default).2 hs))) = 0) :
    l.getD i default ∉ scalesR kind base most hs rs (ps.map (mkAt (cuts kind base (l.getD k default).1 (l.getD k default).2 hs))) := fun hm => by
  rw [scalesR_ok h0, List.mem_filter] at hm
  have h2 := hm.2
  unfold okS at h2
  simp only [Bool.and_eq_true, Bool.not_eq_true'] at h2
  have h3 := List.any_eq_false.1 h2.2
  have pr : ∀ a b, a < l.length → b < a → ∃ p ∈ ps, p ∈ diffs (cuts kind base (l.getD a default).1 (l.getD a default).2 hs) (cuts kind base (l.getD b default).1 (l.getD b default).2 hs) := fun a b ha hb => by
    unfold toldB at ht
    have h4 := List.all_eq_true.1 (List.all_eq_true.1 ht a (List.mem_range.2 ha)) b (List.mem_range.2 hb)
    unfold pairB at h4
    obtain ⟨p, hp, hd⟩ := List.any_eq_true.1 h4
    exact ⟨p, hp, of_decide_eq_true hd⟩
  have key : ∃ p ∈ ps, (cuts kind base (l.getD i default).1 (l.getD i default).2 hs).getD p.toNat default ≠ (cuts kind base (l.getD k default).1 (l.getD k default).2 hs).getD p.toNat default := by
    rcases Nat.lt_trichotomy i k with h | h | h
    · obtain ⟨p, hp, hd⟩ := pr k i hk h
      obtain ⟨j, _, hn, rfl⟩ := mem_diffs.1 hd
      exact ⟨_, hp, fun e => hn (by simpa using e.symm)⟩
    · exact absurd (by rw [h]) hne
    · obtain ⟨p, hp, hd⟩ := pr i k hi h
      obtain ⟨j, _, hn, rfl⟩ := mem_diffs.1 hd
      exact ⟨_, hp, fun e => hn (by simpa using e)⟩
  obtain ⟨p, hp, hn⟩ := key
  have h5 := h3 (mkAt (cuts kind base (l.getD k default).1 (l.getD k default).2 hs) p) (List.mem_map_of_mem hp)
  unfold missP at h5
  simp only [decide_eq_true_eq, Decidable.not_not] at h5
  exact hn (by omega)
end
end Go.Proofs.Ytafkbioeoklldaa
