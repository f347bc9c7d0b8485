/-
  Plain lemmas and plain functions, several texts joined.
  Conditions stand in each theorem.
-/
import Derived.Test.YtafkbioeoklldaaS4
set_option linter.unusedSimpArgs false
set_option linter.unusedVariables false
/-
  Marks of a model that was cut; greater limits, fewer roads, more marks.
  No conditions: no program is in sight.
-/
namespace Go.Proofs.Ytafkbioeoklldaa
open Go
/-- A byte's cells. -/
def eB (x : Int) : List Value := [.int .u8 x]
/-- The mark agrees with these cuts, and is within limits. -/
def mkOK (cs : List Int) (y : Int × Int × Int) : Prop := (0 ≤ y.1 ∧ y.1 < cs.length) ∧ (0 ≤ y.2.1 ∧ y.2.2 ≤ 100000) ∧ y.2.1 ≤ cs.getD y.1.toNat default ∧ cs.getD y.1.toNat default ≤ y.2.2
section
variable {kind base most : Int} {hs : List Int} {rs : List (Int × Int)} {ms : List (Int × Int × Int)} {u v : Int}
theorem marks_ok (g : Good kind base most hs rs) (hm : ∀ y ∈ ms, mkOK (cuts kind base u v hs) y) (h8 : ms.length ≤ 8) : marksE kind base most hs rs ms = 0 := by
  unfold marksE
  have e : ¬ (chk kind base most hs rs).2.2 ≠ 0 := by rw [g.chk]; simp
  rw [if_neg e, if_neg (by omega)]
  refine fst_zero.2 (fun y hy => ?_)
  obtain ⟨h1, h2, h3, h4⟩ := hm y hy
  rw [cuts_len] at h1
  unfold markE
  rw [if_neg (by omega), if_neg (by omega), if_neg (by omega)]
theorem marks_miss (hm : ∀ y ∈ ms, mkOK (cuts kind base u v hs) y) : ms.any (missP (cuts kind base u v hs)) = false := by
  rw [List.any_eq_false]
  intro y hy
  obtain ⟨h1, h2, h3, h4⟩ := hm y hy
  unfold missP
  simp only [decide_eq_true_eq]
  omega
theorem marks_pt (hm : ∀ y ∈ ms, mkOK (cuts kind base u v hs) y) : ∀ y ∈ ms, 0 ≤ y.1 ∧ y.1 < hs.length := fun y hy => by
  have := (hm y hy).1
  rw [cuts_len] at this; omega
theorem scalesR_ln {kind base most : Int} {hs : List Int} {rs : List (Int × Int)} {ms : List (Int × Int × Int)} : (scalesR kind base most hs rs ms).length ≤ 1000 := by
  unfold scalesR; split
  · exact Nat.le_trans (List.length_filter_le _ _) sb_len
  · simp
theorem scalesR_ok (h : marksE kind base most hs rs ms = 0) : scalesR kind base most hs rs ms = SB.filter (okS kind base most hs ms) := by unfold scalesR; rw [if_pos h]
/-- Which scales are among those of Scales. -/
theorem has_sc (h : marksE kind base most hs rs ms = 0) {x : Int × Int} (hx : scE x.1 x.2 = 0) : decide (x ∈ scalesR kind base most hs rs ms) = (fitB most (cuts kind base x.1 x.2 hs) && !(ms.any (missP (cuts kind base x.1 x.2 hs)))) := by
  rw [scalesR_ok h, Bool.eq_iff_iff, decide_eq_true_eq, List.mem_filter]
  unfold okS fitP
  exact ⟨fun h => h.2, fun h => ⟨in_sb hx, h⟩⟩
theorem sc_at (h : marksE kind base most hs rs ms = 0) {j : Nat} (hj : j < (scalesR kind base most hs rs ms).length) :
    scE ((scalesR kind base most hs rs ms).getD j default).1 ((scalesR kind base most hs rs ms).getD j default).2 = 0 ∧ fitB most (cuts kind base ((scalesR kind base most hs rs ms).getD j default).1 ((scalesR kind base most hs rs ms).getD j default).2 hs) = true ∧
    ms.any (missP (cuts kind base ((scalesR kind base most hs rs ms).getD j default).1 ((scalesR kind base most hs rs ms).getD j default).2 hs)) = false := by
  have hm := K.gt_mem hj
  have hx := hm
  rw [scalesR_ok h, List.mem_filter] at hx
  rw [← scalesR_ok h] at hx
  have h2 := hx.2
  unfold okS fitP at h2
  simp only [Bool.and_eq_true, Bool.not_eq_true'] at h2
  exact ⟨sb_sc hx.1, h2.1, h2.2⟩
theorem sc_lt (h : marksE kind base most hs rs ms = 0) {j : Nat} (hj : j + 1 < (scalesR kind base most hs rs ms).length) : ltS ((scalesR kind base most hs rs ms).getD j default) ((scalesR kind base most hs rs ms).getD (j + 1) default) := by
  have hp : (scalesR kind base most hs rs ms).Pairwise ltS := by rw [scalesR_ok h]; exact List.Pairwise.sublist List.filter_sublist sb_pw
  have := List.pairwise_iff_getElem.1 hp j (j + 1) (by omega) hj (by omega)
  rw [List.getD_eq_getElem?_getD, List.getD_eq_getElem?_getD, List.getElem?_eq_getElem (by omega), List.getElem?_eq_getElem hj]
  exact this
theorem any_sub {E : Type} {p : E → Bool} {xs : List E} {n : Nat} (h : xs.any p = false) : (xs.take n).any p = false := by
  rw [List.any_eq_false] at *
  exact fun x hx => h x (List.mem_of_mem_take hx)
theorem sc_more {n : Nat} (h : marksE kind base most hs rs ms = 0) (h' : marksE kind base most hs rs (ms.take n) = 0) {x : Int × Int} (hx : x ∈ scalesR kind base most hs rs ms) : x ∈ scalesR kind base most hs rs (ms.take n) := by
  rw [scalesR_ok h, List.mem_filter] at hx
  rw [scalesR_ok h', List.mem_filter]
  refine ⟨hx.1, ?_⟩
  have h2 := hx.2
  unfold okS at *
  simp only [Bool.and_eq_true, Bool.not_eq_true'] at *
  exact ⟨h2.1, any_sub h2.2⟩
theorem fit_more {most' : Int} (h : most ≤ most') {x : Int × Int} (hf : fitP kind base most hs x = true) : fitP kind base most' hs x = true := by
  unfold fitP fitB at *
  rw [List.all_eq_true] at *
  intro y hy
  have := hf y hy
  simp only [decide_eq_true_eq] at *
  omega
theorem worst_few {n : Nat} {x : Int × Int} : worstS x.1 x.2 hs (cuts kind base x.1 x.2 hs) (rs.take n) ≤ worstS x.1 x.2 hs (cuts kind base x.1 x.2 hs) rs := by
  unfold worstS
  rw [foldmax_le]
  have h := (foldmax_le (xs := offs x.1 x.2 hs (cuts kind base x.1 x.2 hs) rs) (a := 0) (m := (offs x.1 x.2 hs (cuts kind base x.1 x.2 hs) rs).foldl max 0)).1 (Int.le_refl _)
  refine ⟨h.1, fun y hy => h.2 y ?_⟩
  unfold offs at *
  rw [List.map_take] at hy
  exact List.mem_of_mem_take hy
theorem Good.few (g : Good kind base most hs rs) (n : Nat) : Good kind base most hs (rs.take n) := ⟨g.k, g.b, g.m, g.n, by have := g.r; rw [List.length_take]; omega, g.h, fun r hr => g.rd r (List.mem_of_mem_take hr)⟩
theorem Good.more (g : Good kind base most hs rs) {most' : Int} (h : 0 ≤ most' ∧ most' ≤ 100000) : Good kind base most' hs rs := ⟨g.k, g.b, h, g.n, g.r, g.h, g.rd⟩
/-- With a greater Most, a greater limit or fewer roads Greatest is not less. -/
theorem grt_mono {most' limit limit' : Int} {rs' : List (Int × Int)} (g : Good kind base most hs rs) (g' : Good kind base most' hs rs') (h1 : most ≤ most') (hr : ∀ x : Int × Int, worstS x.1 x.2 hs (cuts kind base x.1 x.2 hs) rs' ≤ worstS x.1 x.2 hs (cuts kind base x.1 x.2 hs) rs)
    (h0 : 0 ≤ limit) (h2 : limit ≤ limit') (h3 : limit' ≤ 1000000) (hok : (grtR kind base most hs rs limit).2 = 0) :
    (grtR kind base most' hs rs' limit').2 = 0 ∧ scE (grtR kind base most hs rs limit).1.1 (grtR kind base most hs rs limit).1.2 = 0 ∧ scE (grtR kind base most' hs rs' limit').1.1 (grtR kind base most' hs rs' limit').1.2 = 0 ∧
    ¬ (grtR kind base most' hs rs' limit').1.1 * (grtR kind base most hs rs limit).1.2 < (grtR kind base most hs rs limit).1.1 * (grtR kind base most' hs rs' limit').1.2 := by
  rcases grt_good g h0 (by omega) with ⟨e, _⟩ | ⟨s, e, a1, a2, a3, _⟩
  · rw [e] at hok; exact absurd hok (by decide)
  · have hf := fit_more h1 a2
    have hw := hr s
    rcases grt_good g' (limit := limit') (by omega) h3 with ⟨_, b2⟩ | ⟨t, e2, b1, _, _, b4⟩
    · have := b2 s a1 hf; omega
    · rw [e, e2]
      refine ⟨rfl, a1, b1, fun hlt => ?_⟩
      have := b4 s a1 hlt hf
      omega
theorem lst_few {n : Nat} (g : Good kind base most hs rs) (hok : (lstR kind base most hs rs).2 = 0) :
    (lstR kind base most hs (rs.take n)).2 = 0 ∧ scE (lstR kind base most hs rs).1.1 (lstR kind base most hs rs).1.2 = 0 ∧ scE (lstR kind base most hs (rs.take n)).1.1 (lstR kind base most hs (rs.take n)).1.2 = 0 ∧
    ¬ (lstR kind base most hs rs).1.1 * (lstR kind base most hs (rs.take n)).1.2 < (lstR kind base most hs (rs.take n)).1.1 * (lstR kind base most hs rs).1.2 := by
  rcases lst_good g with ⟨e, _⟩ | ⟨s, e, a1, a2, a3, _⟩
  · rw [e] at hok; exact absurd hok (by decide)
  · have hfl : (flats hs (cuts kind base s.1 s.2 hs) (rs.take n)).length = 0 := by
      have hn : flats hs (cuts kind base s.1 s.2 hs) rs = [] := List.eq_nil_of_length_eq_zero a3
      have : flats hs (cuts kind base s.1 s.2 hs) (rs.take n) = [] := by
        unfold flats selN at *
        rw [List.map_eq_nil_iff, List.filter_eq_nil_iff] at *
        intro i hi
        have hi2 := List.mem_range.1 hi
        rw [List.length_take] at hi2
        have := hn i (List.mem_range.2 (by omega))
        have e3 : (rs.take n).getD i default = rs.getD i default := by
          rw [List.getD_eq_getElem?_getD, List.getD_eq_getElem?_getD, List.getElem?_take, if_pos (by omega)]
        rw [e3]; exact this
      rw [this]; rfl
    rcases lst_good (g.few n) with ⟨_, b2⟩ | ⟨t, e2, b1, _, _, b4⟩
    · have := b2 s a1 a2; omega
    · rw [e, e2]
      refine ⟨rfl, a1, b1, fun hlt => ?_⟩
      have := b4 s a1 hlt a2
      omega
end
theorem _root_.Go.K.Rd.take {E : Type} {w : World} {A : Option Addr} {size : Nat} {e : E → List Value} {xs : List E} (h : K.Rd w A size e xs) (n : Nat) : K.Rd w A size e (xs.take n) := fun k x hx => h k x (by
  rw [List.getElem?_take] at hx
  split at hx
  · exact hx
  · cases hx)
end Go.Proofs.Ytafkbioeoklldaa
