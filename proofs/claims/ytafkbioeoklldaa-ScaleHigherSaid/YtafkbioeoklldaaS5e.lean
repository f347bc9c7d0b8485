/-
  The reference's functions of scales, as plain functions.
  No conditions: no program is in sight.
-/
import Derived.Test.YtafkbioeoklldaaS5c
set_option linter.unusedSimpArgs false
set_option linter.unusedVariables false
namespace Go.Proofs.Ytafkbioeoklldaa
open Go
/-- The error of spans within limits. -/
def spreadE (low high : Int) (xs : List (Int × Int)) : Int :=
  if xs.any (fun s => decide (¬ ((low ≤ s.1 ∧ s.1 ≤ high) ∧ (low ≤ s.2 ∧ s.2 ≤ high)))) then 7 else if xs.any (fun s => decide (s.1 > s.2)) then 2 else 0
theorem any_take {E : Type} [Inhabited E] {p : E → Bool} {xs : List E} {k : Nat} (h : k < xs.length) : (xs.take (k + 1)).any p = ((xs.take k).any p || p (xs.getD k default)) := by
  rw [List.take_add_one, List.getElem?_eq_getElem h, List.any_append]
  simp [List.getD_eq_getElem?_getD, h]
theorem any_f {E : Type} [Inhabited E] {p : E → Bool} {xs : List E} (h : ∀ j, j < xs.length → p (xs.getD j default) = false) : xs.any p = false := by
  rw [List.any_eq_false]
  intro x hx
  obtain ⟨j, hj, rfl⟩ := List.getElem_of_mem hx
  have := h j hj
  rw [List.getD_eq_getElem?_getD, List.getElem?_eq_getElem hj] at this
  simpa using this
theorem any_t {E : Type} [Inhabited E] {p : E → Bool} {xs : List E} {j : Nat} (hj : j < xs.length) (h : p (xs.getD j default) = true) : xs.any p = true := List.any_eq_true.2 ⟨_, K.gt_mem hj, h⟩
theorem fitB_t {most : Int} {xs : List Int} (h : ∀ j, j < xs.length → xs.getD j default ≤ most) : fitB most xs = true := by
  unfold fitB
  rw [List.all_eq_true]
  intro x hx
  obtain ⟨j, hj, rfl⟩ := List.getElem_of_mem hx
  have := h j hj
  rw [List.getD_eq_getElem?_getD, List.getElem?_eq_getElem hj] at this
  simpa using this
theorem fitB_f {most : Int} {xs : List Int} {j : Nat} (hj : j < xs.length) (h : xs.getD j default > most) : fitB most xs = false := by
  cases hb : fitB most xs with
  | false => rfl
  | true =>
    unfold fitB at hb
    have := List.all_eq_true.1 hb _ (K.gt_mem hj)
    simp only [decide_eq_true_eq] at this
    omega
/-- By how much the road is false that is falsest. -/
def worstS (u v : Int) (hs cs : List Int) (rs : List (Int × Int)) : Int := (offs u v hs cs rs).foldl max 0
theorem fold_take {E : Type} [Inhabited E] {f : E → Int} {xs : List E} {k : Nat} (h : k < xs.length) : ((xs.take (k + 1)).map f).foldl max 0 = max (((xs.take k).map f).foldl max 0) (f (xs.getD k default)) := by
  rw [take_succ_map f h, List.foldl_append]; rfl
/-- The row of scales with so many parts up, so far. -/
def evR (u : Nat) (j : Nat) : List (Int × Int) := ((List.range j).filter fun (d : Nat) => !cm ((u : Int) + 1) ((d : Int) + 1)).map fun (d : Nat) => ((u : Int) + 1, (d : Int) + 1)
def evU (k : Nat) : List (Int × Int) := (List.range k).flatMap fun u => evR u 30
def EV : List (Int × Int) := evU 30
theorem evR_t {u j : Nat} (h : cm ((u : Int) + 1) ((j : Int) + 1) = false) : evR u (j + 1) = evR u j ++ [((u : Int) + 1, (j : Int) + 1)] := by
  unfold evR; rw [List.range_succ, List.filter_append, List.map_append]; simp [h]
theorem evR_f {u j : Nat} (h : cm ((u : Int) + 1) ((j : Int) + 1) = true) : evR u (j + 1) = evR u j := by
  unfold evR; rw [List.range_succ, List.filter_append, List.map_append]; simp [h]
theorem evR_len {u j : Nat} : (evR u j).length ≤ j := by
  unfold evR; rw [List.length_map]
  exact Nat.le_trans (List.length_filter_le _ _) (by simp)
theorem evU_succ {k : Nat} : evU (k + 1) = evU k ++ evR k 30 := by unfold evU; rw [List.range_succ, List.flatMap_append]; simp
theorem evU_len {k : Nat} : (evU k).length ≤ 30 * k := by
  induction k with
  | zero => simp [evU]
  | succ k ih => rw [evU_succ, List.length_append]; have := @evR_len k 30; omega
section
variable {kind base most : Int} {hs : List Int} {rs : List (Int × Int)} {ms : List (Int × Int × Int)} {j : Nat}
theorem mk_err (h : (chk kind base most hs rs).2.2 ≠ 0) : marksE kind base most hs rs ms = (chk kind base most hs rs).2.2 := by unfold marksE; rw [if_pos h]
theorem mk_long (h : (chk kind base most hs rs).2.2 = 0) (h8 : ms.length > 8) : marksE kind base most hs rs ms = 3 := by unfold marksE; rw [if_neg (fun h' => h' h), if_pos h8]
theorem mk_fst (h : (chk kind base most hs rs).2.2 = 0) (h8 : ms.length ≤ 8) : marksE kind base most hs rs ms = (K.fst (markE hs.length) ms).2 := by unfold marksE; rw [if_neg (fun h' => h' h), if_neg (by omega)]
theorem mk_at (h : (chk kind base most hs rs).2.2 = 0) (h8 : ms.length ≤ 8) (hj : j < ms.length) (hall : ∀ i, i < j → markE hs.length (ms.getD i default) = 0) (hn : markE hs.length (ms.getD j default) ≠ 0) : marksE kind base most hs rs ms = markE hs.length (ms.getD j default) := by
  rw [mk_fst h h8, K.fst_found hj hall hn]
theorem sp_mark {n : Int} {x : Int × Int × Int} (h : 0 ≤ x.1 ∧ x.1 ≤ n - 1) : spreadE 0 100000 [(x.2.1, x.2.2)] = markE n x := by
  unfold spreadE markE
  rw [if_neg (by omega : ¬ ¬ (0 ≤ x.1 ∧ x.1 ≤ n - 1))]
  simp only [List.any_cons, List.any_nil, Bool.or_false, decide_eq_true_eq]
theorem marks_next (h : (chk kind base most hs rs).2.2 = 0) (h8 : ms.length ≤ 8) (hj : j < ms.length) (hall : ∀ i, i < j → markE hs.length (ms.getD i default) = 0) (hp : 0 ≤ (ms.getD j default).1 ∧ (ms.getD j default).1 ≤ (hs.length : Int) - 1) :
    (spreadE 0 100000 [((ms.getD j default).2.1, (ms.getD j default).2.2)] ≠ 0 ∧ spreadE 0 100000 [((ms.getD j default).2.1, (ms.getD j default).2.2)] = marksE kind base most hs rs ms) ∨
    (spreadE 0 100000 [((ms.getD j default).2.1, (ms.getD j default).2.2)] = 0 ∧ (chk kind base most hs rs).2.2 = 0 ∧ ms.length ≤ 8 ∧ ∀ i, i < j + 1 → markE hs.length (ms.getD i default) = 0) := by
  rw [sp_mark hp]
  by_cases hz : markE hs.length (ms.getD j default) = 0
  · exact .inr ⟨hz, h, h8, K.lt_succ_case hall hz⟩
  · exact .inl ⟨hz, (mk_at h h8 hj hall hz).symm⟩
theorem marks_done {e : Int} (h : (e ≠ 0 ∧ e = marksE kind base most hs rs ms) ∨ (e = 0 ∧ (chk kind base most hs rs).2.2 = 0 ∧ ms.length ≤ 8 ∧ ∀ i, i < j → markE hs.length (ms.getD i default) = 0)) (hj : ms.length ≤ j ∨ e ≠ 0) : e = marksE kind base most hs rs ms := by
  rcases h with h | ⟨h1, h2, h3, h4⟩
  · exact h.2
  · rcases hj with hj | hj
    · rw [h1, mk_fst h2 h3, K.fst_none (fun i hi => h4 i (by omega))]
    · exact absurd h1 hj
end
theorem ev_parts_all : EV.all (fun s => decide (1 ≤ s.1 ∧ s.1 ≤ 30 ∧ 1 ≤ s.2 ∧ s.2 ≤ 30)) = true := by decide +kernel
theorem ev_parts {k : Nat} (h : k < EV.length) : Parts (EV.getD k default).1 (EV.getD k default).2 := by
  have := List.all_eq_true.1 ev_parts_all _ (K.gt_mem h)
  simpa using this
theorem ev_len : EV.length ≤ 900 := @evU_len 30
/-- One scale is less than another one. -/
@[reducible] def lessP (a b : Int × Int) : Bool := decide (a.1 * b.2 < b.1 * a.2)
/-- The index of the best so far. -/
def bestI (better : Int × Int → Int × Int → Bool) (ok : Int × Int → Bool) : Nat → Int
  | 0 => -1
  | i + 1 => if (bestI better ok i < 0 ∨ better (EV.getD (bestI better ok i).toNat default) (EV.getD i default) = true) ∧ ok (EV.getD i default) = true then i else bestI better ok i
theorem bestI_0 {better : Int × Int → Int × Int → Bool} {ok : Int × Int → Bool} : bestI better ok 0 = -1 := rfl
theorem bestI_bd {better : Int × Int → Int × Int → Bool} {ok : Int × Int → Bool} : ∀ i : Nat, -1 ≤ bestI better ok i ∧ bestI better ok i < i
  | 0 => by simp [bestI]
  | i + 1 => by
    have := @bestI_bd better ok i
    unfold bestI
    split <;> omega
section
variable {better : Int × Int → Int × Int → Bool} {ok : Int × Int → Bool} {i : Nat} {b : Int}
theorem bestI_t (hb : b = bestI better ok i) (hc : b < 0 ∨ better (EV.getD b.toNat default) (EV.getD i default) = true) (hok : ok (EV.getD i default) = true) : (i : Int) = bestI better ok (i + 1) := by
  subst hb; rw [bestI, if_pos ⟨hc, hok⟩]
theorem bestI_f1 (hb : b = bestI better ok i) (h : ¬ b < 0) (h2 : better (EV.getD b.toNat default) (EV.getD i default) = false) : b = bestI better ok (i + 1) := by
  subst hb; rw [bestI, if_neg (fun hh => by rcases hh.1 with h3 | h3
                                            · exact h h3
                                            · rw [h2] at h3; cases h3)]
theorem bestI_f2 (hb : b = bestI better ok i) (h2 : ok (EV.getD i default) = false) : b = bestI better ok (i + 1) := by
  subst hb; rw [bestI, if_neg (fun hh => by rw [h2] at hh; exact absurd hh.2 (by decide))]
end
def okR (kind base most : Int) (hs : List Int) (rs : List (Int × Int)) (limit : Int) (s : Int × Int) : Bool := fitB most (cuts kind base s.1 s.2 hs) && decide (worstS s.1 s.2 hs (cuts kind base s.1 s.2 hs) rs ≤ limit)
def okQ (kind base most : Int) (hs : List Int) (rs : List (Int × Int)) (s : Int × Int) : Bool := fitB most (cuts kind base s.1 s.2 hs) && decide (((flats hs (cuts kind base s.1 s.2 hs) rs).length : Int) = 0)
theorem and_t {a : Bool} {p : Prop} [Decidable p] (h1 : a = true) (h2 : p) : (a && decide p) = true := by rw [h1, decide_eq_true h2]; rfl
theorem and_f1 {a : Bool} {p : Prop} [Decidable p] (h1 : a = false) : (a && decide p) = false := by rw [h1]; rfl
theorem and_f2 {a : Bool} {p : Prop} [Decidable p] (h2 : ¬ p) : (a && decide p) = false := by rw [decide_eq_false h2, Bool.and_false]
theorem fitB_take {most : Int} {xs : List Int} {k : Nat} (h : k < xs.length) : fitB most (xs.take (k + 1)) = (fitB most (xs.take k) && decide (xs.getD k default ≤ most)) := by
  have := take_succ_map id h
  simp only [List.map_id_fun, id_eq] at this
  rw [this, fitB_snoc]
theorem foldI_take {xs : List Int} {k : Nat} (h : k < xs.length) : (xs.take (k + 1)).foldl max 0 = max ((xs.take k).foldl max 0) (xs.getD k default) := by
  have := take_succ_map id h
  simp only [List.map_id_fun, id_eq] at this
  rw [this, List.foldl_append]; rfl
theorem cutsR_len {kind base most u v : Int} {hs : List Int} {rs : List (Int × Int)} : (cutsR kind base most hs rs u v).length ≤ hs.length := by
  unfold cutsR; split
  · rw [cuts_len]; exact Nat.le_refl _
  · simp
theorem offsR_len {kind base most u v : Int} {hs : List Int} {rs : List (Int × Int)} : (offsR kind base most hs rs u v).length ≤ rs.length := by
  unfold offsR; split
  · simp [offs]
  · simp
theorem mem_of_none {E : Type} [Inhabited E] {xs : List E} {n : E} (h : ∀ j, j < xs.length → xs.getD j default ≠ n) : n ∉ xs := fun hm => by
  obtain ⟨j, hj, rfl⟩ := List.getElem_of_mem hm
  exact h j hj (by rw [List.getD_eq_getElem?_getD, List.getElem?_eq_getElem hj]; rfl)
end Go.Proofs.Ytafkbioeoklldaa
