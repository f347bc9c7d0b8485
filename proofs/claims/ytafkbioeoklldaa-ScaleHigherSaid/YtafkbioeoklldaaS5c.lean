/-
  The scales, in order: what the program's iterator hands out.
  No conditions: no program is in sight.
-/
import Derived.Test.YtafkbioeoklldaaS5b
set_option linter.unusedSimpArgs false
set_option linter.unusedVariables false
namespace Go.Proofs.Ytafkbioeoklldaa
open Go
/-- The scales between a and b. -/
def sb : Nat → Int × Int → Int × Int → List (Int × Int)
  | 0, _, _ => []
  | n + 1, a, b => if a.1 + b.1 > 30 ∨ a.2 + b.2 > 30 then [] else sb n a (a.1 + b.1, a.2 + b.2) ++ (a.1 + b.1, a.2 + b.2) :: sb n (a.1 + b.1, a.2 + b.2) b
def SB : List (Int × Int) := sb 60 (0, 1) (1, 0)
section
variable (kind base most : Int) (hs : List Int) (rs : List (Int × Int)) (limit : Int)
/-- The scale fits on the board. -/
def fitP (s : Int × Int) : Bool := fitB most (cuts kind base s.1 s.2 hs)
/-- By how much road r is false. -/
@[reducible] def offP (s r : Int × Int) : Int := offS s.1 s.2 (riseS hs r) (riseS (cuts kind base s.1 s.2 hs) r)
/-- No road is falser than limit. -/
def roadP (s : Int × Int) : Bool := rs.all fun r => decide (offP kind base hs s r ≤ limit)
def okG (s : Int × Int) : Bool := fitP kind base most hs s && roadP kind base hs rs limit s
/-- No road is flat, and it fits. -/
def okL (s : Int × Int) : Bool := fitP kind base most hs s && decide ((flats hs (cuts kind base s.1 s.2 hs) rs).length = 0)
end
def lastG (p : Int × Int → Bool) (xs : List (Int × Int)) : Int × Int := ((xs.filter p).getLast?).getD (0, 0)
def frstG (p : Int × Int → Bool) (xs : List (Int × Int)) : Int × Int := ((xs.filter p).head?).getD (0, 0)
theorem lastG_t {p : Int × Int → Bool} {xs : List (Int × Int)} {x : Int × Int} (h : p x = true) : lastG p (xs ++ [x]) = x := by
  unfold lastG; rw [List.filter_append]; simp [h]
theorem lastG_f {p : Int × Int → Bool} {xs : List (Int × Int)} {x : Int × Int} (h : p x = false) : lastG p (xs ++ [x]) = lastG p xs := by
  unfold lastG; rw [List.filter_append]; simp [h]
theorem take_snoc {E : Type} {xs : List E} {k : Nat} {x : E} (h : xs[k]? = some x) : xs.take (k + 1) = xs.take k ++ [x] := by
  rw [List.take_add_one, h]; rfl
theorem sb_parts_all : SB.all (fun s => decide (1 ≤ s.1 ∧ s.1 ≤ 30 ∧ 1 ≤ s.2 ∧ s.2 ≤ 30)) = true := by decide +kernel
theorem sb_parts {k : Nat} {x : Int × Int} (h : SB[k]? = some x) : Parts x.1 x.2 := by
  have := List.all_eq_true.1 sb_parts_all x (List.mem_of_getElem? h)
  simpa using this
theorem roadP_all {kind base : Int} {hs : List Int} {rs : List (Int × Int)} {limit : Int} {s : Int × Int} (h : ∀ i, i < rs.length → offP kind base hs s (rs.getD i default) ≤ limit) : roadP kind base hs rs limit s = true := by
  unfold roadP
  rw [List.all_eq_true]
  intro r hr
  obtain ⟨i, hi, rfl⟩ := List.getElem_of_mem hr
  have := h i hi
  rw [List.getD_eq_getElem?_getD, List.getElem?_eq_getElem hi] at this
  simpa using this
theorem roadP_not {kind base : Int} {hs : List Int} {rs : List (Int × Int)} {limit : Int} {s : Int × Int} {i : Nat} (hi : i < rs.length) (h : offP kind base hs s (rs.getD i default) > limit) : roadP kind base hs rs limit s = false := by
  cases hb : roadP kind base hs rs limit s with
  | false => rfl
  | true =>
    unfold roadP at hb
    have := List.all_eq_true.1 hb _ (K.gt_mem hi)
    simp only [decide_eq_true_eq] at this
    omega
theorem okG_t {kind base most : Int} {hs : List Int} {rs : List (Int × Int)} {limit : Int} {s : Int × Int} (h1 : fitP kind base most hs s = true) (h2 : roadP kind base hs rs limit s = true) : okG kind base most hs rs limit s = true := by unfold okG; rw [h1, h2]; rfl
theorem okG_f {kind base most : Int} {hs : List Int} {rs : List (Int × Int)} {limit : Int} {s : Int × Int} (h2 : roadP kind base hs rs limit s = false) : okG kind base most hs rs limit s = false := by unfold okG; rw [h2, Bool.and_false]
theorem frst_none {p : Int × Int → Bool} {xs : List (Int × Int)} (h : ∀ s ∈ xs, p s = false) : frstG p xs = (0, 0) := by
  unfold frstG
  have : xs.filter p = [] := List.filter_eq_nil_iff.2 (fun s hs => by simp [h s hs])
  rw [this]; rfl
theorem frst_some {p : Int × Int → Bool} {xs : List (Int × Int)} {k : Nat} {x : Int × Int} (hx : xs[k]? = some x) (h : ∀ s ∈ xs.take k, p s = false) (hp : p x = true) : frstG p xs = x := by
  unfold frstG
  have e : xs = xs.take k ++ x :: xs.drop (k + 1) := by
    have hk := (List.getElem?_eq_some_iff.1 hx)
    obtain ⟨hk, rfl⟩ := hk
    rw [← List.drop_eq_getElem_cons hk, List.take_append_drop]
  have h1 : (xs.take k).filter p = [] := List.filter_eq_nil_iff.2 (fun s hs => by simp [h s hs])
  rw [e, List.filter_append, h1]
  simp [hp]
theorem part_ne {x : Int × Int} (h : Parts x.1 x.2) : x ≠ (0, 0) := fun e => by subst e; have := h.1; simp at this
theorem all_snoc {p : Int × Int → Bool} {k : Nat} {x : Int × Int} (hx : SB[k]? = some x) (h : ∀ s ∈ SB.take k, p s = false) (hp : p x = false) : ∀ s ∈ SB.take (k + 1), p s = false := by
  intro s hs
  rw [take_snoc hx] at hs
  rcases List.mem_append.1 hs with hs | hs
  · exact h s hs
  · simp at hs; subst hs; exact hp
section
variable {kind base most : Int} {hs : List Int} {rs : List (Int × Int)} {s : Int × Int}
theorem okL_ff (h : fitP kind base most hs s = false) : okL kind base most hs rs s = false := by unfold okL; rw [h]; rfl
theorem okL_fn (h : (flats hs (cuts kind base s.1 s.2 hs) rs).length ≠ 0) : okL kind base most hs rs s = false := by unfold okL; rw [decide_eq_false h, Bool.and_false]
theorem okL_t (h1 : fitP kind base most hs s = true) (h : (flats hs (cuts kind base s.1 s.2 hs) rs).length = 0) : okL kind base most hs rs s = true := by unfold okL; rw [h1, decide_eq_true h]; rfl
end
/-- The error of a mark of a case of n points. -/
def markE (n : Int) (x : Int × Int × Int) : Int := if ¬ (0 ≤ x.1 ∧ x.1 ≤ n - 1) then 4 else if ¬ ((0 ≤ x.2.1 ∧ x.2.1 ≤ 100000) ∧ (0 ≤ x.2.2 ∧ x.2.2 ≤ 100000)) then 7 else if x.2.1 > x.2.2 then 2 else 0
theorem markE_0 {n : Int} {x : Int × Int × Int} (h : markE n x = 0) : (0 ≤ x.1 ∧ x.1 ≤ n - 1) ∧ ((0 ≤ x.2.1 ∧ x.2.1 ≤ 100000) ∧ (0 ≤ x.2.2 ∧ x.2.2 ≤ 100000)) ∧ x.2.1 ≤ x.2.2 := by
  unfold markE at h
  split at h
  · omega
  split at h
  · omega
  split at h
  · omega
  · omega
/-- The cut misses the mark. -/
@[reducible] def missP (cs : List Int) (x : Int × Int × Int) : Bool := decide (¬ (x.2.1 ≤ cs.getD x.1.toNat default ∧ cs.getD x.1.toNat default ≤ x.2.2))
def okS (kind base most : Int) (hs : List Int) (ms : List (Int × Int × Int)) (s : Int × Int) : Bool := fitP kind base most hs s && !(ms.any (missP (cuts kind base s.1 s.2 hs)))
theorem sb_len : SB.length ≤ 1000 := by decide +kernel
theorem filt_t {p : Int × Int → Bool} {k : Nat} {x : Int × Int} (hx : SB[k]? = some x) (h : p x = true) : (SB.take (k + 1)).filter p = (SB.take k).filter p ++ [x] := by rw [take_snoc hx, List.filter_append]; simp [h]
theorem filt_f {p : Int × Int → Bool} {k : Nat} {x : Int × Int} (hx : SB[k]? = some x) (h : p x = false) : (SB.take (k + 1)).filter p = (SB.take k).filter p := by rw [take_snoc hx, List.filter_append]; simp [h]
theorem filt_len {p : Int × Int → Bool} {k : Nat} : ((SB.take k).filter p).length ≤ 1000 := Nat.le_trans (List.length_filter_le _ _) (Nat.le_trans (by rw [List.length_take]; omega) sb_len)
/-- The error of marks. -/
def marksE (kind base most : Int) (hs : List Int) (rs : List (Int × Int)) (ms : List (Int × Int × Int)) : Int :=
  if (chk kind base most hs rs).2.2 ≠ 0 then (chk kind base most hs rs).2.2 else if ms.length > 8 then 3 else (K.fst (markE hs.length) ms).2
def scalesR (kind base most : Int) (hs : List Int) (rs : List (Int × Int)) (ms : List (Int × Int × Int)) : List (Int × Int) := if marksE kind base most hs rs ms = 0 then SB.filter (okS kind base most hs ms) else []
theorem ptr8 {w0 : World} {b : Nat} {cs : List Int} {z : Int} (h : K.PtrL w0 [] ⟨b, 0, none⟩ (a8 cs)) (h0 : 0 ≤ z) (h8 : z < 8) : K.PtrL w0 [] ⟨b, 0 + z.toNat * 1, none⟩ (.int .i64 (cs.getD z.toNat default) :: (a8 cs).drop (z.toNat + 1)) := by
  have h1 := K.PtrL.fld h (k := z.toNat)
  rw [K.add_lit] at h1
  have e : (a8 cs).drop z.toNat = .int .i64 (cs.getD z.toNat default) :: (a8 cs).drop (z.toNat + 1) := by
    rw [List.drop_eq_getElem_cons (by rw [a8_len]; omega)]
    congr 1
    simp [a8]
  rw [e] at h1
  simpa using h1
end Go.Proofs.Ytafkbioeoklldaa
