/-
  Plain lemmas and plain functions, several texts joined.
  Conditions stand in each theorem.
-/
import Derived.Test.YtafkbioeoklldaaS1
import Derived.Test.YtafkbioeoklldaaK4
set_option linter.unusedSimpArgs false
set_option linter.unusedVariables false
/-
  Sets of points by bits, and the cuts of points that are looked at.
  No conditions: no program is in sight.
-/
namespace Go.Proofs.Ytafkbioeoklldaa
open Go
theorem bit_all : (List.range 256).all (fun s => (List.range 8).all fun i => decide (IntKind.i64.wrap (BitVec.ofInt IntKind.i64.bits (((s : Nat) : Int).fdiv (2 ^ min (Int.toNat ((i : Nat) : Int)) IntKind.i64.bits)) &&& BitVec.ofInt IntKind.i64.bits 1).toNat = if s.testBit i then 1 else 0)) = true := by decide +kernel
theorem bit_val {s i : Nat} (hs : s < 256) (hi : i < 8) : IntKind.i64.wrap (BitVec.ofInt IntKind.i64.bits (((s : Nat) : Int).fdiv (2 ^ min (Int.toNat ((i : Nat) : Int)) IntKind.i64.bits)) &&& BitVec.ofInt IntKind.i64.bits 1).toNat = if s.testBit i then 1 else 0 := by
  have h := List.all_eq_true.1 (List.all_eq_true.1 bit_all s (List.mem_range.2 hs)) i (List.mem_range.2 hi)
  simpa using h
theorem shl_val {n : Nat} (hn : n ≤ 8) : IntKind.i64.wrap (1 * 2 ^ min (Int.toNat (n : Int)) IntKind.i64.bits) = ((2 ^ n : Nat) : Int) := by
  have h : ∀ k ∈ List.range 9, IntKind.i64.wrap (1 * 2 ^ min (Int.toNat ((k : Nat) : Int)) IntKind.i64.bits) = ((2 ^ k : Nat) : Int) := by decide +kernel
  exact h n (List.mem_range.2 (by omega))
theorem pow_bd {n : Nat} (hn : n ≤ 8) : 2 ^ n ≤ 256 := by
  have h : ∀ k ∈ List.range 9, 2 ^ k ≤ 256 := by decide +kernel
  exact h n (List.mem_range.2 (by omega))
/-- How many bits are set. -/
def popN (s : Nat) : Nat := ((List.range 8).filter fun i => s.testBit i).length
/-- The entries below k that are not looked at are 0. -/
def mkI (s k : Nat) (xs : List Int) : List Int := (List.range 8).map fun i => if i < k ∧ s.testBit i = false then 0 else xs.getD i default
theorem mkI_len {s k : Nat} {xs : List Int} : (mkI s k xs).length = 8 := by simp [mkI]
theorem mkI_at {s k i : Nat} {xs : List Int} (hi : i < 8) : (mkI s k xs).getD i default = if i < k ∧ s.testBit i = false then 0 else xs.getD i default := by
  unfold mkI; rw [getD_map _ _ (by simpa using hi)]; simp [List.getD_eq_getElem?_getD, hi]
theorem a8_mk0 {s : Nat} {xs : List Int} : a8 (mkI s 0 xs) = a8 xs := by
  unfold a8
  apply List.map_congr_left
  intro i hi
  rw [mkI_at (List.mem_range.1 hi)]; simp
theorem a8_mkT {s k : Nat} {xs : List Int} (h : s.testBit k = true) : a8 (mkI s k xs) = a8 (mkI s (k + 1) xs) := by
  unfold a8
  apply List.map_congr_left
  intro i hi
  rw [mkI_at (List.mem_range.1 hi), mkI_at (List.mem_range.1 hi)]
  congr 1
  by_cases hik : i = k
  · subst hik; simp [h]
  · have : (i < k ∧ s.testBit i = false) ↔ (i < k + 1 ∧ s.testBit i = false) := by constructor <;> rintro ⟨h1, h2⟩ <;> exact ⟨by omega, h2⟩
    simp only [this]
theorem a8_mkF {s k : Nat} {xs : List Int} (hk : k < 8) (h : s.testBit k = false) : K.setn (a8 (mkI s k xs)) (0 + (k : Int).toNat * 1) (.int .i64 0) = a8 (mkI s (k + 1) xs) := by
  have e : 0 + (k : Int).toNat * 1 = k := by omega
  rw [e, K.setn_eq]
  apply List.ext_getElem?
  intro i
  rw [List.getElem?_set]
  simp only [a8, List.length_map, List.length_range, List.getElem?_map]
  rcases Nat.lt_or_ge i 8 with h8 | h8
  · rw [List.getElem?_range h8]
    simp only [Option.map_some]
    rw [mkI_at h8, mkI_at h8]
    by_cases hik : k = i
    · subst hik
      simp only [if_true, hk, h]
      have : k < k + 1 ∧ True := ⟨by omega, trivial⟩
      simp
    · have : (i < k ∧ s.testBit i = false) ↔ (i < k + 1 ∧ s.testBit i = false) := by constructor <;> rintro ⟨h1, h2⟩ <;> exact ⟨by omega, h2⟩
      simp only [hik, if_false, this]
  · rw [List.getElem?_eq_none (by simpa using h8)]
    have : ¬ k = i := by omega
    simp [this]
/-- Cuts as a map's key. -/
@[reducible] def kv (z : List Int) : Value := .agg (a8 z).toArray
theorem a8_inj {x y : List Int} (hx : x.length = 8) (hy : y.length = 8) (h : a8 x = a8 y) : x = y := by
  refine ext_getD (by omega) fun j hj => ?_
  have h1 : (a8 x)[j]? = (a8 y)[j]? := by rw [h]
  simpa [a8, List.getElem?_map, List.getElem?_range (show j < 8 by omega)] using h1
theorem kv_inj {x y : List Int} (hx : x.length = 8) (hy : y.length = 8) (h : kv x = kv y) : x = y := by
  unfold kv at h
  injection h with h
  exact a8_inj hx hy (by simpa using h)
section
variable {E : Type} [DecidableEq E]
/-- Each only once. -/
def ddK (zs : List E) : List E := zs.foldl K.insK []
theorem ddK_snoc {zs : List E} {z : E} : ddK (zs ++ [z]) = K.insK (ddK zs) z := by unfold ddK; rw [List.foldl_append]; rfl
theorem mem_insK {ks : List E} {k z : E} : z ∈ K.insK ks k ↔ z ∈ ks ∨ z = k := by
  unfold K.insK
  split
  · rename_i h
    constructor
    · exact .inl
    · rintro (h1 | rfl)
      · exact h1
      · exact h
  · simp
theorem mem_ddK {zs : List E} {z : E} : z ∈ ddK zs ↔ z ∈ zs := by
  have key : ∀ (zs : List E) (acc : List E), z ∈ zs.foldl K.insK acc ↔ z ∈ acc ∨ z ∈ zs := by
    intro zs
    induction zs with
    | nil => simp
    | cons y zs ih =>
      intro acc
      rw [List.foldl_cons, ih, mem_insK, List.mem_cons, or_assoc]
  unfold ddK
  rw [key]; simp
theorem ddK_len {zs : List E} : (ddK zs).length ≤ zs.length ∧ ((ddK zs).length = zs.length ↔ zs.Nodup) := by
  have key : ∀ (zs : List E) (acc : List E), acc.Nodup → (zs.foldl K.insK acc).length ≤ acc.length + zs.length ∧ ((zs.foldl K.insK acc).length = acc.length + zs.length ↔ (acc ++ zs).Nodup) := by
    intro zs
    induction zs with
    | nil => intro acc ha; simpa using ha
    | cons y zs ih =>
      intro acc ha
      rw [List.foldl_cons]
      by_cases h : y ∈ acc
      · have e : K.insK acc y = acc := if_pos h
        rw [e]
        have := (ih acc ha).1
        refine ⟨by simp only [List.length_cons]; omega, ⟨fun h1 => ?_, fun h1 => ?_⟩⟩
        · simp only [List.length_cons] at h1; omega
        · have := (List.nodup_append.1 h1).2.2 y h y (by simp)
          exact absurd rfl this
      · have e : K.insK acc y = acc ++ [y] := if_neg h
        rw [e]
        have h2 := ih (acc ++ [y]) (by
          refine List.nodup_append.2 ⟨ha, by simp, fun a ha' b hb => ?_⟩
          simp at hb; subst hb
          exact fun hh => h (hh ▸ ha'))
        simp only [List.length_append, List.length_cons, List.length_nil, List.append_assoc, List.cons_append, List.nil_append] at h2 ⊢
        exact ⟨by omega, by rw [← h2.2]; omega⟩
  have := key zs [] (by simp)
  simpa [ddK] using this
end
section
variable (kind base : Int) (hs : List Int)
/-- What is looked at of each scale's cuts. -/
def keysT (s : Nat) (l : List (Int × Int)) : List (List Int) := l.map fun x => mkI s 8 (cuts kind base x.1 x.2 hs)
/-- The points of s tell the scales apart. -/
def apB (l : List (Int × Int)) (s : Nat) : Bool := decide ((ddK (keysT kind base hs s l)).length = l.length)
/-- The points of a set. -/
def ptsS (n s : Nat) : List Int := selN (fun i => s.testBit i) n
/-- The order of lists. -/
def cmpL : List Int → List Int → Int
  | [], [] => 0
  | [], _ :: _ => -1
  | _ :: _, [] => 1
  | a :: x, b :: y => if a < b then -1 else if a > b then 1 else cmpL x y
/-- The best points so far, and how many. -/
def tellF (l : List (Int × Int)) (n : Nat) : Nat → List Int × Nat
  | 0 => ([], n + 1)
  | s + 1 =>
    if popN s > (tellF l n s).2 ∨ apB kind base hs l s = false then tellF l n s
    else if (ptsS n s).length < (tellF l n s).2 ∨ cmpL (ptsS n s) (tellF l n s).1 < 0 then (ptsS n s, (ptsS n s).length) else tellF l n s
end
def cmpS (a b : Int) : Int := if a < b then -1 else if a > b then 1 else 0
theorem cmp0 {a b : Int} (h : cmpS a b = 0) : a = b := by unfold cmpS at h; split at h <;> (try split at h) <;> omega
theorem cmpL_cons {a b : Int} {x y : List Int} : cmpL (a :: x) (b :: y) = if cmpS a b ≠ 0 then cmpS a b else cmpL x y := by
  unfold cmpS; rw [cmpL]
  split
  · simp
  · split <;> simp
theorem cmpL_drop : ∀ {k : Nat} {xs ys : List Int}, (∀ j, j < k → xs.getD j default = ys.getD j default) → k ≤ xs.length → k ≤ ys.length → cmpL xs ys = cmpL (xs.drop k) (ys.drop k)
  | 0, _, _, _, _, _ => rfl
  | k + 1, [], _, _, h, _ => by simp at h
  | k + 1, _ :: _, [], _, _, h => by simp at h
  | k + 1, x :: xs, y :: ys, hall, h1, h2 => by
    have h0 := hall 0 (by omega)
    simp at h0
    rw [cmpL_cons, if_neg (by subst h0; simp [cmpS]), List.drop_succ_cons, List.drop_succ_cons]
    exact cmpL_drop (fun j hj => by have := hall (j + 1) (by omega); simpa using this) (by simpa using h1) (by simpa using h2)
section
variable {k : Nat} {xs ys : List Int}
theorem cmpL_long (hall : ∀ j, j < k → xs.getD j default = ys.getD j default) (h1 : k < xs.length) (h2 : k = ys.length) : cmpL xs ys = 1 := by
  rw [cmpL_drop hall (by omega) (by omega), show ys.drop k = [] from List.drop_of_length_le (by omega), List.drop_eq_getElem_cons h1]; rfl
theorem cmpL_diff (hall : ∀ j, j < k → xs.getD j default = ys.getD j default) (h1 : k < xs.length) (h2 : k < ys.length) (hne : cmpS (xs.getD k default) (ys.getD k default) ≠ 0) : cmpL xs ys = cmpS (xs.getD k default) (ys.getD k default) := by
  rw [cmpL_drop hall (by omega) (by omega), List.drop_eq_getElem_cons h1, List.drop_eq_getElem_cons h2, cmpL_cons]
  simp only [List.getD_eq_getElem?_getD, List.getElem?_eq_getElem h1, List.getElem?_eq_getElem h2, Option.getD_some] at hne ⊢
  rw [if_pos hne]
theorem cmpL_short (hall : ∀ j, j < k → xs.getD j default = ys.getD j default) (h1 : k = xs.length) (h2 : k < ys.length) : cmpL xs ys = -1 := by
  rw [cmpL_drop hall (by omega) (by omega), show xs.drop k = [] from List.drop_of_length_le (by omega), List.drop_eq_getElem_cons h2]; rfl
theorem cmpL_same (hall : ∀ j, j < k → xs.getD j default = ys.getD j default) (h1 : k = xs.length) (h2 : k = ys.length) : cmpL xs ys = 0 := by
  rw [cmpL_drop hall (by omega) (by omega), show xs.drop k = [] from List.drop_of_length_le (by omega), show ys.drop k = [] from List.drop_of_length_le (by omega)]; rfl
end
end Go.Proofs.Ytafkbioeoklldaa

/-
  What Tell computes, as plain functions.
  No conditions: no program is in sight.
-/
namespace Go.Proofs.Ytafkbioeoklldaa
open Go
section
variable {kind base most : Int} {hs : List Int} {rs : List (Int × Int)} {l : List (Int × Int)} {n s : Nat} {F : List Int × Nat}
theorem tellF_skip1 (hF : F = tellF kind base hs l n s) (h : popN s > F.2) : F = tellF kind base hs l n (s + 1) := by
  subst hF; rw [tellF, if_pos (.inl h)]
theorem tellF_skip2 (hF : F = tellF kind base hs l n s) (h : apB kind base hs l s = false) : F = tellF kind base hs l n (s + 1) := by
  subst hF; rw [tellF, if_pos (.inr h)]
theorem tellF_t (hF : F = tellF kind base hs l n s) (h1 : ¬ popN s > F.2) (h2 : apB kind base hs l s = true) (h3 : (ptsS n s).length < F.2 ∨ cmpL (ptsS n s) F.1 < 0) : (ptsS n s, (ptsS n s).length) = tellF kind base hs l n (s + 1) := by
  subst hF; rw [tellF, if_neg (by rw [h2]; simp; omega), if_pos h3]
theorem tellF_f (hF : F = tellF kind base hs l n s) (h1 : ¬ popN s > F.2) (h2 : apB kind base hs l s = true) (h3 : ¬ ((ptsS n s).length < F.2 ∨ cmpL (ptsS n s) F.1 < 0)) : F = tellF kind base hs l n (s + 1) := by
  subst hF; rw [tellF, if_neg (by rw [h2]; simp; omega), if_neg h3]
theorem pts_len : (ptsS n s).length ≤ n := selN_len
theorem tellF_len : ∀ s, (tellF kind base hs l n s).1.length ≤ n ∧ (tellF kind base hs l n s).2 ≤ n + 1
  | 0 => by simp [tellF]
  | s + 1 => by
    have ih := tellF_len s
    unfold tellF
    split
    · exact ih
    · split
      · have := @pts_len n s
        exact ⟨this, by simp only; omega⟩
      · exact ih
end
section
variable (kind base most : Int) (hs : List Int) (rs : List (Int × Int)) (l : List (Int × Int))
def tellE : Int :=
  if (chk kind base most hs rs).2.2 ≠ 0 then (chk kind base most hs rs).2.2
  else if l.length > 6 then 3
  else if scsE l ≠ 0 then scsE l
  else if apB kind base hs l (2 ^ hs.length - 1) = false then 5 else 0
def tellR : List Int := if tellE kind base most hs rs l = 0 then (tellF kind base hs l hs.length (2 ^ hs.length)).1 else []
end
section
variable {kind base most : Int} {hs : List Int} {rs : List (Int × Int)} {l : List (Int × Int)}
theorem te_chk (h : (chk kind base most hs rs).2.2 ≠ 0) : tellE kind base most hs rs l = (chk kind base most hs rs).2.2 := by unfold tellE; rw [if_pos h]
theorem te_long (h : (chk kind base most hs rs).2.2 = 0) (h6 : l.length > 6) : tellE kind base most hs rs l = 3 := by unfold tellE; rw [if_neg (by omega), if_pos h6]
theorem te_sc (h : (chk kind base most hs rs).2.2 = 0) (h6 : ¬ l.length > 6) (h1 : scsE l ≠ 0) : tellE kind base most hs rs l = scsE l := by unfold tellE; rw [if_neg (by omega), if_neg h6, if_pos h1]
theorem te_tw (h : (chk kind base most hs rs).2.2 = 0) (h6 : ¬ l.length > 6) (h1 : scsE l = 0) (h2 : apB kind base hs l (2 ^ hs.length - 1) = false) : tellE kind base most hs rs l = 5 := by unfold tellE; rw [if_neg (by omega), if_neg h6, if_neg (by omega), if_pos h2]
theorem te_ok (h : (chk kind base most hs rs).2.2 = 0) (h6 : ¬ l.length > 6) (h1 : scsE l = 0) (h2 : apB kind base hs l (2 ^ hs.length - 1) = true) : tellE kind base most hs rs l = 0 := by unfold tellE; rw [if_neg (by omega), if_neg h6, if_neg (by omega), if_neg (by rw [h2]; decide)]
theorem tr_bad (h : tellE kind base most hs rs l ≠ 0) : tellR kind base most hs rs l = [] := by unfold tellR; rw [if_neg h]
theorem scsE_mem : ∀ {l : List (Int × Int)}, scsE l = 0 → ∀ x ∈ l, scE x.1 x.2 = 0
  | [], _, x, hx => by cases hx
  | a :: l, h, x, hx => by
    unfold scsE at h
    split at h
    · rename_i h1; exact absurd h h1
    · rcases List.mem_cons.1 hx with rfl | hx
      · omega
      · exact scsE_mem h x hx
theorem scsE_parts {l : List (Int × Int)} (h : scsE l = 0) : ∀ x ∈ l, Parts x.1 x.2 := fun x hx => scE_parts (scsE_mem h x hx)
end
end Go.Proofs.Ytafkbioeoklldaa
