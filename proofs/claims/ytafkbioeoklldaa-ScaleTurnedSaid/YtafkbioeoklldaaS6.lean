/-
  Plain lemmas and plain functions, several texts joined.
  Conditions stand in each theorem.
-/
import Derived.Test.YtafkbioeoklldaaS2
import Derived.Test.YtafkbioeoklldaaS3
set_option linter.unusedSimpArgs false
set_option linter.unusedVariables false
/-
  What the document's example comes to.
  No conditions: no program is in sight.
-/
namespace Go.Proofs.Ytafkbioeoklldaa
open Go
def caH : List Int := [100, 110, 125, 160]
def caR : List (Int × Int) := [(0, 1), (1, 2), (3, 2)]
theorem a17 : cutsR 2 100 50 caH caR 1 2 = [0, 5, 13, 30] ∧ askE 2 100 50 caH caR 1 2 = 0 := by decide +kernel
theorem a20 : offsR 2 100 50 caH caR 2 3 = [50, 0, 15] ∧ askE 2 100 50 caH caR 2 3 = 0 := by decide +kernel
theorem a22 : flatsR 2 100 50 caH caR 1 30 = [0] ∧ askE 2 100 50 caH caR 1 30 = 0 := by decide +kernel
theorem a27 : grtR 2 100 50 caH caR 47 = ((5, 6), 0) := by decide +kernel
theorem a29 : lstR 2 100 50 caH caR = ((1, 16), 0) := by decide +kernel
theorem a31 : scalesR 2 100 50 caH caR [(3, 41, 41)] = [(19, 28), (17, 25), (15, 22), (13, 19), (11, 16), (20, 29)] ∧ marksE 2 100 50 caH caR [(3, 41, 41)] = 0 := by decide +kernel
theorem a24 : apartR 2 100 50 caH caR 1 2 2 3 = [1, 2, 3] ∧ ask2 2 100 50 caH caR 1 2 2 3 = 0 := by decide +kernel
theorem a34 : tellR 2 100 50 caH caR [(1, 2), (3, 5), (2, 3)] = [1] ∧ tellE 2 100 50 caH caR [(1, 2), (3, 5), (2, 3)] = 0 := by decide +kernel
theorem a34b : tellR 2 100 50 caH caR [(19, 28), (17, 25)] = [] ∧ tellE 2 100 50 caH caR [(19, 28), (17, 25)] = 5 := by decide +kernel
theorem b17 : cutsR 2 100 50 caH caR 2 3 = [0, 7, 17, 40] ∧ askE 2 100 50 caH caR 2 3 = 0 := by decide +kernel
theorem b17d : cutsR 1 100 50 caH caR 2 3 = [0, 6, 16, 40] ∧ askE 1 100 50 caH caR 2 3 = 0 := by decide +kernel
theorem b17u : cutsR 3 100 50 caH caR 2 3 = [0, 7, 17, 40] ∧ askE 3 100 50 caH caR 2 3 = 0 := by decide +kernel
theorem b20 : offsR 2 100 50 caH caR 1 2 = [0, 67, 29] ∧ askE 2 100 50 caH caR 1 2 = 0 := by decide +kernel
theorem b22 : flatsR 2 100 50 caH caR 1 2 = [] ∧ askE 2 100 50 caH caR 1 2 = 0 := by decide +kernel
theorem b27 : grtR 2 100 50 caH caR 0 = ((4, 5), 0) := by decide +kernel
theorem b27b : grtR 2 100 50 caH caR 48 = ((21, 25), 0) := by decide +kernel
theorem b31 : scalesR 2 100 50 caH caR [(2, 17, 17), (3, 40, 40)] = [(2, 3)] ∧ marksE 2 100 50 caH caR [(2, 17, 17), (3, 40, 40)] = 0 := by decide +kernel
theorem b24 : apartR 2 100 50 caH caR 19 28 17 25 = [] ∧ ask2 2 100 50 caH caR 19 28 17 25 = 0 := by decide +kernel
end Go.Proofs.Ytafkbioeoklldaa

/-
  The fewest points that tell scales apart: the program's way and the reference's.
  No conditions: no program is in sight.
-/
namespace Go.Proofs.Ytafkbioeoklldaa
open Go
/-- Where the next number of an ascending list may begin. -/
def fromS (b : List Int) : Int := if b.length = 0 then 0 else b.getD (b.length - 1) default + 1
/-- All ascending lists of so many further numbers below n, in order. -/
def listsS : Nat → List Int → Int → List (List Int)
  | 0, b, _ => [b]
  | m + 1, b, n => (List.range (n - fromS b).toNat).flatMap fun (j : Nat) => listsS m (b ++ [fromS b + (j : Int)]) n
/-- All lists of points, the shorter ones first. -/
def lstA (n k : Nat) : List (List Int) := (List.range k).flatMap fun m => listsS m [] n
def ltL (a b : List Int) : Prop := a.length < b.length ∨ a.length = b.length ∧ cmpL a b < 0
instance (a b : List Int) : Decidable (ltL a b) := inferInstanceAs (Decidable (_ ∨ _))
theorem cmpL_anti : ∀ a b : List Int, cmpL b a = - cmpL a b
  | [], [] => rfl
  | [], _ :: _ => rfl
  | _ :: _, [] => rfl
  | a :: x, b :: y => by
    have ih := cmpL_anti x y
    rw [cmpL, cmpL]
    split <;> split <;> (try split) <;> omega
theorem cmpL_zero : ∀ {a b : List Int}, cmpL a b = 0 → a = b
  | [], [], _ => rfl
  | [], _ :: _, h => by simp [cmpL] at h
  | _ :: _, [], h => by simp [cmpL] at h
  | a :: x, b :: y, h => by
    rw [cmpL] at h
    split at h
    · omega
    · split at h
      · omega
      · rw [cmpL_zero h, show a = b by omega]
theorem cmpL_tr : ∀ {a b c : List Int}, cmpL a b < 0 → cmpL b c < 0 → cmpL a c < 0
  | [], [], _, h, _ => by simp [cmpL] at h
  | [], _ :: _, [], _, h => by simp [cmpL] at h
  | [], _ :: _, _ :: _, _, _ => by simp [cmpL]
  | _ :: _, [], _, h, _ => by simp [cmpL] at h
  | _ :: _, _ :: _, [], _, h => by simp [cmpL] at h
  | a :: x, b :: y, c :: z, h1, h2 => by
    rw [cmpL] at h1 h2 ⊢
    by_cases hac : a < c
    · rw [if_pos hac]; omega
    · by_cases hab : a < b
      · rw [if_pos hab] at h1
        rw [if_neg (by omega)] at h2
        rw [if_pos (by omega)] at h2
        omega
      · rw [if_neg hab] at h1
        by_cases hba : a > b
        · rw [if_pos hba] at h1; omega
        · rw [if_neg hba] at h1
          rw [if_neg (by omega)] at h2
          by_cases hbc : b > c
          · rw [if_pos hbc] at h2; omega
          · rw [if_neg hbc] at h2
            rw [if_neg hac, if_neg (by omega)]
            exact cmpL_tr h1 h2
theorem ltL_tr {a b c : List Int} (h1 : ltL a b) (h2 : ltL b c) : ltL a c := by
  unfold ltL at *
  rcases h1 with h1 | ⟨h1, h3⟩ <;> rcases h2 with h2 | ⟨h2, h4⟩
  · left; omega
  · left; omega
  · left; omega
  · right; exact ⟨by omega, cmpL_tr h3 h4⟩
theorem ltL_irr {a : List Int} : ¬ ltL a a := fun h => by
  have := cmpL_anti a a
  unfold ltL at h
  omega
def chainL : List (List Int) → Bool
  | [] => true
  | a :: l => (match l with | [] => true | b :: _ => decide (ltL a b)) && chainL l
theorem chainL_pw : ∀ {l : List (List Int)}, chainL l = true → l.Pairwise ltL
  | [], _ => .nil
  | [a], _ => by simp
  | a :: b :: l, h => by
    simp only [chainL, Bool.and_eq_true, decide_eq_true_eq] at h
    have ih := chainL_pw (l := b :: l) (by simp only [chainL, Bool.and_eq_true]; exact h.2)
    refine .cons (fun x hx => ?_) ih
    rcases List.mem_cons.1 hx with rfl | hx
    · exact h.1
    · exact ltL_tr h.1 (List.rel_of_pairwise_cons ih hx)
def maskS (z : List Int) : Nat := z.foldl (fun s i => s + 2 ^ i.toNat) 0
theorem lst_all : (List.range 9).all (fun n => chainL (lstA n (n + 1)) && (List.range (2 ^ n)).all (fun s => decide (ptsS n s ∈ lstA n (n + 1)) && decide ((ptsS n s).length = popN s)) && (lstA n (n + 1)).all (fun z => decide (maskS z < 2 ^ n) && decide (ptsS n (maskS z) = z))) = true := by decide +kernel
section
variable {n : Nat}
theorem lst_spec (hn : n ≤ 8) : (lstA n (n + 1)).Pairwise ltL ∧ (∀ s, s < 2 ^ n → ptsS n s ∈ lstA n (n + 1) ∧ (ptsS n s).length = popN s) ∧ ∀ z ∈ lstA n (n + 1), ∃ s, s < 2 ^ n ∧ ptsS n s = z := by
  have h := List.all_eq_true.1 lst_all n (List.mem_range.2 (by omega))
  simp only [Bool.and_eq_true] at h
  refine ⟨chainL_pw h.1.1, fun s hs => ?_, fun z hz => ?_⟩
  · have := List.all_eq_true.1 h.1.2 s (List.mem_range.2 hs)
    simpa using this
  · have := List.all_eq_true.1 h.2 z hz
    simp only [Bool.and_eq_true, decide_eq_true_eq] at this
    exact ⟨_, this.1, this.2⟩
variable {kind base : Int} {hs : List Int} {l : List (Int × Int)} {T : List Int → Bool}
theorem tell_inv (hn : n ≤ 8) (hT : ∀ s, s < 2 ^ n → apB kind base hs l s = T (ptsS n s)) : ∀ s, s ≤ 2 ^ n →
    ((∀ t, t < s → T (ptsS n t) = false) ∧ tellF kind base hs l n s = ([], n + 1)) ∨
    ∃ t, t < s ∧ T (ptsS n t) = true ∧ tellF kind base hs l n s = (ptsS n t, (ptsS n t).length) ∧ ∀ t', t' < s → T (ptsS n t') = true → ¬ ltL (ptsS n t') (ptsS n t)
  | 0, _ => .inl ⟨fun t ht => absurd ht (Nat.not_lt_zero t), rfl⟩
  | s + 1, hs' => by
    have ih := tell_inv hn hT s (by omega)
    have hp := ((lst_spec hn).2.1 s (by omega)).2
    have hl : (ptsS n s).length ≤ n := pts_len
    have ha := hT s (by omega)
    rcases ih with ⟨h1, h2⟩ | ⟨t, ht, hTt, h2, h3⟩
    · rw [tellF, h2]
      cases hTs : T (ptsS n s) with
      | false =>
        rw [if_pos (.inr (by rw [ha, hTs]))]
        refine .inl ⟨fun t ht => ?_, rfl⟩
        rcases Nat.lt_or_ge t s with h4 | h4
        · exact h1 t h4
        · have : t = s := by omega
          subst this; exact hTs
      | true =>
        rw [if_neg (fun h => h.elim (fun h => by simp only at h; omega) (fun h => by rw [ha, hTs] at h; cases h)), if_pos (.inl (by simp only; omega))]
        refine .inr ⟨s, by omega, hTs, rfl, fun t' ht' hT' => ?_⟩
        rcases Nat.lt_or_ge t' s with h4 | h4
        · rw [h1 t' h4] at hT'; cases hT'
        · have : t' = s := by omega
          subst this; exact ltL_irr
    · rw [tellF, h2]
      cases hTs : T (ptsS n s) with
      | false =>
        rw [if_pos (.inr (by rw [ha, hTs]))]
        refine .inr ⟨t, by omega, hTt, rfl, fun t' ht' hT' => ?_⟩
        rcases Nat.lt_or_ge t' s with h4 | h4
        · exact h3 t' h4 hT'
        · have : t' = s := by omega
          subst this; rw [hTs] at hT'; cases hT'
      | true =>
        by_cases hlen : popN s > (ptsS n t).length
        · rw [if_pos (.inl hlen)]
          refine .inr ⟨t, by omega, hTt, rfl, fun t' ht' hT' => ?_⟩
          rcases Nat.lt_or_ge t' s with h4 | h4
          · exact h3 t' h4 hT'
          · have : t' = s := by omega
            subst this
            intro h; unfold ltL at h; omega
        · rw [if_neg (fun h => h.elim hlen (fun h => by rw [ha, hTs] at h; cases h))]
          by_cases hb : (ptsS n s).length < (ptsS n t).length ∨ cmpL (ptsS n s) (ptsS n t) < 0
          · rw [if_pos hb]
            have hlt : ltL (ptsS n s) (ptsS n t) := by unfold ltL; omega
            refine .inr ⟨s, by omega, hTs, rfl, fun t' ht' hT' => ?_⟩
            rcases Nat.lt_or_ge t' s with h4 | h4
            · exact fun h => h3 t' h4 hT' (ltL_tr h hlt)
            · have : t' = s := by omega
              subst this; exact ltL_irr
          · rw [if_neg hb]
            refine .inr ⟨t, by omega, hTt, rfl, fun t' ht' hT' => ?_⟩
            rcases Nat.lt_or_ge t' s with h4 | h4
            · exact h3 t' h4 hT'
            · have : t' = s := by omega
              subst this
              intro h; unfold ltL at h; omega
/-- The program's points are the first ones that tell. -/
theorem tell_find (hn : n ≤ 8) (hT : ∀ s, s < 2 ^ n → apB kind base hs l s = T (ptsS n s)) (hf : ∃ s, s < 2 ^ n ∧ T (ptsS n s) = true) :
    (lstA n (n + 1)).find? T = some (tellF kind base hs l n (2 ^ n)).1 := by
  obtain ⟨s, hs', hTs⟩ := hf
  obtain ⟨hpw, hin, hout⟩ := lst_spec hn
  rcases tell_inv hn hT (2 ^ n) (Nat.le_refl _) with ⟨h1, _⟩ | ⟨t, ht, hTt, h2, h3⟩
  · rw [h1 s hs'] at hTs; cases hTs
  · rw [h2]
    cases hfd : (lstA n (n + 1)).find? T with
    | none =>
      have := List.find?_eq_none.1 hfd _ (hin t ht).1
      rw [hTt] at this; exact absurd rfl this
    | some z =>
      obtain ⟨hz, as, bs, hab, hno⟩ := List.find?_eq_some_iff_append.1 hfd
      have hzm : z ∈ lstA n (n + 1) := by rw [hab]; simp
      obtain ⟨s', hs2, rfl⟩ := hout z hzm
      have hm := (hin t ht).1
      rw [hab] at hm hpw
      rcases List.mem_append.1 hm with h4 | h4
      · have := hno _ h4
        rw [hTt] at this; cases this
      · rcases List.mem_cons.1 h4 with h5 | h5
        · simp only [h5]
        · exfalso
          have := List.rel_of_pairwise_cons (List.pairwise_append.1 hpw).2.1 h5
          exact h3 s' hs2 hz this
end
section
variable (kind base : Int) (hs : List Int) (l : List (Int × Int))
/-- One of the points tells the two scales apart. -/
def pairB (pts : List Int) (i k : Nat) : Bool := pts.any fun p => decide (p ∈ diffs (cuts kind base (l.getD i default).1 (l.getD i default).2 hs) (cuts kind base (l.getD k default).1 (l.getD k default).2 hs))
/-- The points tell each two of the scales apart. -/
def toldB (pts : List Int) : Bool := (List.range l.length).all fun i => (List.range i).all fun k => pairB kind base hs l pts i k
/-- What the reference's Tell finds. -/
def refT : List Int := ((lstA hs.length (hs.length + 1)).find? (toldB kind base hs l)).getD []
/-- Two scales have the same cuts. -/
def twiceB : Bool := (List.range l.length).any fun i => (List.range i).any fun k => decide ((diffs (cuts kind base (l.getD i default).1 (l.getD i default).2 hs) (cuts kind base (l.getD k default).1 (l.getD k default).2 hs)).length = 0)
end
theorem mem_sel {p : Nat → Bool} {n : Nat} {x : Int} : x ∈ selN p n ↔ ∃ i : Nat, i < n ∧ p i = true ∧ x = (i : Int) := by
  unfold selN
  simp only [List.mem_map, List.mem_filter, List.mem_range]
  constructor
  · rintro ⟨i, ⟨h1, h2⟩, rfl⟩; exact ⟨i, h1, h2, rfl⟩
  · rintro ⟨i, h1, h2, rfl⟩; exact ⟨i, ⟨h1, h2⟩, rfl⟩
theorem mem_diffs {xs ys : List Int} {x : Int} : x ∈ diffs xs ys ↔ ∃ i : Nat, i < xs.length ∧ xs.getD i default ≠ ys.getD i default ∧ x = (i : Int) := by
  unfold diffs; rw [mem_sel]; simp
section
variable {kind base : Int} {hs : List Int} {l : List (Int × Int)}
theorem mkI_ne {s n : Nat} {xs ys : List Int} (hx : xs.length = n) (hy : ys.length = n) (hn : n ≤ 8) : mkI s 8 xs ≠ mkI s 8 ys ↔ ∃ p ∈ ptsS n s, p ∈ diffs xs ys := by
  constructor
  · intro h
    by_cases hc : ∃ i : Nat, i < 8 ∧ (mkI s 8 xs).getD i default ≠ (mkI s 8 ys).getD i default
    · obtain ⟨i, hi, hne⟩ := hc
      rw [mkI_at hi, mkI_at hi] at hne
      by_cases hb : s.testBit i = true
      · rw [if_neg (by rw [hb]; simp), if_neg (by rw [hb]; simp)] at hne
        have hin : i < n := by
          rcases Nat.lt_or_ge i n with h1 | h1
          · exact h1
          · exfalso; apply hne
            rw [List.getD_eq_getElem?_getD, List.getD_eq_getElem?_getD, List.getElem?_eq_none (by omega), List.getElem?_eq_none (by omega)]
        exact ⟨i, mem_sel.2 ⟨i, hin, hb, rfl⟩, mem_diffs.2 ⟨i, by omega, hne, rfl⟩⟩
      · have hb' : s.testBit i = false := by simpa using hb
        rw [if_pos ⟨hi, hb'⟩, if_pos ⟨hi, hb'⟩] at hne
        exact absurd rfl hne
    · exfalso; apply h
      refine ext_getD (by rw [mkI_len, mkI_len]) (fun j hj => ?_)
      rw [mkI_len] at hj
      exact Decidable.not_not.1 (fun hne => hc ⟨j, hj, hne⟩)
  · rintro ⟨p, hp, hd⟩ h
    obtain ⟨i, hi, hb, rfl⟩ := mem_sel.1 hp
    obtain ⟨j, hj, hne, he⟩ := mem_diffs.1 hd
    have : i = j := by omega
    subst this
    apply hne
    have h1 : (mkI s 8 xs).getD i default = (mkI s 8 ys).getD i default := by rw [h]
    rw [mkI_at (by omega), mkI_at (by omega), if_neg (by rw [hb]; simp), if_neg (by rw [hb]; simp)] at h1
    exact h1
theorem ap_told {s : Nat} (hn : hs.length ≤ 8) : apB kind base hs l s = toldB kind base hs l (ptsS hs.length s) := by
  rw [Bool.eq_iff_iff]
  unfold apB toldB
  have hkl : (keysT kind base hs s l).length = l.length := by unfold keysT; simp
  have hdd : (ddK (keysT kind base hs s l)).length = l.length ↔ (keysT kind base hs s l).Nodup := by
    have := (ddK_len (zs := keysT kind base hs s l)).2
    rw [hkl] at this; exact this
  rw [decide_eq_true_eq, hdd, List.nodup_iff_pairwise_ne, List.pairwise_iff_getElem]
  simp only [List.all_eq_true, List.mem_range, pairB, List.any_eq_true, decide_eq_true_eq]
  have key : ∀ i k, i < l.length → k < l.length → ((keysT kind base hs s l)[i]?.getD [] ≠ (keysT kind base hs s l)[k]?.getD [] ↔ ∃ p ∈ ptsS hs.length s, p ∈ diffs (cuts kind base (l.getD i default).1 (l.getD i default).2 hs) (cuts kind base (l.getD k default).1 (l.getD k default).2 hs)) := fun i k hi hk => by
    have e : ∀ j, j < l.length → (keysT kind base hs s l)[j]?.getD [] = mkI s 8 (cuts kind base (l.getD j default).1 (l.getD j default).2 hs) := fun j hj => by
      unfold keysT
      simp [List.getElem?_map, List.getElem?_eq_getElem hj, List.getD_eq_getElem?_getD]
    rw [e i hi, e k hk]
    exact mkI_ne cuts_len cuts_len hn
  constructor
  · intro h i hi k hk
    rw [← key i k hi (by omega)]
    have := h k i (by omega) (by omega) hk
    rw [List.getElem?_eq_getElem (by omega), List.getElem?_eq_getElem (by omega)]
    exact fun he => this he.symm
  · intro h i j hi hj hij
    have := (key j i (by omega) (by omega)).2 (h j (by omega) i hij)
    rw [List.getElem?_eq_getElem (by omega), List.getElem?_eq_getElem (by omega)] at this
    exact fun he => this he.symm
theorem pts_full {n : Nat} {p : Int} : p ∈ ptsS n (2 ^ n - 1) ↔ ∃ i : Nat, i < n ∧ p = (i : Int) := by
  unfold ptsS; rw [mem_sel]
  constructor
  · rintro ⟨i, h1, _, h2⟩; exact ⟨i, h1, h2⟩
  · rintro ⟨i, h1, h2⟩
    exact ⟨i, h1, by rw [Nat.testBit_two_pow_sub_one]; simpa using h1, h2⟩
theorem told_full : toldB kind base hs l (ptsS hs.length (2 ^ hs.length - 1)) = !(twiceB kind base hs l) := by
  rw [Bool.eq_iff_iff]
  unfold toldB twiceB
  simp only [List.all_eq_true, List.mem_range, pairB, List.any_eq_true, decide_eq_true_eq, Bool.not_eq_true', List.any_eq_false]
  constructor
  · intro h i hi h1
    obtain ⟨k, hk, h0⟩ := h1
    obtain ⟨p, _, hd⟩ := h i hi k hk
    have := List.eq_nil_of_length_eq_zero h0
    rw [this] at hd; cases hd
  · intro h i hi k hk
    cases hd : diffs (cuts kind base (l.getD i default).1 (l.getD i default).2 hs) (cuts kind base (l.getD k default).1 (l.getD k default).2 hs) with
    | nil => exact absurd ⟨k, hk, by rw [hd]; rfl⟩ (h i hi)
    | cons p r =>
      have hm : p ∈ diffs (cuts kind base (l.getD i default).1 (l.getD i default).2 hs) (cuts kind base (l.getD k default).1 (l.getD k default).2 hs) := by rw [hd]; simp
      obtain ⟨j, hj, _, rfl⟩ := mem_diffs.1 hm
      rw [cuts_len] at hj
      exact ⟨_, pts_full.2 ⟨j, hj, rfl⟩, by simp⟩
/-- The program's Tell and the reference's. -/
theorem tell_ref (hn : hs.length ≤ 8) (hw : twiceB kind base hs l = false) : refT kind base hs l = (tellF kind base hs l hs.length (2 ^ hs.length)).1 := by
  unfold refT
  rw [tell_find (T := toldB kind base hs l) hn (fun s _ => ap_told hn) ⟨2 ^ hs.length - 1, by have := Nat.two_pow_pos hs.length; omega, by rw [told_full, hw]; rfl⟩]
  rfl
end
section
variable (kind base most : Int) (hs : List Int) (rs : List (Int × Int)) (l : List (Int × Int))
/-- The reference's error of a case and a list of scales. -/
def listE : Int :=
  if (chk kind base most hs rs).2.2 ≠ 0 then (chk kind base most hs rs).2.2
  else if l.length > 6 then 3
  else if scsE l ≠ 0 then scsE l
  else if twiceB kind base hs l = true then 5 else 0
end
theorem list_tell {kind base most : Int} {hs : List Int} {rs : List (Int × Int)} {l : List (Int × Int)} : listE kind base most hs rs l = tellE kind base most hs rs l := by
  unfold listE tellE
  by_cases h : (chk kind base most hs rs).2.2 = 0
  · have g := chk_good h
    have e : ¬ (chk kind base most hs rs).2.2 ≠ 0 := fun h1 => h1 h
    rw [if_neg (c := (chk kind base most hs rs).2.2 ≠ 0) e, if_neg (c := (chk kind base most hs rs).2.2 ≠ 0) e, ap_told g.n.2, told_full]
    cases twiceB kind base hs l <;> rfl
  · rw [if_pos h, if_pos h]
section
/-- The lists so far. -/
def partS (m : Nat) (b : List Int) (n : Int) (k : Nat) : List (List Int) := (List.range k).flatMap fun (j : Nat) => listsS m (b ++ [fromS b + (j : Int)]) n
variable {m k : Nat} {b : List Int} {n : Int}
theorem partS_succ : partS m b n (k + 1) = partS m b n k ++ listsS m (b ++ [fromS b + (k : Int)]) n := by
  unfold partS; rw [List.range_succ, List.flatMap_append]; simp
theorem partS_all : partS m b n (n - fromS b).toNat = listsS (m + 1) b n := rfl
theorem fromS_snoc {i : Int} : fromS (b ++ [i]) = i + 1 := by
  unfold fromS
  rw [if_neg (by simp)]
  simp [List.getD_eq_getElem?_getD]
theorem lists_len : ∀ {m : Nat} {b : List Int}, n ≤ 8 → 0 ≤ fromS b → (listsS m b n).length ≤ 8 ^ m
  | 0, _, _, _ => by simp [listsS]
  | m + 1, b, hn, hf => by
    have key : ∀ k, k ≤ 8 → (partS m b n k).length ≤ k * 8 ^ m := fun k => by
      induction k with
      | zero => intro _; simp [partS]
      | succ k ih =>
        intro hk
        rw [partS_succ, List.length_append, Nat.add_mul]
        have := ih (by omega)
        have := lists_len (m := m) (b := b ++ [fromS b + (k : Int)]) hn (by rw [fromS_snoc]; omega)
        omega
    rw [← partS_all]
    have h1 : (n - fromS b).toNat ≤ 8 := by omega
    have h2 := key _ h1
    have h3 : (n - fromS b).toNat * 8 ^ m ≤ 8 * 8 ^ m := Nat.mul_le_mul_right _ h1
    rw [Nat.pow_succ]; omega
theorem part_len (hn : n ≤ 8) (hf : 0 ≤ fromS b) (hm : m ≤ 8) (hk : k ≤ 8) : (partS m b n k).length ≤ 134217728 := by
  have key : ∀ k, (partS m b n k).length ≤ k * 8 ^ m := fun k => by
    induction k with
    | zero => simp [partS]
    | succ k ih =>
      rw [partS_succ, List.length_append, Nat.add_mul]
      have := lists_len (m := m) (b := b ++ [fromS b + (k : Int)]) hn (by rw [fromS_snoc]; omega)
      omega
  have h1 := key k
  have h2 : 8 ^ m ≤ 8 ^ 8 := Nat.pow_le_pow_right (by omega) hm
  have h3 : k * 8 ^ m ≤ 8 * 8 ^ 8 := Nat.mul_le_mul hk h2
  omega
theorem lists_len8 (hn : n ≤ 8) (hf : 0 ≤ fromS b) (hm : m ≤ 8) : (listsS m b n).length ≤ 16777216 := by
  have h1 := lists_len (m := m) hn hf
  have h2 : 8 ^ m ≤ 8 ^ 8 := Nat.pow_le_pow_right (by omega) hm
  omega
end
section
variable {kind base most : Int} {hs : List Int} {rs : List (Int × Int)} {l : List (Int × Int)} {pts : List Int} {i k : Nat}
theorem told_f (hi : i < l.length) (hk : k < i) (h : pairB kind base hs l pts i k = false) : toldB kind base hs l pts = false := by
  cases ht : toldB kind base hs l pts with
  | false => rfl
  | true =>
    unfold toldB at ht
    have := List.all_eq_true.1 (List.all_eq_true.1 ht i (List.mem_range.2 hi)) k (List.mem_range.2 hk)
    rw [h] at this; exact this.symm
theorem told_t (h : ∀ i, i < l.length → ∀ k, k < i → pairB kind base hs l pts i k = true) : toldB kind base hs l pts = true := by
  unfold toldB
  rw [List.all_eq_true]
  intro i hi
  rw [List.all_eq_true]
  intro k hk
  exact h i (List.mem_range.1 hi) k (List.mem_range.1 hk)
/-- The length of what tells two scales apart. -/
def dlen (kind base : Int) (hs : List Int) (l : List (Int × Int)) (i k : Nat) : Nat := (diffs (cuts kind base (l.getD i default).1 (l.getD i default).2 hs) (cuts kind base (l.getD k default).1 (l.getD k default).2 hs)).length
theorem twice_t (hi : i < l.length) (hk : k < i) (h : dlen kind base hs l i k = 0) : twiceB kind base hs l = true := by
  unfold twiceB
  rw [List.any_eq_true]
  refine ⟨i, List.mem_range.2 hi, ?_⟩
  rw [List.any_eq_true]
  exact ⟨k, List.mem_range.2 hk, decide_eq_true h⟩
theorem twice_f (h : ∀ i, i < l.length → ∀ k, k < i → dlen kind base hs l i k ≠ 0) : twiceB kind base hs l = false := by
  cases ht : twiceB kind base hs l with
  | false => rfl
  | true =>
    unfold twiceB at ht
    obtain ⟨i, hi, h1⟩ := List.any_eq_true.1 ht
    obtain ⟨k, hk, h2⟩ := List.any_eq_true.1 h1
    exact absurd (of_decide_eq_true h2) (h i (List.mem_range.1 hi) k (List.mem_range.1 hk))
/-- The error ahead of the look for scales that are the same. -/
def preE (kind base most : Int) (hs : List Int) (rs : List (Int × Int)) (l : List (Int × Int)) : Int :=
  if (chk kind base most hs rs).2.2 ≠ 0 then (chk kind base most hs rs).2.2 else if l.length > 6 then 3 else scsE l
theorem list_pre : listE kind base most hs rs l = if preE kind base most hs rs l ≠ 0 then preE kind base most hs rs l else if twiceB kind base hs l = true then 5 else 0 := by
  unfold listE preE
  by_cases h1 : (chk kind base most hs rs).2.2 = 0
  · have e : ¬ (chk kind base most hs rs).2.2 ≠ 0 := fun h => h h1
    by_cases h2 : l.length > 6
    · simp only [if_neg e, if_pos h2, if_pos (show (3 : Int) ≠ 0 by decide)]
    · simp only [if_neg e, if_neg h2]
  · have e : (chk kind base most hs rs).2.2 ≠ 0 := h1
    simp only [if_pos e]
theorem scs_at {l : List (Int × Int)} {i : Nat} (hi : i < l.length) (hall : ∀ j, j < i → scE (l.getD j default).1 (l.getD j default).2 = 0) (hn : scE (l.getD i default).1 (l.getD i default).2 ≠ 0) : scsE l = scE (l.getD i default).1 (l.getD i default).2 := by
  rw [← fst_scsE, K.fst_found (q := fun s : Int × Int => scE s.1 s.2) hi hall hn]
theorem scs_0 {l : List (Int × Int)} (hall : ∀ j, j < l.length → scE (l.getD j default).1 (l.getD j default).2 = 0) : scsE l = 0 := by
  rw [← fst_scsE, K.fst_none (q := fun s : Int × Int => scE s.1 s.2) hall]
theorem list_0 (h : listE kind base most hs rs l = 0) : Good kind base most hs rs ∧ l.length ≤ 6 ∧ (∀ x ∈ l, Parts x.1 x.2) ∧ twiceB kind base hs l = false ∧ scsE l = 0 := by
  unfold listE at h
  split at h
  · rename_i h1; exact absurd h h1
  split at h
  · exact absurd h (by decide)
  split at h
  · rename_i h1; exact absurd h h1
  split at h
  · exact absurd h (by decide)
  rename_i h1 h2 h3 h4
  exact ⟨chk_good (Decidable.not_not.1 h1), by omega, scsE_parts (Decidable.not_not.1 h3), by simpa using h4, Decidable.not_not.1 h3⟩
/-- The first list that tells is what Tell hands back. -/
theorem tell_at {n m i : Nat} {T : List Int → Bool} (hm : m ≤ n) (h1 : ∀ z ∈ lstA n m, T z = false) (hi : i < (listsS m [] n).length) (h2 : ∀ j, j < i → T ((listsS m [] n).getD j default) = false) (h3 : T ((listsS m [] n).getD i default) = true) :
    (lstA n (n + 1)).find? T = some ((listsS m [] n).getD i default) := by
  have e0 : lstA n (n + 1) = lstA n m ++ ((List.range' m (n + 1 - m)).flatMap fun m => listsS m [] n) := by
    unfold lstA
    rw [← List.flatMap_append]
    congr 1
    have : n + 1 = m + (n + 1 - m) := by omega
    rw [List.range_eq_range', List.range_eq_range', this, ← List.range'_append_1]
    simp
  have e1 : List.range' m (n + 1 - m) = m :: List.range' (m + 1) (n - m) := by
    have : n + 1 - m = (n - m) + 1 := by omega
    rw [this, List.range'_succ]
  rw [e0, e1, List.flatMap_cons, List.find?_append]
  have h4 : (lstA n m).find? T = none := List.find?_eq_none.2 (fun z hz => by rw [h1 z hz]; decide)
  rw [h4, Option.none_or, List.find?_append]
  have h5 : (listsS m [] n).find? T = some ((listsS m [] n).getD i default) := by
    rw [List.find?_eq_some_iff_getElem]
    have e : (listsS m [] n).getD i default = (listsS m [] n)[i] := by rw [List.getD_eq_getElem?_getD, List.getElem?_eq_getElem hi]; rfl
    refine ⟨h3, i, hi, e.symm, fun j hj => ?_⟩
    have := h2 j hj
    rw [List.getD_eq_getElem?_getD, List.getElem?_eq_getElem (by omega)] at this
    simpa using this
  rw [h5]; rfl
theorem no_at {T : List Int → Bool} {zs : List (List Int)} (h : ∀ j, j < zs.length → T (zs.getD j default) = false) : ∀ z ∈ zs, T z = false := fun z hz => by
  obtain ⟨j, hj, rfl⟩ := List.getElem_of_mem hz
  have := h j hj
  rwa [List.getD_eq_getElem?_getD, List.getElem?_eq_getElem hj] at this
theorem lists_ln : ∀ {m : Nat} {b : List Int} {n : Int} {z : List Int}, z ∈ listsS m b n → z.length = b.length + m
  | 0, b, n, z, h => by simp [listsS] at h; rw [h]; rfl
  | m + 1, b, n, z, h => by
    rw [listsS] at h
    obtain ⟨j, _, h2⟩ := List.mem_flatMap.1 h
    rw [lists_ln h2]; simp; omega
theorem lists_in {m : Nat} {n : Int} {z : List Int} (h : z ∈ listsS m [] n) (hm : m ≤ 1000) : z.length ≤ 1000 := by rw [lists_ln h]; simpa using hm
theorem pre_0 (h : preE kind base most hs rs l = 0) : (chk kind base most hs rs).2.2 = 0 ∧ l.length ≤ 6 ∧ scsE l = 0 := by
  unfold preE at h
  split at h
  · rename_i h1; exact absurd h h1
  split at h
  · exact absurd h (by decide)
  rename_i h1 h2
  exact ⟨Decidable.not_not.1 h1, by omega, h⟩
theorem lstA_succ {n m : Nat} : lstA n (m + 1) = lstA n m ++ listsS m [] n := by
  unfold lstA; rw [List.range_succ, List.flatMap_append]; simp
end
end Go.Proofs.Ytafkbioeoklldaa
