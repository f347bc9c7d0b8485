/-
  Plain lemmas and plain functions, several texts joined.
  Conditions stand in each theorem.
-/
import Derived.Test.YtafkbioeoklldaaS3
import Derived.Test.YtafkbioeoklldaaS1
set_option linter.unusedSimpArgs false
set_option linter.unusedVariables false
/-
  What the outright statements on scales come to.
  No conditions: no program is in sight.
-/
namespace Go.Proofs.Ytafkbioeoklldaa
open Go
theorem in_sb_all : (List.range 30).all (fun a => (List.range 30).all fun b => decide (scE ((a : Nat) + 1) ((b : Nat) + 1) ≠ 0) || decide ((((a : Nat) : Int) + 1, ((b : Nat) : Int) + 1) ∈ SB)) = true := by decide +kernel
theorem in_sb {u v : Int} (h : scE u v = 0) : (u, v) ∈ SB := by
  have hp := scE_parts h
  have h1 := List.all_eq_true.1 (List.all_eq_true.1 in_sb_all (u - 1).toNat (List.mem_range.2 (by omega))) (v - 1).toNat (List.mem_range.2 (by omega))
  have e1 : (((u - 1).toNat : Nat) : Int) + 1 = u := by omega
  have e2 : (((v - 1).toNat : Nat) : Int) + 1 = v := by omega
  simp only [e1, e2, h, ne_eq, not_true_eq_false, decide_false, Bool.false_or, decide_eq_true_eq] at h1
  exact h1
theorem sb_sc_all : SB.all (fun x => decide (scE x.1 x.2 = 0)) = true := by decide +kernel
theorem sb_sc {x : Int × Int} (h : x ∈ SB) : scE x.1 x.2 = 0 := by
  have := List.all_eq_true.1 sb_sc_all x h
  simpa using this
/-- How far a cut is off, and between which numbers. -/
def errLo (kind v : Int) : Int := if kind = 1 then -(v - 1) else if kind = 2 then -((v - 1) / 2) else 0
def errHi (kind v : Int) : Int := if kind = 1 then 0 else if kind = 2 then v / 2 else v - 1
theorem cut_err {kind h u v : Int} (hk : 1 ≤ kind ∧ kind ≤ 3) (hv : 1 ≤ v) : errLo kind v ≤ v * cutS kind h u v - h * u ∧ v * cutS kind h u v - h * u ≤ errHi kind v := by
  unfold errLo errHi cutS
  generalize h * u = n
  have hd := Int.mul_ediv_add_emod n v
  have h0 := Int.emod_nonneg n (show v ≠ 0 by omega)
  have h1 := Int.emod_lt_of_pos n (show 0 < v by omega)
  generalize n / v = q at *
  generalize n % v = r at *
  have e : v * (q + 1) = v * q + v := by rw [Int.mul_add, Int.mul_one]
  rcases (show kind = 1 ∨ kind = 2 ∨ kind = 3 by omega) with hk1 | hk1 | hk1 <;> subst hk1
  · rw [if_pos rfl, if_pos rfl, if_neg (show ¬ ((1 : Int) = 3 ∧ 0 < r ∨ (1 : Int) = 2 ∧ v ≤ 2 * r) by omega), Int.add_zero]; omega
  · rw [if_neg (show ¬ (2 : Int) = 1 by omega), if_pos rfl, if_neg (show ¬ (2 : Int) = 1 by omega), if_pos rfl]
    by_cases hc : v ≤ 2 * r
    · rw [if_pos (show (2 : Int) = 3 ∧ 0 < r ∨ (2 : Int) = 2 ∧ v ≤ 2 * r by omega), e]; omega
    · rw [if_neg (show ¬ ((2 : Int) = 3 ∧ 0 < r ∨ (2 : Int) = 2 ∧ v ≤ 2 * r) by omega), Int.add_zero]; omega
  · rw [if_neg (show ¬ (3 : Int) = 1 by omega), if_neg (show ¬ (3 : Int) = 2 by omega), if_neg (show ¬ (3 : Int) = 1 by omega), if_neg (show ¬ (3 : Int) = 2 by omega)]
    by_cases hc : 0 < r
    · rw [if_pos (show (3 : Int) = 3 ∧ 0 < r ∨ (3 : Int) = 2 ∧ v ≤ 2 * r by omega), e]; omega
    · rw [if_neg (show ¬ ((3 : Int) = 3 ∧ 0 < r ∨ (3 : Int) = 2 ∧ v ≤ 2 * r) by omega), Int.add_zero]; omega
theorem err_span {kind v : Int} (hk : 1 ≤ kind ∧ kind ≤ 3) (hv : 1 ≤ v) : errHi kind v - errLo kind v = v - 1 := by
  unfold errLo errHi
  rcases (show kind = 1 ∨ kind = 2 ∨ kind = 3 by omega) with hk1 | hk1 | hk1
  · rw [if_pos hk1, if_pos hk1]; omega
  · rw [if_neg (by omega), if_pos hk1, if_neg (by omega), if_pos hk1]; omega
  · rw [if_neg (by omega), if_neg (by omega), if_neg (by omega), if_neg (by omega)]; omega
section
variable {kind base most : Int} {hs : List Int} {rs : List (Int × Int)} {u v : Int}
/-- By how much a road on the model is off, at most. -/
theorem rise_err (g : Good kind base most hs rs) (hp : Parts u v) {r : Int × Int} (hr : 0 ≤ r.1 ∧ r.1 < hs.length ∧ 0 ≤ r.2 ∧ r.2 < hs.length) :
    -(v - 1) ≤ v * riseS (cuts kind base u v hs) r - u * riseS hs r ∧ v * riseS (cuts kind base u v hs) r - u * riseS hs r ≤ v - 1 := by
  have h1 := cut_err (h := hs.getD r.1.toNat default - base) (u := u) g.k hp.2.2.1
  have h2 := cut_err (h := hs.getD r.2.toNat default - base) (u := u) g.k hp.2.2.1
  have h3 := err_span g.k hp.2.2.1
  unfold riseS
  rw [cuts_at (by omega), cuts_at (by omega)]
  unfold ct
  generalize cutS kind (hs.getD r.1.toNat default - base) u v = a at *
  generalize cutS kind (hs.getD r.2.toNat default - base) u v = b at *
  generalize hs.getD r.1.toNat default = x at *
  generalize hs.getD r.2.toNat default = y at *
  have e1 : v * (b - a) = v * b - v * a := Int.mul_sub _ _ _
  have e2 : u * (y - x) = (y - base) * u - (x - base) * u := by rw [← Int.sub_mul, Int.mul_comm]; congr 1; omega
  rw [e1, e2]; omega
/-- A road that rises is false by at most so much. -/
def mostS (u v rise : Int) : Int := if u * max rise (-rise) > 0 then (1000 * (v - 1) + u * max rise (-rise) - 1) / (u * max rise (-rise)) else 0
theorem off_bd (g : Good kind base most hs rs) (hp : Parts u v) {r : Int × Int} (hr : 0 ≤ r.1 ∧ r.1 < hs.length ∧ 0 ≤ r.2 ∧ r.2 < hs.length) :
    0 ≤ offS u v (riseS hs r) (riseS (cuts kind base u v hs) r) ∧ offS u v (riseS hs r) (riseS (cuts kind base u v hs) r) ≤ mostS u v (riseS hs r) := by
  have he := rise_err g hp hr
  unfold offS mostS
  by_cases h0 : riseS hs r = 0
  · rw [if_pos h0, h0]
    simp
  · rw [if_neg h0]
    have hpos : 0 < u * max (riseS hs r) (-(riseS hs r)) := Int.mul_pos (by omega) (by omega)
    rw [if_pos hpos]
    generalize v * riseS (cuts kind base u v hs) r - u * riseS hs r = n at *
    generalize u * max (riseS hs r) (-(riseS hs r)) = m at *
    exact ⟨Int.ediv_nonneg (by omega) (by omega), Int.ediv_le_ediv hpos (by omega)⟩
theorem ask_ok (g : Good kind base most hs rs) (h : scE u v = 0) : askE kind base most hs rs u v = 0 := by rw [askE_good g]; exact h
theorem cutsR_ok (g : Good kind base most hs rs) (h : scE u v = 0) : cutsR kind base most hs rs u v = cuts kind base u v hs := by unfold cutsR; rw [if_pos (ask_ok g h)]
theorem offsR_ok (g : Good kind base most hs rs) (h : scE u v = 0) : offsR kind base most hs rs u v = offs u v hs (cuts kind base u v hs) rs := by unfold offsR; rw [if_pos (ask_ok g h)]
theorem flatsR_ok (g : Good kind base most hs rs) (h : scE u v = 0) : flatsR kind base most hs rs u v = flats hs (cuts kind base u v hs) rs := by unfold flatsR; rw [if_pos (ask_ok g h)]
theorem offs_len : (offs u v hs (cuts kind base u v hs) rs).length = rs.length := by simp [offs]
theorem offs_at {j : Nat} (h : j < rs.length) : (offs u v hs (cuts kind base u v hs) rs).getD j default = offS u v (riseS hs (rs.getD j default)) (riseS (cuts kind base u v hs) (rs.getD j default)) := by
  unfold offs; exact getD_map _ _ h
theorem ask_bad (h : ¬ (chk kind base most hs rs).2.2 = 0) : askE kind base most hs rs u v = (chk kind base most hs rs).2.2 := askE_bad h
theorem cutsR_bad (h : ¬ (chk kind base most hs rs).2.2 = 0) : cutsR kind base most hs rs u v = [] := by unfold cutsR; rw [ask_bad h, if_neg h]
theorem offsR_bad (h : ¬ (chk kind base most hs rs).2.2 = 0) : offsR kind base most hs rs u v = [] := by unfold offsR; rw [ask_bad h, if_neg h]
theorem flatsR_bad (h : ¬ (chk kind base most hs rs).2.2 = 0) : flatsR kind base most hs rs u v = [] := by unfold flatsR; rw [ask_bad h, if_neg h]
/-! Greatest -/
variable {limit : Int}
theorem grt_bad (h : ¬ (chk kind base most hs rs).2.2 = 0) : grtR kind base most hs rs limit = ((0, 0), (chk kind base most hs rs).2.2) := by unfold grtR; rw [if_pos h]
theorem lst_bad (h : ¬ (chk kind base most hs rs).2.2 = 0) : lstR kind base most hs rs = ((0, 0), (chk kind base most hs rs).2.2) := by unfold lstR; rw [if_pos h]
theorem okR_spec (h0 : 0 ≤ limit) {x : Int × Int} : okG kind base most hs rs limit x = true ↔ fitP kind base most hs x = true ∧ worstS x.1 x.2 hs (cuts kind base x.1 x.2 hs) rs ≤ limit := by
  rw [ok_gr h0]; unfold okR fitP; simp
theorem okQ_spec {x : Int × Int} : okL kind base most hs rs x = true ↔ fitP kind base most hs x = true ∧ (flats hs (cuts kind base x.1 x.2 hs) rs).length = 0 := by
  unfold okL; simp
/-- What Greatest comes to in a good case. -/
theorem grt_good (g : Good kind base most hs rs) (h0 : 0 ≤ limit) (h1 : limit ≤ 1000000) :
    (grtR kind base most hs rs limit = ((0, 0), 9) ∧ ∀ x, scE x.1 x.2 = 0 → fitP kind base most hs x = true → worstS x.1 x.2 hs (cuts kind base x.1 x.2 hs) rs > limit) ∨
    (∃ s, grtR kind base most hs rs limit = (s, 0) ∧ scE s.1 s.2 = 0 ∧ fitP kind base most hs s = true ∧ worstS s.1 s.2 hs (cuts kind base s.1 s.2 hs) rs ≤ limit ∧
      ∀ x, scE x.1 x.2 = 0 → ltS s x → fitP kind base most hs x = true → worstS x.1 x.2 hs (cuts kind base x.1 x.2 hs) rs > limit) := by
  have hc : ¬ (chk kind base most hs rs).2.2 ≠ 0 := by rw [g.chk]; simp
  rcases @last_spec (okG kind base most hs rs limit) with ⟨hl, hn⟩ | ⟨hm, hok, hne, hall⟩
  · refine .inl ⟨?_, fun x hx hf => ?_⟩
    · unfold grtR; rw [if_neg hc, if_neg (by omega), if_pos hl]
    · have h2 := hn x (in_sb hx)
      rcases Int.lt_or_le limit (worstS x.1 x.2 hs (cuts kind base x.1 x.2 hs) rs) with h3 | h3
      · exact h3
      · rw [(okR_spec h0).2 ⟨hf, h3⟩] at h2; cases h2
  · refine .inr ⟨lastG (okG kind base most hs rs limit) SB, ?_, sb_sc hm, ((okR_spec h0).1 hok).1, ((okR_spec h0).1 hok).2, fun x hx hlt hf => ?_⟩
    · unfold grtR; rw [if_neg hc, if_neg (by omega), if_neg hne]
    · rcases Int.lt_or_le limit (worstS x.1 x.2 hs (cuts kind base x.1 x.2 hs) rs) with h3 | h3
      · exact h3
      · exfalso
        rcases hall x (in_sb hx) ((okR_spec h0).2 ⟨hf, h3⟩) with h4 | h4
        · rw [← h4] at hlt; unfold ltS at hlt; omega
        · exact lt_asym hlt h4
/-- What Least comes to in a good case. -/
theorem lst_good (g : Good kind base most hs rs) :
    (lstR kind base most hs rs = ((0, 0), 9) ∧ ∀ x, scE x.1 x.2 = 0 → fitP kind base most hs x = true → (flats hs (cuts kind base x.1 x.2 hs) rs).length > 0) ∨
    (∃ s, lstR kind base most hs rs = (s, 0) ∧ scE s.1 s.2 = 0 ∧ fitP kind base most hs s = true ∧ (flats hs (cuts kind base s.1 s.2 hs) rs).length = 0 ∧
      ∀ x, scE x.1 x.2 = 0 → ltS x s → fitP kind base most hs x = true → (flats hs (cuts kind base x.1 x.2 hs) rs).length > 0) := by
  have hc : ¬ (chk kind base most hs rs).2.2 ≠ 0 := by rw [g.chk]; simp
  rcases @frst_spec (okL kind base most hs rs) with ⟨hl, hn⟩ | ⟨hm, hok, hne, hall⟩
  · refine .inl ⟨?_, fun x hx hf => ?_⟩
    · unfold lstR; rw [if_neg hc, if_pos hl]
    · have h2 := hn x (in_sb hx)
      rcases Nat.eq_zero_or_pos (flats hs (cuts kind base x.1 x.2 hs) rs).length with h3 | h3
      · rw [okQ_spec.2 ⟨hf, h3⟩] at h2; cases h2
      · exact h3
  · refine .inr ⟨frstG (okL kind base most hs rs) SB, ?_, sb_sc hm, (okQ_spec.1 hok).1, (okQ_spec.1 hok).2, fun x hx hlt hf => ?_⟩
    · unfold lstR; rw [if_neg hc, if_neg hne]
    · rcases Nat.eq_zero_or_pos (flats hs (cuts kind base x.1 x.2 hs) rs).length with h3 | h3
      · exfalso
        rcases hall x (in_sb hx) (okQ_spec.2 ⟨hf, h3⟩) with h4 | h4
        · rw [← h4] at hlt; unfold ltS at hlt; omega
        · exact lt_asym hlt h4
      · exact h3
end
end Go.Proofs.Ytafkbioeoklldaa

/-
  The reference's list of scales, filled in order, is the program's.
  No conditions: no program is in sight.
-/
namespace Go.Proofs.Ytafkbioeoklldaa
open Go
/-- Where a scale goes into a list. -/
def insAt (out : List (Int × Int)) (x : Int × Int) : Nat := (out.takeWhile fun y => lessP y x).length
def insS (out : List (Int × Int)) (x : Int × Int) : List (Int × Int) := out.take (insAt out x) ++ [x] ++ out.drop (insAt out x)
/-- The reference's list so far. -/
def refS (ok : Int × Int → Bool) : Nat → List (Int × Int)
  | 0 => []
  | i + 1 => if ok (EV.getD i default) then insS (refS ok i) (EV.getD i default) else refS ok i
theorem refS_t {ok : Int × Int → Bool} {i : Nat} (h : ok (EV.getD i default) = true) : refS ok (i + 1) = insS (refS ok i) (EV.getD i default) := by rw [refS, if_pos h]
theorem refS_f {ok : Int × Int → Bool} {i : Nat} (h : ok (EV.getD i default) = false) : refS ok (i + 1) = refS ok i := by rw [refS, h]; rfl
theorem insAt_le {out : List (Int × Int)} {x : Int × Int} : insAt out x ≤ out.length := (List.takeWhile_sublist _).length_le
theorem insS_len {out : List (Int × Int)} {x : Int × Int} : (insS out x).length = out.length + 1 := by
  have := @insAt_le out x
  unfold insS; simp; omega
theorem refS_len {ok : Int × Int → Bool} : ∀ i, (refS ok i).length ≤ i
  | 0 => Nat.le_refl _
  | i + 1 => by
    have := @refS_len ok i
    rw [refS]; split
    · rw [insS_len]; omega
    · omega
theorem insAt_stop {out : List (Int × Int)} {x : Int × Int} {k : Nat} (hk : k ≤ out.length) (hall : ∀ j, j < k → lessP (out.getD j default) x = true) (hs : k = out.length ∨ lessP (out.getD k default) x = false) : k = insAt out x := by
  unfold insAt
  induction out generalizing k with
  | nil => simp at hk; simp [hk]
  | cons y ys ih =>
    rw [List.takeWhile_cons]
    cases k with
    | zero =>
      rcases hs with hs | hs
      · simp at hs
      · have h1 : lessP y x = false := hs
        rw [if_neg (by rw [h1]; decide)]; rfl
    | succ k =>
      have h1 : lessP y x = true := hall 0 (by omega)
      rw [if_pos h1, List.length_cons]
      congr 1
      refine ih (by simpa using hk) (fun j hj => by have := hall (j + 1) (by omega); simpa using this) ?_
      rcases hs with hs | hs
      · left; simpa using hs
      · right; simpa using hs
theorem mem_insS {out : List (Int × Int)} {x y : Int × Int} : y ∈ insS out x ↔ y = x ∨ y ∈ out := by
  unfold insS
  have : y ∈ out ↔ y ∈ out.take (insAt out x) ∨ y ∈ out.drop (insAt out x) := by
    rw [← List.mem_append, List.take_append_drop]
  rw [this]
  simp only [List.mem_append, List.mem_singleton]
  constructor
  · rintro ((h | h) | h)
    · exact .inr (.inl h)
    · exact .inl h
    · exact .inr (.inr h)
  · rintro (h | h | h)
    · exact .inl (.inr h)
    · exact .inl (.inl h)
    · exact .inr h
theorem ins_sorted {out : List (Int × Int)} {x : Int × Int} (hs : out.Pairwise ltS) (hin : ∀ y ∈ out, 0 < y.2) (hx : 0 < x.2) (htot : ∀ y ∈ out, ltS y x ∨ ltS x y) : (insS out x).Pairwise ltS := by
  have key : ∀ {out : List (Int × Int)}, out.Pairwise ltS → (∀ y ∈ out, 0 < y.2) → (∀ y ∈ out, ltS y x ∨ ltS x y) → (insS out x).Pairwise ltS := by
    intro out
    induction out with
    | nil => intro _ _ _; simp [insS]
    | cons y ys ih =>
      intro h1 h2 h3
      have ht := List.pairwise_cons.1 h1
      have hd : insS (y :: ys) x = if lessP y x then y :: insS ys x else x :: y :: ys := by
        unfold insS insAt
        rw [List.takeWhile_cons]
        split <;> simp
      rw [hd]
      split
      · rename_i h
        have hyx : ltS y x := by simpa [lessP] using h
        refine .cons (fun z hz => ?_) (ih ht.2 (fun z hz => h2 z (by simp [hz])) (fun z hz => h3 z (by simp [hz])))
        rcases mem_insS.1 hz with rfl | hz
        · exact hyx
        · exact ht.1 z hz
      · rename_i h
        have hxy : ltS x y := (h3 y (by simp)).resolve_left (fun h4 => h (by simpa [lessP] using h4))
        refine .cons (fun z hz => ?_) h1
        rcases List.mem_cons.1 hz with rfl | hz
        · exact hxy
        · exact ltS_trans hx (h2 y (by simp)) (h2 z (by simp [hz])) hxy (ht.1 z hz)
  exact key hs hin htot
/-- Two lists in order with the same members are the same. -/
theorem sorted_eq : ∀ {xs ys : List (Int × Int)}, xs.Pairwise ltS → ys.Pairwise ltS → (∀ x, x ∈ xs ↔ x ∈ ys) → xs = ys
  | [], [], _, _, _ => rfl
  | [], y :: ys, _, _, h => absurd ((h y).2 (by simp)) (by simp)
  | x :: xs, [], _, _, h => absurd ((h x).1 (by simp)) (by simp)
  | x :: xs, y :: ys, hx, hy, h => by
    have h1 := List.pairwise_cons.1 hx
    have h2 := List.pairwise_cons.1 hy
    have e : x = y := by
      rcases List.mem_cons.1 ((h x).1 (by simp)) with h3 | h3
      · exact h3
      · rcases List.mem_cons.1 ((h y).2 (by simp)) with h4 | h4
        · exact h4.symm
        · exact absurd (h2.1 x h3) (lt_asym (h1.1 y h4))
    subst e
    rw [sorted_eq h1.2 h2.2 (fun z => ?_)]
    have irr : ∀ {l : List (Int × Int)}, (∀ a ∈ l, ltS x a) → x ∉ l := fun hl hm => by have := hl x hm; unfold ltS at this; omega
    constructor
    · intro hz
      rcases List.mem_cons.1 ((h z).1 (by simp [hz])) with h3 | h3
      · subst h3; exact absurd hz (irr h1.1)
      · exact h3
    · intro hz
      rcases List.mem_cons.1 ((h z).2 (by simp [hz])) with h3 | h3
      · subst h3; exact absurd hz (irr h2.1)
      · exact h3
/-- Any two different scales are in order. -/
theorem sb_tot {x y : Int × Int} (hx : x ∈ SB) (hy : y ∈ SB) (hne : x ≠ y) : ltS x y ∨ ltS y x := by
  obtain ⟨i, hi, rfl⟩ := List.getElem_of_mem hx
  obtain ⟨j, hj, rfl⟩ := List.getElem_of_mem hy
  have hp := List.pairwise_iff_getElem.1 sb_pw
  rcases Nat.lt_trichotomy i j with h | h | h
  · exact .inl (hp i j hi hj h)
  · subst h; exact absurd rfl hne
  · exact .inr (hp j i hj hi h)
/-- The reference's scales are all different. -/
def lexB : List (Int × Int) → Bool
  | [] => true
  | a :: l => (match l with | [] => true | b :: _ => decide (31 * a.1 + a.2 < 31 * b.1 + b.2)) && lexB l
theorem lex_pw : ∀ {l : List (Int × Int)}, lexB l = true → l.Pairwise fun a b => 31 * a.1 + a.2 < 31 * b.1 + b.2
  | [], _ => .nil
  | [a], _ => by simp
  | a :: b :: l, h => by
    simp only [lexB, Bool.and_eq_true, decide_eq_true_eq] at h
    have ih := lex_pw (l := b :: l) (by simp only [lexB, Bool.and_eq_true]; exact h.2)
    refine .cons (fun x hx => ?_) ih
    rcases List.mem_cons.1 hx with rfl | hx
    · exact h.1
    · exact Int.lt_trans h.1 (List.rel_of_pairwise_cons ih hx)
theorem ev_lex : EV.Pairwise fun a b => 31 * a.1 + a.2 < 31 * b.1 + b.2 := lex_pw (by decide +kernel)
theorem ev_ne {i j : Nat} (hi : i < j) (hj : j < EV.length) : EV.getD i default ≠ EV.getD j default := fun h => by
  have := List.pairwise_iff_getElem.1 ev_lex i j (by omega) hj hi
  rw [List.getD_eq_getElem?_getD, List.getD_eq_getElem?_getD, List.getElem?_eq_getElem (by omega), List.getElem?_eq_getElem hj] at h
  simp only [Option.getD_some] at h
  rw [h] at this; omega
theorem refS_spec {ok : Int × Int → Bool} : ∀ {i : Nat}, i ≤ EV.length → (refS ok i).Pairwise ltS ∧ ∀ x, x ∈ refS ok i ↔ ok x = true ∧ ∃ j, j < i ∧ x = EV.getD j default
  | 0, _ => ⟨.nil, fun x => by simp [refS]⟩
  | i + 1, hi => by
    obtain ⟨h1, h2⟩ := refS_spec (ok := ok) (i := i) (by omega)
    have hm : EV.getD i default ∈ SB := ev_sb.1 (K.gt_mem (by omega))
    rw [refS]
    split
    · rename_i hok
      refine ⟨ins_sorted h1 (fun y hy => ?_) ?_ (fun y hy => ?_), fun x => ?_⟩
      · obtain ⟨_, j, hj, rfl⟩ := (h2 y).1 hy
        exact ev_pos (K.gt_mem (by omega))
      · exact ev_pos (K.gt_mem (by omega))
      · obtain ⟨_, j, hj, rfl⟩ := (h2 y).1 hy
        exact sb_tot (ev_sb.1 (K.gt_mem (by omega))) hm (ev_ne hj (by omega))
      · rw [mem_insS, h2]
        constructor
        · rintro (rfl | ⟨h3, j, hj, rfl⟩)
          · exact ⟨hok, i, by omega, rfl⟩
          · exact ⟨h3, j, by omega, rfl⟩
        · rintro ⟨h3, j, hj, rfl⟩
          rcases Nat.lt_or_ge j i with h4 | h4
          · exact .inr ⟨h3, j, h4, rfl⟩
          · have : j = i := by omega
            subst this; exact .inl rfl
    · rename_i hok
      refine ⟨h1, fun x => ?_⟩
      rw [h2]
      constructor
      · rintro ⟨h3, j, hj, rfl⟩; exact ⟨h3, j, by omega, rfl⟩
      · rintro ⟨h3, j, hj, rfl⟩
        rcases Nat.lt_or_ge j i with h4 | h4
        · exact ⟨h3, j, h4, rfl⟩
        · have : j = i := by omega
          subst this; exact absurd h3 hok
theorem refS_mem {ok : Int × Int → Bool} {i : Nat} (hi : i ≤ EV.length) {x : Int × Int} (h : x ∈ refS ok i) : x ∈ EV := by
  obtain ⟨_, j, hj, rfl⟩ := (refS_spec hi).2 x |>.1 h
  exact K.gt_mem (by omega)
theorem ref_sb {ok ok' : Int × Int → Bool} (h : ∀ x ∈ SB, ok x = ok' x) : refS ok EV.length = SB.filter ok' := by
  obtain ⟨h1, h2⟩ := refS_spec (ok := ok) (Nat.le_refl _)
  refine sorted_eq h1 (List.Pairwise.sublist List.filter_sublist sb_pw) (fun x => ?_)
  rw [h2, List.mem_filter]
  constructor
  · rintro ⟨h3, j, hj, rfl⟩
    have hm : EV.getD j default ∈ SB := ev_sb.1 (K.gt_mem hj)
    exact ⟨hm, by rw [← h _ hm]; exact h3⟩
  · rintro ⟨hm, h3⟩
    obtain ⟨j, hj, he⟩ := List.getElem_of_mem (ev_sb.2 hm)
    exact ⟨by rw [h x hm]; exact h3, j, hj, by rw [List.getD_eq_getElem?_getD, List.getElem?_eq_getElem hj, he]; rfl⟩
end Go.Proofs.Ytafkbioeoklldaa

/-
  Cuts by kinds, and cases that differ a little.
  No conditions: no program is in sight.
-/
namespace Go.Proofs.Ytafkbioeoklldaa
open Go
theorem cut_k {h a b : Int} (hb : 1 ≤ b) : cutS 1 h a b ≤ cutS 2 h a b ∧ cutS 2 h a b ≤ cutS 3 h a b ∧ cutS 3 h a b ≤ cutS 1 h a b + 1 := by
  unfold cutS
  generalize h * a / b = q
  generalize h * a % b = r
  rw [if_neg (show ¬ ((1 : Int) = 3 ∧ 0 < r ∨ (1 : Int) = 2 ∧ b ≤ 2 * r) by omega)]
  refine ⟨?_, ?_, ?_⟩ <;> split <;> (try split) <;> omega
theorem Good.kind {kind base most : Int} {hs : List Int} {rs : List (Int × Int)} (g : Good kind base most hs rs) {k : Int} (hk : 1 ≤ k ∧ k ≤ 3) : Good k base most hs rs := ⟨hk, g.b, g.m, g.n, g.r, g.h, g.rd⟩
section
variable {kind base most : Int} {hs : List Int} {rs : List (Int × Int)} {u v u2 v2 : Int} {k m : Nat}
theorem cutsR_at (g : Good kind base most hs rs) (h : scE u v = 0) (hk : k < hs.length) : (cutsR kind base most hs rs u v).getD k default = ct kind base u v (hs.getD k default) := by rw [cutsR_ok g h]; exact cuts_at hk
theorem cutsR_ln (g : Good kind base most hs rs) (h : scE u v = 0) : (cutsR kind base most hs rs u v).length = hs.length := by rw [cutsR_ok g h, cuts_len]
theorem hi_0 (g : Good kind base most hs rs) (h : scE u v = 0) (hk : k < hs.length) : ¬ (cutsR kind base most hs rs u v).getD k default < 0 := by
  rw [cutsR_at g h hk]
  have := g.at hk
  have := g.b
  have := cutS_bd (kind := kind) (h := hs.getD k default - base) (by omega) (by omega) (scE_parts h)
  unfold ct; omega
theorem hi_less (g : Good kind base most hs rs) (h : scE u v = 0) (h2 : scE u2 v2 = 0) (hl : u * v2 < u2 * v) (hk : k < hs.length) : ¬ (cutsR kind base most hs rs u v).getD k default > (cutsR kind base most hs rs u2 v2).getD k default := by
  have hp := scE_parts h
  have hp2 := scE_parts h2
  have := g.at hk
  rw [cutsR_at g h hk, cutsR_at g h2 hk]
  have := cut_mono (kind := kind) (h := hs.getD k default - base) (h' := hs.getD k default - base) (a := u) (b := v) (c := u2) (d := v2) g.k (by omega) (Int.le_refl _) (by omega) (by omega) (by omega) (Int.le_of_lt hl)
  unfold ct; omega
theorem hi_kind (g : Good kind base most hs rs) (h : scE u v = 0) (hk : k < hs.length) :
    ¬ (cutsR 1 base most hs rs u v).getD k default > (cutsR 2 base most hs rs u v).getD k default ∧ ¬ (cutsR 2 base most hs rs u v).getD k default > (cutsR 3 base most hs rs u v).getD k default ∧
    ¬ (cutsR 3 base most hs rs u v).getD k default > (cutsR 1 base most hs rs u v).getD k default + 1 ∧ (cutsR 1 base most hs rs u v).getD k default ≤ 270001 ∧ 0 ≤ (cutsR 1 base most hs rs u v).getD k default := by
  have hp := scE_parts h
  have h0 := g.at hk
  have h1 := g.b
  have hb := cutS_bd (kind := 1) (h := hs.getD k default - base) (by omega) (by omega) (scE_parts h)
  rw [cutsR_at (g.kind (k := 1) (by omega)) h hk, cutsR_at (g.kind (k := 2) (by omega)) h hk, cutsR_at (g.kind (k := 3) (by omega)) h hk]
  have := cut_k (h := hs.getD k default - base) (a := u) (b := v) (by omega)
  unfold ct; omega
theorem hi_pt (g : Good kind base most hs rs) (h : scE u v = 0) (hk : k < hs.length) (hm : m < hs.length) (hle : hs.getD k default ≤ hs.getD m default) : ¬ (cutsR kind base most hs rs u v).getD k default > (cutsR kind base most hs rs u v).getD m default := by
  have hp := scE_parts h
  have h0 := g.at hk
  rw [cutsR_at g h hk, cutsR_at g h hm]
  have := cut_mono (kind := kind) (h := hs.getD k default - base) (h' := hs.getD m default - base) (a := u) (b := v) (c := u) (d := v) g.k (by omega) (by omega) (by omega) (by omega) (by omega) (Int.le_refl _)
  unfold ct; omega
end
end Go.Proofs.Ytafkbioeoklldaa
