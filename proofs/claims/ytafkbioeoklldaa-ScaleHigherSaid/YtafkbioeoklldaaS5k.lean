/-
  What the outright statements on scales come to.
  No conditions: no program is in sight.
-/
import Derived.Test.YtafkbioeoklldaaS5i
import Derived.Test.YtafkbioeoklldaaS5f
set_option linter.unusedSimpArgs false
set_option linter.unusedVariables false
namespace Go.Proofs.Ytafkbioeoklldaa
open Go
theorem in_sb_all : (List.range 30).all (fun a => (List.range 30).all fun b => decide (scE ((a : Nat) + 1) ((b : Nat) + 1) ≠ 0) || decide ((((a : Nat) : Int) + 1, ((b : Nat) : Int) + 1) ∈ SB)) = true := by decide +kernel
theorem in_sb {u v : Int} (h : scE u v = 0) : (u, v) ∈ SB := by
  have hp := scE_parts h
  have h1 := List.all_eq_true.1 (List.all_eq_true.1 in_sb_all (u - 1).toNat (List.mem_range.2 (by omega))) (v - 1).toNat (List.mem_range.2 (by omega))
  have e1 : (((u - 1).toNat : Nat) : Int) + 1 = u := by omega
  have e2 : (((v - 1).toNat : Nat) : Int) + 1 = v := by omega
  simp only [e1, e2, h, ne_eq, not_true_eq_false, decide_false, Bool.false_or, decide_eq_true_eq] at h1
  exact h1
theorem sb_sc_all : SB.all (fun x => decide (scE x.1 x.2 = 0)) = true := by decide +kernel
theorem sb_sc {x : Int × Int} (h : x ∈ SB) : scE x.1 x.2 = 0 := by
  have := List.all_eq_true.1 sb_sc_all x h
  simpa using this
/-- How far a cut is off, and between which numbers. -/
def errLo (kind v : Int) : Int := if kind = 1 then -(v - 1) else if kind = 2 then -((v - 1) / 2) else 0
def errHi (kind v : Int) : Int := if kind = 1 then 0 else if kind = 2 then v / 2 else v - 1
theorem cut_err {kind h u v : Int} (hk : 1 ≤ kind ∧ kind ≤ 3) (hv : 1 ≤ v) : errLo kind v ≤ v * cutS kind h u v - h * u ∧ v * cutS kind h u v - h * u ≤ errHi kind v := by
  unfold errLo errHi cutS
  generalize h * u = n
  have hd := Int.mul_ediv_add_emod n v
  have h0 := Int.emod_nonneg n (show v ≠ 0 by omega)
  have h1 := Int.emod_lt_of_pos n (show 0 < v by omega)
  generalize n / v = q at *
  generalize n % v = r at *
  have e : v * (q + 1) = v * q + v := by rw [Int.mul_add, Int.mul_one]
  rcases (show kind = 1 ∨ kind = 2 ∨ kind = 3 by omega) with hk1 | hk1 | hk1 <;> subst hk1
  · rw [if_pos rfl, if_pos rfl, if_neg (show ¬ ((1 : Int) = 3 ∧ 0 < r ∨ (1 : Int) = 2 ∧ v ≤ 2 * r) by omega), Int.add_zero]; omega
  · rw [if_neg (show ¬ (2 : Int) = 1 by omega), if_pos rfl, if_neg (show ¬ (2 : Int) = 1 by omega), if_pos rfl]
    by_cases hc : v ≤ 2 * r
    · rw [if_pos (show (2 : Int) = 3 ∧ 0 < r ∨ (2 : Int) = 2 ∧ v ≤ 2 * r by omega), e]; omega
    · rw [if_neg (show ¬ ((2 : Int) = 3 ∧ 0 < r ∨ (2 : Int) = 2 ∧ v ≤ 2 * r) by omega), Int.add_zero]; omega
  · rw [if_neg (show ¬ (3 : Int) = 1 by omega), if_neg (show ¬ (3 : Int) = 2 by omega), if_neg (show ¬ (3 : Int) = 1 by omega), if_neg (show ¬ (3 : Int) = 2 by omega)]
    by_cases hc : 0 < r
    · rw [if_pos (show (3 : Int) = 3 ∧ 0 < r ∨ (3 : Int) = 2 ∧ v ≤ 2 * r by omega), e]; omega
    · rw [if_neg (show ¬ ((3 : Int) = 3 ∧ 0 < r ∨ (3 : Int) = 2 ∧ v ≤ 2 * r) by omega), Int.add_zero]; omega
theorem err_span {kind v : Int} (hk : 1 ≤ kind ∧ kind ≤ 3) (hv : 1 ≤ v) : errHi kind v - errLo kind v = v - 1 := by
  unfold errLo errHi
  rcases (show kind = 1 ∨ kind = 2 ∨ kind = 3 by omega) with hk1 | hk1 | hk1
  · rw [if_pos hk1, if_pos hk1]; omega
  · rw [if_neg (by omega), if_pos hk1, if_neg (by omega), if_pos hk1]; omega
  · rw [if_neg (by omega), if_neg (by omega), if_neg (by omega), if_neg (by omega)]; omega
section
variable {kind base most : Int} {hs : List Int} {rs : List (Int × Int)} {u v : Int}
/-- By how much a road on the model is off, at most. -/
theorem rise_err (g : Good kind base most hs rs) (hp : Parts u v) {r : Int × Int} (hr : 0 ≤ r.1 ∧ r.1 < hs.length ∧ 0 ≤ r.2 ∧ r.2 < hs.length) :
    -(v - 1) ≤ v * riseS (cuts kind base u v hs) r - u * riseS hs r ∧ v * riseS (cuts kind base u v hs) r - u * riseS hs r ≤ v - 1 := by
  have h1 := cut_err (h := hs.getD r.1.toNat default - base) (u := u) g.k hp.2.2.1
  have h2 := cut_err (h := hs.getD r.2.toNat default - base) (u := u) g.k hp.2.2.1
  have h3 := err_span g.k hp.2.2.1
  unfold riseS
  rw [cuts_at (by omega), cuts_at (by omega)]
  unfold ct
  generalize cutS kind (hs.getD r.1.toNat default - base) u v = a at *
  generalize cutS kind (hs.getD r.2.toNat default - base) u v = b at *
  generalize hs.getD r.1.toNat default = x at *
  generalize hs.getD r.2.toNat default = y at *
  have e1 : v * (b - a) = v * b - v * a := Int.mul_sub _ _ _
  have e2 : u * (y - x) = (y - base) * u - (x - base) * u := by rw [← Int.sub_mul, Int.mul_comm]; congr 1; omega
  rw [e1, e2]; omega
/-- A road that rises is false by at most so much. -/
def mostS (u v rise : Int) : Int := if u * max rise (-rise) > 0 then (1000 * (v - 1) + u * max rise (-rise) - 1) / (u * max rise (-rise)) else 0
theorem off_bd (g : Good kind base most hs rs) (hp : Parts u v) {r : Int × Int} (hr : 0 ≤ r.1 ∧ r.1 < hs.length ∧ 0 ≤ r.2 ∧ r.2 < hs.length) :
    0 ≤ offS u v (riseS hs r) (riseS (cuts kind base u v hs) r) ∧ offS u v (riseS hs r) (riseS (cuts kind base u v hs) r) ≤ mostS u v (riseS hs r) := by
  have he := rise_err g hp hr
  unfold offS mostS
  by_cases h0 : riseS hs r = 0
  · rw [if_pos h0, h0]
    simp
  · rw [if_neg h0]
    have hpos : 0 < u * max (riseS hs r) (-(riseS hs r)) := Int.mul_pos (by omega) (by omega)
    rw [if_pos hpos]
    generalize v * riseS (cuts kind base u v hs) r - u * riseS hs r = n at *
    generalize u * max (riseS hs r) (-(riseS hs r)) = m at *
    exact ⟨Int.ediv_nonneg (by omega) (by omega), Int.ediv_le_ediv hpos (by omega)⟩
theorem ask_ok (g : Good kind base most hs rs) (h : scE u v = 0) : askE kind base most hs rs u v = 0 := by rw [askE_good g]; exact h
theorem cutsR_ok (g : Good kind base most hs rs) (h : scE u v = 0) : cutsR kind base most hs rs u v = cuts kind base u v hs := by unfold cutsR; rw [if_pos (ask_ok g h)]
theorem offsR_ok (g : Good kind base most hs rs) (h : scE u v = 0) : offsR kind base most hs rs u v = offs u v hs (cuts kind base u v hs) rs := by unfold offsR; rw [if_pos (ask_ok g h)]
theorem flatsR_ok (g : Good kind base most hs rs) (h : scE u v = 0) : flatsR kind base most hs rs u v = flats hs (cuts kind base u v hs) rs := by unfold flatsR; rw [if_pos (ask_ok g h)]
theorem offs_len : (offs u v hs (cuts kind base u v hs) rs).length = rs.length := by simp [offs]
theorem offs_at {j : Nat} (h : j < rs.length) : (offs u v hs (cuts kind base u v hs) rs).getD j default = offS u v (riseS hs (rs.getD j default)) (riseS (cuts kind base u v hs) (rs.getD j default)) := by
  unfold offs; exact getD_map _ _ h
theorem ask_bad (h : ¬ (chk kind base most hs rs).2.2 = 0) : askE kind base most hs rs u v = (chk kind base most hs rs).2.2 := askE_bad h
theorem cutsR_bad (h : ¬ (chk kind base most hs rs).2.2 = 0) : cutsR kind base most hs rs u v = [] := by unfold cutsR; rw [ask_bad h, if_neg h]
theorem offsR_bad (h : ¬ (chk kind base most hs rs).2.2 = 0) : offsR kind base most hs rs u v = [] := by unfold offsR; rw [ask_bad h, if_neg h]
theorem flatsR_bad (h : ¬ (chk kind base most hs rs).2.2 = 0) : flatsR kind base most hs rs u v = [] := by unfold flatsR; rw [ask_bad h, if_neg h]
/-! Greatest -/
variable {limit : Int}
theorem grt_bad (h : ¬ (chk kind base most hs rs).2.2 = 0) : grtR kind base most hs rs limit = ((0, 0), (chk kind base most hs rs).2.2) := by unfold grtR; rw [if_pos h]
theorem lst_bad (h : ¬ (chk kind base most hs rs).2.2 = 0) : lstR kind base most hs rs = ((0, 0), (chk kind base most hs rs).2.2) := by unfold lstR; rw [if_pos h]
theorem okR_spec (h0 : 0 ≤ limit) {x : Int × Int} : okG kind base most hs rs limit x = true ↔ fitP kind base most hs x = true ∧ worstS x.1 x.2 hs (cuts kind base x.1 x.2 hs) rs ≤ limit := by
  rw [ok_gr h0]; unfold okR fitP; simp
theorem okQ_spec {x : Int × Int} : okL kind base most hs rs x = true ↔ fitP kind base most hs x = true ∧ (flats hs (cuts kind base x.1 x.2 hs) rs).length = 0 := by
  unfold okL; simp
/-- What Greatest comes to in a good case. -/
theorem grt_good (g : Good kind base most hs rs) (h0 : 0 ≤ limit) (h1 : limit ≤ 1000000) :
    (grtR kind base most hs rs limit = ((0, 0), 9) ∧ ∀ x, scE x.1 x.2 = 0 → fitP kind base most hs x = true → worstS x.1 x.2 hs (cuts kind base x.1 x.2 hs) rs > limit) ∨
    (∃ s, grtR kind base most hs rs limit = (s, 0) ∧ scE s.1 s.2 = 0 ∧ fitP kind base most hs s = true ∧ worstS s.1 s.2 hs (cuts kind base s.1 s.2 hs) rs ≤ limit ∧
      ∀ x, scE x.1 x.2 = 0 → ltS s x → fitP kind base most hs x = true → worstS x.1 x.2 hs (cuts kind base x.1 x.2 hs) rs > limit) := by
  have hc : ¬ (chk kind base most hs rs).2.2 ≠ 0 := by rw [g.chk]; simp
  rcases @last_spec (okG kind base most hs rs limit) with ⟨hl, hn⟩ | ⟨hm, hok, hne, hall⟩
  · refine .inl ⟨?_, fun x hx hf => ?_⟩
    · unfold grtR; rw [if_neg hc, if_neg (by omega), if_pos hl]
    · have h2 := hn x (in_sb hx)
      rcases Int.lt_or_le limit (worstS x.1 x.2 hs (cuts kind base x.1 x.2 hs) rs) with h3 | h3
      · exact h3
      · rw [(okR_spec h0).2 ⟨hf, h3⟩] at h2; cases h2
  · refine .inr ⟨lastG (okG kind base most hs rs limit) SB, ?_, sb_sc hm, ((okR_spec h0).1 hok).1, ((okR_spec h0).1 hok).2, fun x hx hlt hf => ?_⟩
    · unfold grtR; rw [if_neg hc, if_neg (by omega), if_neg hne]
    · rcases Int.lt_or_le limit (worstS x.1 x.2 hs (cuts kind base x.1 x.2 hs) rs) with h3 | h3
      · exact h3
      · exfalso
        rcases hall x (in_sb hx) ((okR_spec h0).2 ⟨hf, h3⟩) with h4 | h4
        · rw [← h4] at hlt; unfold ltS at hlt; omega
        · exact lt_asym hlt h4
/-- What Least comes to in a good case. -/
theorem lst_good (g : Good kind base most hs rs) :
    (lstR kind base most hs rs = ((0, 0), 9) ∧ ∀ x, scE x.1 x.2 = 0 → fitP kind base most hs x = true → (flats hs (cuts kind base x.1 x.2 hs) rs).length > 0) ∨
    (∃ s, lstR kind base most hs rs = (s, 0) ∧ scE s.1 s.2 = 0 ∧ fitP kind base most hs s = true ∧ (flats hs (cuts kind base s.1 s.2 hs) rs).length = 0 ∧
      ∀ x, scE x.1 x.2 = 0 → ltS x s → fitP kind base most hs x = true → (flats hs (cuts kind base x.1 x.2 hs) rs).length > 0) := by
  have hc : ¬ (chk kind base most hs rs).2.2 ≠ 0 := by rw [g.chk]; simp
  rcases @frst_spec (okL kind base most hs rs) with ⟨hl, hn⟩ | ⟨hm, hok, hne, hall⟩
  · refine .inl ⟨?_, fun x hx hf => ?_⟩
    · unfold lstR; rw [if_neg hc, if_pos hl]
    · have h2 := hn x (in_sb hx)
      rcases Nat.eq_zero_or_pos (flats hs (cuts kind base x.1 x.2 hs) rs).length with h3 | h3
      · rw [okQ_spec.2 ⟨hf, h3⟩] at h2; cases h2
      · exact h3
  · refine .inr ⟨frstG (okL kind base most hs rs) SB, ?_, sb_sc hm, (okQ_spec.1 hok).1, (okQ_spec.1 hok).2, fun x hx hlt hf => ?_⟩
    · unfold lstR; rw [if_neg hc, if_neg hne]
    · rcases Nat.eq_zero_or_pos (flats hs (cuts kind base x.1 x.2 hs) rs).length with h3 | h3
      · exfalso
        rcases hall x (in_sb hx) (okQ_spec.2 ⟨hf, h3⟩) with h4 | h4
        · rw [← h4] at hlt; unfold ltS at hlt; omega
        · exact lt_asym hlt h4
      · exact h3
end
end Go.Proofs.Ytafkbioeoklldaa
