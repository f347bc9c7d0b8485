/-
  Plain lemmas and plain functions, several texts joined.
  Conditions stand in each theorem.
-/
import Derived.Test.YtafkbioeoklldaaS1
set_option linter.unusedSimpArgs false
set_option linter.unusedVariables false
/-
  The program's and the reference's greatest and least scale are the same.
  No conditions: no program is in sight.
-/
namespace Go.Proofs.Ytafkbioeoklldaa
open Go
theorem ev_in_sb : EV.all (fun x => decide (x ∈ SB)) = true := by decide +kernel
theorem sb_in_ev : SB.all (fun x => decide (x ∈ EV)) = true := by decide +kernel
theorem ev_sb {x : Int × Int} : x ∈ EV ↔ x ∈ SB := by
  constructor
  · intro h; simpa using List.all_eq_true.1 ev_in_sb x h
  · intro h; simpa using List.all_eq_true.1 sb_in_ev x h
theorem sb_mem_parts {x : Int × Int} (h : x ∈ SB) : Parts x.1 x.2 := by
  have := List.all_eq_true.1 sb_parts_all x h
  simpa using this
section
variable {better : Int × Int → Int × Int → Bool} {ok : Int × Int → Bool}
theorem bestI_none : ∀ {n : Nat}, bestI better ok n < 0 → ∀ i, i < n → ok (EV.getD i default) = false
  | 0, _, i, hi => absurd hi (Nat.not_lt_zero i)
  | n + 1, h, i, hi => by
    rw [bestI] at h
    split at h
    · omega
    · rename_i hc
      rcases Nat.lt_or_ge i n with h1 | h1
      · exact bestI_none h i h1
      · have : i = n := by omega
        subst this
        cases hok : ok (EV.getD i default) with
        | false => rfl
        | true => exact absurd ⟨.inl h, hok⟩ hc
theorem bestI_ok : ∀ {n : Nat}, 0 ≤ bestI better ok n → ok (EV.getD (bestI better ok n).toNat default) = true
  | 0, h => by simp [bestI] at h
  | n + 1, h => by
    rw [bestI] at h ⊢
    split
    · rename_i hc; simpa using hc.2
    · rename_i hc; rw [if_neg hc] at h; exact bestI_ok h
/-- Nothing that is ok is better than the best one. -/
theorem bestI_best (htr : ∀ a b c : Int × Int, a ∈ EV → b ∈ EV → c ∈ EV → better a b = true → better b c = false → better a c = true → True) (hirr : ∀ a, a ∈ EV → better a a = false)
    (hnt : ∀ a b c : Int × Int, a ∈ EV → b ∈ EV → c ∈ EV → better a b = true → better a c = false → better b c = false) :
    ∀ {n : Nat}, n ≤ EV.length → 0 ≤ bestI better ok n → ∀ i, i < n → ok (EV.getD i default) = true → better (EV.getD (bestI better ok n).toNat default) (EV.getD i default) = false
  | 0, _, _, i, hi, _ => absurd hi (Nat.not_lt_zero i)
  | n + 1, hn, h, i, hi, hok => by
    have hb := @bestI_bd better ok n
    rw [bestI] at h ⊢
    split
    · rename_i hc
      have e : ((n : Int)).toNat = n := by omega
      rw [e]
      rcases Nat.lt_or_ge i n with h1 | h1
      · rcases Int.lt_or_le (bestI better ok n) 0 with h2 | h2
        · have := bestI_none h2 i h1
          rw [this] at hok; cases hok
        · have h3 := bestI_best htr hirr hnt (by omega) h2 i h1 hok
          rcases hc.1 with h4 | h4
          · omega
          · exact hnt _ _ _ (K.gt_mem (by omega)) (K.gt_mem (by omega)) (K.gt_mem (by omega)) h4 h3
      · have : i = n := by omega
        subst this
        exact hirr _ (K.gt_mem (by omega))
    · rename_i hc
      rw [if_neg hc] at h
      rcases Nat.lt_or_ge i n with h1 | h1
      · exact bestI_best htr hirr hnt (by omega) h i h1 hok
      · have : i = n := by omega
        subst this
        cases hbt : better (EV.getD (bestI better ok i).toNat default) (EV.getD i default) with
        | false => rfl
        | true => exact absurd ⟨.inr hbt, hok⟩ hc
end
theorem lt_asym {a b : Int × Int} (h : ltS a b) : ¬ ltS b a := by unfold ltS at *; omega
theorem le_trans' {a b c : Int × Int} (hb : 0 < b.2) (hc : 0 < c.2) (ha : 0 < a.2) (h1 : ltS a b) (h2 : ¬ ltS a c) : ¬ ltS b c := fun h => h2 (ltS_trans ha hb hc h1 h)
theorem last_spec {p : Int × Int → Bool} : (lastG p SB = (0, 0) ∧ ∀ x ∈ SB, p x = false) ∨ (lastG p SB ∈ SB ∧ p (lastG p SB) = true ∧ lastG p SB ≠ (0, 0) ∧ ∀ x ∈ SB, p x = true → x = lastG p SB ∨ ltS x (lastG p SB)) := by
  unfold lastG
  cases h : (SB.filter p).getLast? with
  | none =>
    refine .inl ⟨rfl, fun x hx => ?_⟩
    have h0 := List.getLast?_eq_none_iff.1 h
    have := List.filter_eq_nil_iff.1 h0 x hx
    simpa using this
  | some y =>
    obtain ⟨zs, hz⟩ := List.getLast?_eq_some_iff.1 h
    have hy : y ∈ SB.filter p := by rw [hz]; simp
    have hm := List.mem_filter.1 hy
    refine .inr ⟨hm.1, hm.2, ?_, fun x hx hp => ?_⟩
    · intro h0
      have := sb_mem_parts hm.1
      simp only [Option.getD_some] at h0
      rw [h0] at this
      exact absurd this.1 (by decide)
    · have hx' : x ∈ SB.filter p := List.mem_filter.2 ⟨hx, hp⟩
      rw [hz] at hx'
      rcases List.mem_append.1 hx' with hx' | hx'
      · right
        have hpw : (SB.filter p).Pairwise ltS := List.Pairwise.sublist List.filter_sublist sb_pw
        rw [hz] at hpw
        exact (List.pairwise_append.1 hpw).2.2 x hx' y (by simp)
      · left; simpa using hx'
theorem frst_spec {p : Int × Int → Bool} : (frstG p SB = (0, 0) ∧ ∀ x ∈ SB, p x = false) ∨ (frstG p SB ∈ SB ∧ p (frstG p SB) = true ∧ frstG p SB ≠ (0, 0) ∧ ∀ x ∈ SB, p x = true → x = frstG p SB ∨ ltS (frstG p SB) x) := by
  unfold frstG
  cases h : SB.filter p with
  | nil =>
    refine .inl ⟨rfl, fun x hx => ?_⟩
    have := List.filter_eq_nil_iff.1 h x hx
    simpa using this
  | cons y ys =>
    have hy : y ∈ SB.filter p := by rw [h]; simp
    have hm := List.mem_filter.1 hy
    refine .inr ⟨hm.1, hm.2, ?_, fun x hx hp => ?_⟩
    · intro h0
      have := sb_mem_parts hm.1
      simp only [List.head?_cons, Option.getD_some] at h0
      rw [h0] at this
      exact absurd this.1 (by decide)
    · have hx' : x ∈ SB.filter p := List.mem_filter.2 ⟨hx, hp⟩
      rw [h] at hx'
      rcases List.mem_cons.1 hx' with hx' | hx'
      · left; simpa using hx'
      · right
        have hpw : (SB.filter p).Pairwise ltS := List.Pairwise.sublist List.filter_sublist sb_pw
        rw [h] at hpw
        exact List.rel_of_pairwise_cons hpw hx'
theorem ev_pos {x : Int × Int} (h : x ∈ EV) : 0 < x.2 := by have := sb_mem_parts (ev_sb.1 h); omega
theorem last_best {p q : Int × Int → Bool} (hpq : ∀ x ∈ SB, p x = q x) : (bestI lessP q EV.length < 0 ∧ lastG p SB = (0, 0)) ∨ (0 ≤ bestI lessP q EV.length ∧ lastG p SB ≠ (0, 0) ∧ EV.getD (bestI lessP q EV.length).toNat default = lastG p SB) := by
  have hb := @bestI_bd lessP q EV.length
  rcases Int.lt_or_le (bestI lessP q EV.length) 0 with h | h
  · refine .inl ⟨h, ?_⟩
    have hn := bestI_none h
    rcases @last_spec p with h1 | h1
    · exact h1.1
    · exfalso
      obtain ⟨i, hi, he⟩ := List.getElem_of_mem (ev_sb.2 h1.1)
      have := hn i hi
      rw [List.getD_eq_getElem?_getD, List.getElem?_eq_getElem hi, Option.getD_some, he, ← hpq _ h1.1, h1.2.1] at this
      cases this
  · refine .inr ⟨h, ?_⟩
    have hok := bestI_ok h
    have hm : EV.getD (bestI lessP q EV.length).toNat default ∈ EV := K.gt_mem (by omega)
    have hbest := bestI_best (better := lessP) (ok := q) (fun _ _ _ _ _ _ _ _ _ => trivial) (fun a _ => by simp [lessP]) (fun a b c ha hb hc h1 h2 => by
      simp only [lessP, decide_eq_true_eq, decide_eq_false_iff_not] at h1 h2 ⊢
      exact le_trans' (ev_pos hb) (ev_pos hc) (ev_pos ha) h1 h2) (Nat.le_refl _) h
    rcases @last_spec p with h1 | h1
    · have := h1.2 _ (ev_sb.1 hm)
      rw [hpq _ (ev_sb.1 hm), hok] at this; cases this
    · refine ⟨h1.2.2.1, ?_⟩
      rcases h1.2.2.2 _ (ev_sb.1 hm) (by rw [hpq _ (ev_sb.1 hm)]; exact hok) with h2 | h2
      · exact h2
      · exfalso
        obtain ⟨i, hi, he⟩ := List.getElem_of_mem (ev_sb.2 h1.1)
        have e : EV.getD i default = lastG p SB := by rw [List.getD_eq_getElem?_getD, List.getElem?_eq_getElem hi, Option.getD_some, he]
        have := hbest i hi (by rw [e, ← hpq _ h1.1]; exact h1.2.1)
        rw [e] at this
        simp only [lessP, decide_eq_false_iff_not] at this
        exact this h2
theorem frst_best {p q : Int × Int → Bool} (hpq : ∀ x ∈ SB, p x = q x) : (bestI (fun b x => lessP x b) q EV.length < 0 ∧ frstG p SB = (0, 0)) ∨ (0 ≤ bestI (fun b x => lessP x b) q EV.length ∧ frstG p SB ≠ (0, 0) ∧ EV.getD (bestI (fun b x => lessP x b) q EV.length).toNat default = frstG p SB) := by
  have hb := @bestI_bd (fun b x => lessP x b) q EV.length
  rcases Int.lt_or_le (bestI (fun b x => lessP x b) q EV.length) 0 with h | h
  · refine .inl ⟨h, ?_⟩
    have hn := bestI_none h
    rcases @frst_spec p with h1 | h1
    · exact h1.1
    · exfalso
      obtain ⟨i, hi, he⟩ := List.getElem_of_mem (ev_sb.2 h1.1)
      have := hn i hi
      rw [List.getD_eq_getElem?_getD, List.getElem?_eq_getElem hi, Option.getD_some, he, ← hpq _ h1.1, h1.2.1] at this
      cases this
  · refine .inr ⟨h, ?_⟩
    have hok := bestI_ok h
    have hm : EV.getD (bestI (fun b x => lessP x b) q EV.length).toNat default ∈ EV := K.gt_mem (by omega)
    have hbest := bestI_best (better := fun b x => lessP x b) (ok := q) (fun _ _ _ _ _ _ _ _ _ => trivial) (fun a _ => by simp [lessP]) (fun a b c ha hb hc h1 h2 => by
      simp only [lessP, decide_eq_true_eq, decide_eq_false_iff_not] at h1 h2 ⊢
      exact fun h => h2 (ltS_trans (ev_pos hc) (ev_pos hb) (ev_pos ha) h h1)) (Nat.le_refl _) h
    rcases @frst_spec p with h1 | h1
    · have := h1.2 _ (ev_sb.1 hm)
      rw [hpq _ (ev_sb.1 hm), hok] at this; cases this
    · refine ⟨h1.2.2.1, ?_⟩
      rcases h1.2.2.2 _ (ev_sb.1 hm) (by rw [hpq _ (ev_sb.1 hm)]; exact hok) with h2 | h2
      · exact h2
      · exfalso
        obtain ⟨i, hi, he⟩ := List.getElem_of_mem (ev_sb.2 h1.1)
        have e : EV.getD i default = frstG p SB := by rw [List.getD_eq_getElem?_getD, List.getElem?_eq_getElem hi, Option.getD_some, he]
        have := hbest i hi (by rw [e, ← hpq _ h1.1]; exact h1.2.1)
        rw [e] at this
        simp only [lessP, decide_eq_false_iff_not] at this
        exact this h2
theorem foldmax_le {xs : List Int} {m : Int} : ∀ {a : Int}, (xs.foldl max a ≤ m ↔ a ≤ m ∧ ∀ x ∈ xs, x ≤ m) := by
  induction xs with
  | nil => simp
  | cons x xs ih =>
    intro a
    rw [List.foldl_cons, ih]
    simp only [List.mem_cons, forall_eq_or_imp]
    constructor
    · rintro ⟨h1, h2⟩; exact ⟨by omega, by omega, h2⟩
    · rintro ⟨h1, h2, h3⟩; exact ⟨by omega, h3⟩
section
variable {kind base most : Int} {hs : List Int} {rs : List (Int × Int)} {limit : Int}
theorem ok_gr (h0 : 0 ≤ limit) (x : Int × Int) : okG kind base most hs rs limit x = okR kind base most hs rs limit x := by
  unfold okG okR fitP roadP worstS offs
  congr 1
  rw [Bool.eq_iff_iff, List.all_eq_true, decide_eq_true_eq, foldmax_le]
  simp only [List.mem_map, decide_eq_true_eq, forall_exists_index, and_imp, forall_apply_eq_imp_iff₂]
  exact ⟨fun h => ⟨h0, h⟩, fun h => h.2⟩
theorem ok_lq (x : Int × Int) : okL kind base most hs rs x = okQ kind base most hs rs x := by
  unfold okL okQ fitP
  congr 1
  rw [Bool.eq_iff_iff, decide_eq_true_eq, decide_eq_true_eq]; omega
end
section
variable (kind base most : Int) (hs : List Int) (rs : List (Int × Int)) (limit : Int)
/-- What Greatest returns. -/
def grtR : (Int × Int) × Int :=
  if (chk kind base most hs rs).2.2 ≠ 0 then ((0, 0), (chk kind base most hs rs).2.2)
  else if ¬ (0 ≤ limit ∧ limit ≤ 1000000) then ((0, 0), 7)
  else if lastG (okG kind base most hs rs limit) SB = (0, 0) then ((0, 0), 9) else (lastG (okG kind base most hs rs limit) SB, 0)
/-- What Least returns. -/
def lstR : (Int × Int) × Int :=
  if (chk kind base most hs rs).2.2 ≠ 0 then ((0, 0), (chk kind base most hs rs).2.2)
  else if frstG (okL kind base most hs rs) SB = (0, 0) then ((0, 0), 9) else (frstG (okL kind base most hs rs) SB, 0)
end
/-- A scale and an error. -/
@[reducible] def sev (r : (Int × Int) × Int) : Value := .tuple #[.agg #[.int .i64 r.1.1, .int .i64 r.1.2], .int .i64 r.2]
end Go.Proofs.Ytafkbioeoklldaa
