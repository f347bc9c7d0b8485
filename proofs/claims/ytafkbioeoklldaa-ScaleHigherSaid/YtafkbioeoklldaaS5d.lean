/-
  The order of scales, and what follows for cuts.
  No conditions: no program is in sight.
-/
import Derived.Test.YtafkbioeoklldaaS5c
set_option linter.unusedSimpArgs false
set_option linter.unusedVariables false
namespace Go.Proofs.Ytafkbioeoklldaa
open Go
/-- One scale is less than another one. -/
@[reducible] def ltS (a b : Int × Int) : Prop := a.1 * b.2 < b.1 * a.2
theorem ltS_trans {a b c : Int × Int} (ha : 0 < a.2) (hb : 0 < b.2) (hc : 0 < c.2) (h1 : ltS a b) (h2 : ltS b c) : ltS a c := by
  unfold ltS at *
  have e1 : a.1 * b.2 * c.2 < b.1 * a.2 * c.2 := Int.mul_lt_mul_of_pos_right h1 hc
  have e2 : b.1 * c.2 * a.2 < c.1 * b.2 * a.2 := Int.mul_lt_mul_of_pos_right h2 ha
  have e3 : b.1 * a.2 * c.2 = b.1 * c.2 * a.2 := by rw [Int.mul_assoc, Int.mul_comm a.2, ← Int.mul_assoc]
  have e4 : a.1 * b.2 * c.2 = a.1 * c.2 * b.2 := by rw [Int.mul_assoc, Int.mul_comm b.2, ← Int.mul_assoc]
  have e5 : c.1 * b.2 * a.2 = c.1 * a.2 * b.2 := by rw [Int.mul_assoc, Int.mul_comm b.2, ← Int.mul_assoc]
  exact Int.lt_of_mul_lt_mul_right (a := b.2) (by omega) (by omega)
/-- Neighbours are in order. -/
def chainB : List (Int × Int) → Bool
  | [] => true
  | a :: l => decide (0 < a.2) && (match l with | [] => true | b :: _ => decide (ltS a b)) && chainB l
theorem chain_pos : ∀ {l : List (Int × Int)}, chainB l = true → ∀ x ∈ l, 0 < x.2
  | [], _, x, hx => by cases hx
  | a :: l, h, x, hx => by
    simp only [chainB, Bool.and_eq_true, decide_eq_true_eq] at h
    rcases List.mem_cons.1 hx with rfl | hx
    · exact h.1.1
    · exact chain_pos h.2 x hx
theorem chain_pw : ∀ {l : List (Int × Int)}, chainB l = true → l.Pairwise ltS
  | [], _ => .nil
  | [a], _ => by simp
  | a :: b :: l, h => by
    have hp := chain_pos h
    have h2 : chainB (b :: l) = true := by simp only [chainB, Bool.and_eq_true] at h ⊢; exact h.2
    have hab : ltS a b := by simp only [chainB, Bool.and_eq_true, decide_eq_true_eq] at h; exact h.1.2
    have ih := chain_pw h2
    refine .cons (fun x hx => ?_) ih
    rcases List.mem_cons.1 hx with rfl | hx
    · exact hab
    · exact ltS_trans (hp _ (by simp)) (hp _ (by simp)) (hp _ (by simp [hx])) hab (List.rel_of_pairwise_cons ih hx)
theorem sb_pw : SB.Pairwise ltS := chain_pw (by decide +kernel)
theorem ediv_mono {x b y d : Int} (hb : 0 < b) (hd : 0 < d) (h : x * d ≤ y * b) : x / b ≤ y / d := by
  refine Int.le_ediv_of_mul_le hd ?_
  have h1 : x / b * b ≤ x := Int.ediv_mul_le _ (by omega)
  have h2 : x / b * b * d ≤ x * d := Int.mul_le_mul_of_nonneg_right h1 (by omega)
  have e : x / b * b * d = x / b * d * b := by rw [Int.mul_assoc, Int.mul_comm b, ← Int.mul_assoc]
  exact Int.le_of_mul_le_mul_right (by omega) hb
theorem ceil_mono {x b y d : Int} (hb : 0 < b) (hd : 0 < d) (h : x * d ≤ y * b) : (x + b - 1) / b ≤ (y + d - 1) / d := by
  generalize hq : (y + d - 1) / d = q
  have h1 : y ≤ q * d := by
    have := Int.lt_mul_ediv_self_add (x := y + d - 1) hd
    rw [hq, Int.mul_comm] at this
    omega
  have h2 : y * b ≤ q * d * b := Int.mul_le_mul_of_nonneg_right h1 (by omega)
  have e : q * d * b = q * b * d := by rw [Int.mul_assoc, Int.mul_comm d, ← Int.mul_assoc]
  have h3 : x ≤ q * b := Int.le_of_mul_le_mul_right (a := d) (by omega) hd
  have h4 : (x + b - 1) / b < q + 1 := Int.ediv_lt_of_lt_mul hb (by rw [Int.add_mul]; omega)
  omega
theorem cut_mono {kind h h' a b c d : Int} (hk : 1 ≤ kind ∧ kind ≤ 3) (h0 : 0 ≤ h) (hh : h ≤ h') (ha : 0 ≤ a) (hb : 1 ≤ b) (hd : 1 ≤ d) (hs : a * d ≤ c * b) : cutS kind h a b ≤ cutS kind h' c d := by
  rw [← rnd_cut hk hb, ← rnd_cut hk hd]
  have h1 : h * (a * d) ≤ h' * (c * b) := Int.mul_le_mul hh hs (Int.mul_nonneg ha (by omega)) (by omega)
  have h2 : h * a * d ≤ h' * c * b := by rw [Int.mul_assoc, Int.mul_assoc]; exact h1
  unfold rndS
  split
  · exact ediv_mono (by omega) (by omega) h2
  split
  · refine ediv_mono (by omega) (by omega) ?_
    have e1 : (2 * (h * a) + b) * (2 * d) = 4 * (h * a * d) + 2 * (b * d) := by
      rw [Int.add_mul, Int.mul_left_comm b 2 d, show (2 * (h * a)) * (2 * d) = 4 * (h * a * d) by rw [Int.mul_assoc 2, Int.mul_left_comm (h * a) 2 d]; omega]
    have e2 : (2 * (h' * c) + d) * (2 * b) = 4 * (h' * c * b) + 2 * (b * d) := by
      rw [Int.add_mul, Int.mul_left_comm d 2 b, show (2 * (h' * c)) * (2 * b) = 4 * (h' * c * b) by rw [Int.mul_assoc 2, Int.mul_left_comm (h' * c) 2 b]; omega, Int.mul_comm d b]
    omega
  · exact ceil_mono (by omega) (by omega) h2
theorem fitB_mono {most : Int} {xs ys : List Int} (hl : xs.length = ys.length) (h : ∀ j, j < xs.length → xs.getD j default ≤ ys.getD j default) (hf : fitB most ys = true) : fitB most xs = true := by
  unfold fitB at *
  rw [List.all_eq_true] at *
  intro x hx
  obtain ⟨j, hj, rfl⟩ := List.getElem_of_mem hx
  have h1 := h j hj
  have h2 := hf _ (K.gt_mem (xs := ys) (k := j) (by omega))
  simp only [decide_eq_true_eq, List.getD_eq_getElem?_getD, List.getElem?_eq_getElem hj, Option.getD_some] at h1 h2 ⊢
  omega
section
variable {kind base most : Int} {hs : List Int} {rs : List (Int × Int)}
theorem cuts_mono (g : Good kind base most hs rs) {s t : Int × Int} (hs1 : Parts s.1 s.2) (ht : Parts t.1 t.2) (h : s.1 * t.2 ≤ t.1 * s.2) : ∀ j, j < (cuts kind base s.1 s.2 hs).length → (cuts kind base s.1 s.2 hs).getD j default ≤ (cuts kind base t.1 t.2 hs).getD j default := by
  intro j hj
  rw [cuts_len] at hj
  rw [cuts_at hj, cuts_at hj]
  have := g.at hj
  exact cut_mono g.k (by omega) (Int.le_refl _) (by omega) (by omega) (by omega) h
/-- A lesser scale than one that fits does fit. -/
theorem fit_mono (g : Good kind base most hs rs) {s t : Int × Int} (hs1 : Parts s.1 s.2) (ht : Parts t.1 t.2) (h : s.1 * t.2 ≤ t.1 * s.2) (hf : fitP kind base most hs t = true) : fitP kind base most hs s = true :=
  fitB_mono (by rw [cuts_len, cuts_len]) (cuts_mono g hs1 ht h) hf
theorem lastG_cut {limit : Int} (g : Good kind base most hs rs) {k : Nat} {x : Int × Int} (hx : SB[k]? = some x) (hf : fitP kind base most hs x = false) :
    lastG (okG kind base most hs rs limit) (SB.take k) = lastG (okG kind base most hs rs limit) SB := by
  have hk : k < SB.length := (List.getElem?_eq_some_iff.1 hx).1
  have hxe : SB[k] = x := (List.getElem?_eq_some_iff.1 hx).2
  have hd : (SB.drop k).filter (okG kind base most hs rs limit) = [] := by
    rw [List.filter_eq_nil_iff]
    intro y hy hok
    have hfy : fitP kind base most hs y = true := by unfold okG at hok; simp only [Bool.and_eq_true] at hok; exact hok.1
    have hy' : y ∈ SB := List.mem_of_mem_drop hy
    obtain ⟨j, hj, hyj⟩ := List.getElem_of_mem hy'
    have hpy := sb_parts (k := j) (x := y) (by rw [List.getElem?_eq_getElem hj, hyj])
    rw [List.drop_eq_getElem_cons hk, hxe] at hy
    rcases List.mem_cons.1 hy with rfl | hy
    · rw [hf] at hfy; cases hfy
    · have hlt : ltS x y := by
        have h1 : (SB.drop k).Pairwise ltS := List.Pairwise.sublist (List.drop_sublist _ _) sb_pw
        rw [List.drop_eq_getElem_cons hk, hxe] at h1
        exact List.rel_of_pairwise_cons h1 hy
      rw [fit_mono g (sb_parts hx) hpy (Int.le_of_lt hlt) hfy] at hf
      cases hf
  have e : SB.filter (okG kind base most hs rs limit) = (SB.take k).filter (okG kind base most hs rs limit) := by
    conv => lhs; rw [← List.take_append_drop k SB]
    rw [List.filter_append, hd, List.append_nil]
  unfold lastG
  rw [e]
end
end Go.Proofs.Ytafkbioeoklldaa
