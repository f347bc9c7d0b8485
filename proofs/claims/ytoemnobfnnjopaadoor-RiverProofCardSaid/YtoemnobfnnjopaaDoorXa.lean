/-
  Walks of the program's functions, printed by program: what each returns.
  Conditions stand in each theorem.
-/
import Derived.WalkArith
import Derived.Laws.Closers25b
import Derived.Test.YtoemnobfnnjopaaDoorWp
import Derived.Test.YtoemnobfnnjopaaDoorWr
set_option linter.unusedSimpArgs false
set_option linter.unusedVariables false
namespace Go.Proofs.YtoemnobfnnjopaaDoor
open Go.RowKit Go
open Go.K (setd setn ev nth over cl eI eP eT setM setF)
attribute [local irreducible] K.blk K.row

theorem badL_len {r : List RvT} : (badL r).length ≤ r.length := by
  unfold badL
  split
  · exact Nat.zero_le _
  · exact selN_len
theorem fillL_len {r : List RvT} : (fillL r).length ≤ r.length := by
  unfold fillL
  split
  · exact Nat.le_of_eq fill_len
  · exact Nat.zero_le _
theorem carveL_len {r : List RvT} : (carveL r).length ≤ r.length := by
  unfold carveL
  split
  · exact Nat.le_of_eq carve_len
  · exact Nat.zero_le _
theorem ok_len {r : List RvT} : (chk r).2.2 ≠ 0 ∨ r.length ≤ 9 := by
  by_cases h : (chk r).2.2 = 0
  · exact .inr (chk_good h).n.2
  · exact .inl h
theorem badL_9 {r : List RvT} : (badL r).length ≤ 9 := by
  rcases ok_len (r := r) with h | h
  · unfold badL; rw [if_pos h]; exact Nat.zero_le _
  · exact Nat.le_trans badL_len h
theorem fillL_9 {r : List RvT} : (fillL r).length ≤ 9 := by
  rcases ok_len (r := r) with h | h
  · have he : fillE r = (chk r).2.2 := by unfold fillE; rw [if_pos h]
    unfold fillL; rw [if_neg (by omega)]; exact Nat.zero_le _
  · exact Nat.le_trans fillL_len h
theorem carveL_9 {r : List RvT} : (carveL r).length ≤ 9 := by
  rcases ok_len (r := r) with h | h
  · have he : carveE r = (chk r).2.2 := by unfold carveE; rw [if_pos h]
    unfold carveL; rw [if_neg (by omega)]; exact Nat.zero_le _
  · exact Nat.le_trans carveL_len h
theorem stop_le {r : List RvT} {a : Nat} (g : Good r) (ha : a < r.length) : stopN r a ≤ dep r a ∧ stopB r a (stopN r a) = true ∧ ∀ j, j < stopN r a → stopB r a j = false := by
  have hd := dep_is g ha
  have hs : stopB r a (dep r a) = true := by unfold stopB; rw [decide_eq_true hd.2.1, Bool.or_true]
  cases e : (List.range (r.length + 1)).find? (stopB r a) with
  | none =>
    have := List.find?_eq_none.1 e (dep r a) (List.mem_range.2 (by omega))
    rw [hs] at this; exact absurd rfl this
  | some d =>
    have e2 : stopN r a = d := by unfold stopN; rw [e]; rfl
    rw [List.find?_range_eq_some] at e
    obtain ⟨h1, h2, h3⟩ := e
    rw [e2]
    have hall : ∀ j, j < d → stopB r a j = false := fun j hj => by
      have := h3 j hj; simpa using this
    refine ⟨?_, h1, hall⟩
    rcases Nat.lt_or_ge (dep r a) d with h | h
    · rw [hall _ h] at hs; cases hs
    · exact h
theorem pouL_9 {r : List RvT} {z : Int} : (pouL r z).length ≤ 10 := by
  rcases ok_len (r := r) with h | h
  · have he : pouE r z = (chk r).2.2 := by unfold pouE; rw [if_pos h]
    unfold pouL; rw [if_neg (by omega)]; exact Nat.zero_le _
  · unfold pouL
    split
    · rename_i he
      have hc : (chk r).2.2 = 0 := by
        by_cases hc : (chk r).2.2 = 0
        · exact hc
        · unfold pouE at he; rw [if_pos hc] at he; exact absurd he hc
      have hz : 0 ≤ z ∧ z ≤ (r.length : Int) - 1 := by
        unfold pouE at he; rw [if_neg (by omega)] at he
        split at he
        · assumption
        · omega
      have g := chk_good hc
      have := stop_le g (a := z.toNat) (by omega)
      have := dep_is g (show z.toNat < r.length by omega)
      unfold pouredS
      rw [step_len]; omega
    · exact Nat.zero_le _


set_option maxRecDepth 100000 in
set_option maxHeartbeats 2000000 in
theorem c3 {r : List RvT} {A : Option Addr} {c : Nat} {z : Int} {w : World} (hR : K.Rd w A 4 eR r) (hn : r.length ≤ 17592186043904) (hT : Tab w) :
    Calls Tryd.prog 3 [.slice A r.length c, .int .i64 z].toArray w (K.Gives (.bool true) w) := by
  have hn4 : r.length ≤ 4611686018427387904 := by omega
  have l1 := badL_9 (r := r)
  have l2 := pouL_9 (r := r) (z := z)
  have l3 := fillL_9 (r := r)
  have l4 := carveL_9 (r := r)
  refine K.enter (args := [.slice A r.length c, .int .i64 z]) Tryd.func3 rfl (n := 116) rfl ?_
  simp only [List.replicate, List.cons_append, List.nil_append]
  refine sr ?_
  refine qa ?_
  refine sn ?_
  refine sr ?_
  refine qm ?_
  refine K.seq_call (K.call_g cal_14 (fun F w hF hw => c14 (hR.pass hw) hn4)) rfl ?_
  refine zN ?_
  refine qm ?_
  refine qx ?_
  refine qx ?_
  refine qx ?_
  iterate 3 refine qa ?_
  refine sn ?_
  refine sr ?_
  refine qm ?_
  refine K.seq_call (K.call_g cal_15 (fun F w hF hw => c15 (hR.pass hw) hn4)) rfl ?_
  refine zN ?_
  refine qm ?_
  refine qx ?_
  refine qx ?_
  refine qx ?_
  iterate 3 refine qa ?_
  refine sn ?_
  refine K.seq ?_
  refine sr ?_
  iterate 2 refine qm ?_
  refine qp (K.Pure.eq (K.neq rfl rfl) (show _ = Value.bool false from congrArg Value.bool (by simp))) ?_
  iterate 3 refine qm ?_
  refine qp (K.Pure.eq (K.neq rfl rfl) (show _ = Value.bool false from congrArg Value.bool (by simp))) ?_
  refine qp (K.pick_f rfl) ?_
  iterate 3 refine qm ?_
  refine qp (K.Pure.eq (K.neq rfl rfl) (show _ = Value.bool false from congrArg Value.bool (by simp))) ?_
  refine qp (K.pick_f rfl) ?_
  refine sn ?_
  refine K.cond_false rfl ?_
  refine K.skip ?_
  refine K.norm_then ?_
  refine sr ?_
  refine qm ?_
  refine K.seq_loud (K.call_f cal_16 (fun F w hF hw => c16 (hR.pass hw) hn4)) rfl ?_
  rintro ⟨Q1, q1⟩ hq1
  refine zN ?_
  refine qm ?_
  refine qx ?_
  refine qx ?_
  iterate 2 refine qa ?_
  refine sn ?_
  refine sr ?_
  refine qm ?_
  refine K.seq_loud (K.call_f cal_17 (fun F w hF hw => c17 (hR.pass hw) hn4)) rfl ?_
  rintro ⟨Q2, q2⟩ hq2
  refine zN ?_
  refine qm ?_
  refine qx ?_
  refine qx ?_
  iterate 2 refine qa ?_
  refine sn ?_
  refine K.seq ?_
  refine sr ?_
  iterate 2 refine qm ?_
  refine K.seq_call (K.call_g cal_18 (fun F w hF hw => (by have hX := (K.Rd.own (e := K.eI) (xs := (badL r)) hw (hF _ (K.m1)) hq1 (fun _ => rfl) (by decide)); have hY := (K.Rd.own (e := K.eI) (xs := (badL r)) hw (hF _ (K.m0)) hq2 (fun _ => rfl) (by decide)); exact c18t (xs := (badL r)) hX hY (by omega)))) rfl ?_
  refine zN ?_
  first | refine K.seq_pure (K.Pure.eq (K.not_d rfl) (show _ = Value.bool false from rfl)) rfl ?_ | refine K.seq_pure (K.Pure.eq (K.not_ rfl) (show _ = Value.bool false from rfl)) rfl ?_
  refine zN ?_
  iterate 3 refine qm ?_
  refine qp (K.Pure.eq (K.neq rfl rfl) (show _ = Value.bool false from congrArg Value.bool (by simp))) ?_
  refine qp (K.pick_f rfl) ?_
  refine sn ?_
  refine K.cond_false rfl ?_
  refine K.skip ?_
  refine K.norm_then ?_
  refine sr ?_
  iterate 2 refine qm ?_
  refine K.seq_loud (K.call_f cal_19 (fun F w hF hw => c19 (hR.pass hw) hn4)) rfl ?_
  rintro ⟨Q3, q3⟩ hq3
  refine zN ?_
  refine qm ?_
  refine qx ?_
  refine qx ?_
  iterate 2 refine qa ?_
  refine sn ?_
  refine sr ?_
  iterate 2 refine qm ?_
  refine K.seq_loud (K.call_f cal_20 (fun F w hF hw => c20 (hR.pass hw) hn4)) rfl ?_
  rintro ⟨Q4, q4⟩ hq4
  refine zN ?_
  refine qm ?_
  refine qx ?_
  refine qx ?_
  iterate 2 refine qa ?_
  refine sn ?_
  refine K.seq ?_
  refine sr ?_
  iterate 2 refine qm ?_
  refine K.seq_call (K.call_g cal_18 (fun F w hF hw => (by have hX := (K.Rd.own (e := K.eI) (xs := (pouL r z)) hw (hF _ (K.m1)) hq3 (fun _ => rfl) (by decide)); have hY := (K.Rd.own (e := K.eI) (xs := (pouL r z)) hw (hF _ (K.m0)) hq4 (fun _ => rfl) (by decide)); exact c18t (xs := (pouL r z)) hX hY (by omega)))) rfl ?_
  refine zN ?_
  first | refine K.seq_pure (K.Pure.eq (K.not_d rfl) (show _ = Value.bool false from rfl)) rfl ?_ | refine K.seq_pure (K.Pure.eq (K.not_ rfl) (show _ = Value.bool false from rfl)) rfl ?_
  refine zN ?_
  iterate 3 refine qm ?_
  refine qp (K.Pure.eq (K.neq rfl rfl) (show _ = Value.bool false from congrArg Value.bool (by simp))) ?_
  refine qp (K.pick_f rfl) ?_
  refine sn ?_
  refine K.cond_false rfl ?_
  refine K.skip ?_
  refine K.norm_then ?_
  refine sr ?_
  refine qm ?_
  refine K.seq_loud (K.call_f cal_21 (fun F w hF hw => c21 (hR.pass hw) hn4)) rfl ?_
  rintro ⟨Q5, q5⟩ hq5
  refine zN ?_
  refine qm ?_
  refine qx ?_
  refine qx ?_
  iterate 2 refine qa ?_
  refine sn ?_
  refine sr ?_
  refine qm ?_
  refine K.seq_loud (K.call_f cal_22 (fun F w hF hw => c22 (hR.pass hw) hn4)) rfl ?_
  rintro ⟨Q6, q6⟩ hq6
  refine zN ?_
  refine qm ?_
  refine qx ?_
  refine qx ?_
  iterate 2 refine qa ?_
  refine sn ?_
  refine K.seq ?_
  refine sr ?_
  iterate 2 refine qm ?_
  refine K.seq_call (K.call_g cal_18 (fun F w hF hw => (by have hX := (K.Rd.own (e := K.eI) (xs := (fillL r)) hw (hF _ (K.m1)) hq5 (fun _ => rfl) (by decide)); have hY := (K.Rd.own (e := K.eI) (xs := (fillL r)) hw (hF _ (K.m0)) hq6 (fun _ => rfl) (by decide)); exact c18t (xs := (fillL r)) hX hY (by omega)))) rfl ?_
  refine zN ?_
  first | refine K.seq_pure (K.Pure.eq (K.not_d rfl) (show _ = Value.bool false from rfl)) rfl ?_ | refine K.seq_pure (K.Pure.eq (K.not_ rfl) (show _ = Value.bool false from rfl)) rfl ?_
  refine zN ?_
  iterate 3 refine qm ?_
  refine qp (K.Pure.eq (K.neq rfl rfl) (show _ = Value.bool false from congrArg Value.bool (by simp))) ?_
  refine qp (K.pick_f rfl) ?_
  refine sn ?_
  refine K.cond_false rfl ?_
  refine K.skip ?_
  refine K.norm_then ?_
  refine sr ?_
  refine qm ?_
  refine K.seq_loud (K.call_f cal_23 (fun F w hF hw => c23 (hR.pass hw) hn4)) rfl ?_
  rintro ⟨Q7, q7⟩ hq7
  refine zN ?_
  refine qm ?_
  refine qx ?_
  refine qx ?_
  iterate 2 refine qa ?_
  refine sn ?_
  refine sr ?_
  refine qm ?_
  refine K.seq_loud (K.call_f cal_24 (fun F w hF hw => c24 (hR.pass hw) hn4)) rfl ?_
  rintro ⟨Q8, q8⟩ hq8
  refine zN ?_
  refine qm ?_
  refine qx ?_
  refine qx ?_
  iterate 2 refine qa ?_
  refine sn ?_
  refine sr ?_
  iterate 2 refine qm ?_
  refine K.seq_call (K.call_g cal_18 (fun F w hF hw => (by have hX := (K.Rd.own (e := K.eI) (xs := (carveL r)) hw (hF _ (K.m1)) hq7 (fun _ => rfl) (by decide)); have hY := (K.Rd.own (e := K.eI) (xs := (carveL r)) hw (hF _ (K.m0)) hq8 (fun _ => rfl) (by decide)); exact c18t (xs := (carveL r)) hX hY (by omega)))) rfl ?_
  refine zN ?_
  iterate 3 refine qm ?_
  refine qp (K.Pure.eq (K.eql rfl rfl) (show _ = Value.bool true from congrArg Value.bool (by simp))) ?_
  refine qp (K.pick_t rfl) ?_
  refine qm ?_
  refine K.seq_call (K.call_g cal_25 (fun F w hF hw => c25 (hT.pass hw))) rfl ?_
  refine zN ?_
  refine qp (K.pick_t rfl) ?_
  refine qa ?_
  refine sn ?_
  refine K.ret ?_
  refine K.end_ret (fun w _ => K.res_tmp rfl w) ?_
  exact K.gives rfl

end Go.Proofs.YtoemnobfnnjopaaDoor
