/-
  Walks of the program's functions, printed by program: what each returns.
  Conditions stand in each theorem.
-/
import Derived.WalkArith
import Derived.Laws.Closers25b
import Derived.Test.YtoemnobfnnjopaaDoorSM
import Derived.Test.YtoemnobfnnjopaaDoorWs
import Derived.Test.YtoemnobfnnjopaaDoorWt
import Derived.Test.YtoemnobfnnjopaaDoorXa
set_option linter.unusedSimpArgs false
set_option linter.unusedVariables false
namespace Go.Proofs.YtoemnobfnnjopaaDoor
open Go.RowKit Go
open Go.K (setd setn ev nth over cl eI eP eT setM setF)
attribute [local irreducible] K.blk K.row
theorem bo_4 : K.boT Tryd.prog 4 = true := by kernel_rfl

set_option maxRecDepth 100000 in
theorem e9 {r : List RvT} {A : Option Addr} {c : Nat} {Y : Option Addr} {cy : Nat} {ys : List Int} {w : World} (hR : K.Rd w A 4 eR r) (hn : r.length ≤ 17592186043904) (hT : Tab w) (hY : K.Rd w Y 1 eH ys) (hyb : ∀ x ∈ ys, 0 ≤ x ∧ x ≤ 65535) (hyl : ys.length ≤ 140737488351232) (hc : (chk r).2.2 ≠ 0) :
    Calls Tryd.prog 9 [.slice A r.length c, .slice Y ys.length cy].toArray w (K.Gives (.bool true) w) := by
  have hn4 : r.length ≤ 4611686018427387904 := by omega
  have hlc : lstC r = 0 := by unfold lstC; rw [if_pos hc]
  have hll : (lstL r).length = 0 := by unfold lstL; rw [if_pos hc]; rfl
  refine K.enter (args := [.slice A r.length c, .slice Y ys.length cy]) Tryd.func9 rfl (n := 159) rfl ?_
  simp only [List.replicate, List.cons_append, List.nil_append]
  refine sr ?_
  refine qa ?_
  refine sn ?_
  refine sr ?_
  refine qm ?_
  refine K.seq_loud (K.call_f cal_32 (fun F w hF hw => c32 (hR.pass hw) hn4)) rfl ?_
  rintro ⟨Q1, q1⟩ hq1
  refine zN ?_
  refine qm ?_
  refine qx ?_
  refine qx ?_
  refine qx ?_
  iterate 3 refine qa ?_
  refine sn ?_
  refine K.seq ?_
  refine sr ?_
  refine qm ?_
  refine K.seq_call (K.call_g cal_35 (fun F w hF hw => c35 (hR.pass hw) hn4)) rfl ?_
  refine zN ?_
  first | refine K.seq_pure (K.Pure.eq (K.not_d rfl) (show _ = Value.bool true from by rw [decide_eq_false hc]; rfl)) rfl ?_ | refine K.seq_pure (K.Pure.eq (K.not_ rfl) (show _ = Value.bool true from by rw [decide_eq_false hc]; rfl)) rfl ?_
  refine zN ?_
  refine sn ?_
  refine K.cond_true rfl ?_
  refine sr ?_
  refine qm ?_
  refine qp (K.Pure.eq (K.neq rfl rfl) (show _ = Value.bool true from congrArg Value.bool (decide_eq_true hc))) ?_
  iterate 2 refine qm ?_
  refine qp (K.Pure.eq (K.eql rfl rfl) (show _ = Value.bool true from congrArg Value.bool (decide_eq_true hlc))) ?_
  refine qp (K.pick_t rfl) ?_
  iterate 2 refine qm ?_
  refine qp (K.len_sl sl_26 rfl) ?_
  refine qp (K.Pure.eq (K.eql rfl rfl) (show _ = Value.bool true from congrArg Value.bool (decide_eq_true (by omega)))) ?_
  refine qp (K.pick_t rfl) ?_
  refine qm ?_
  refine K.seq_call (K.call_g cal_25 (fun F w hF hw => c25 (hT.pass hw))) rfl ?_
  refine zN ?_
  refine qp (K.pick_t rfl) ?_
  refine qa ?_
  refine sn ?_
  refine K.ret ?_
  refine K.ret_then ?_
  refine K.end_ret (fun w _ => K.res_tmp rfl w) ?_
  exact K.gives rfl

set_option maxRecDepth 100000 in
set_option maxHeartbeats 4000000 in
theorem g9 {r : List RvT} {A : Option Addr} {c : Nat} {Y : Option Addr} {cy : Nat} {ys : List Int} {w : World} (hR : K.Rd w A 4 eR r) (hn : r.length ≤ 17592186043904) (hT : Tab w) (hY : K.Rd w Y 1 eH ys) (hyb : ∀ x ∈ ys, 0 ≤ x ∧ x ≤ 65535) (hyl : ys.length ≤ 140737488351232) (hc : (chk r).2.2 = 0) :
    Calls Tryd.prog 9 [.slice A r.length c, .slice Y ys.length cy].toArray w (K.Gives (.bool true) w) := by
  have hn4 : r.length ≤ 4611686018427387904 := by omega
  have g : Good r := chk_good hc
  have hgn := g.n
  obtain ⟨hRl, hch, hmin, hz0⟩ := least_L hc
  have hRn : Runs r (anyS r (turnS ys)) := any_runs g (fun i => (turn_bd hyb).1)
  have hal := hRn.l
  have hll := hRl.l
  have hma := hmin _ hRn
  have hrun := runs_iff.2 hRl
  have hzb : (decide (lstC r = 0) != decide (((badL r).length : Int) = 0)) = false := by
    by_cases h : lstC r = 0
    · rw [hz0.1 h, decide_eq_true h]; rfl
    · have : ¬ ((badL r).length : Int) = 0 := fun e => h (hz0.2 (List.eq_nil_of_length_eq_zero (by omega)))
      rw [decide_eq_false h, decide_eq_false this]; rfl
  refine K.enter (args := [.slice A r.length c, .slice Y ys.length cy]) Tryd.func9 rfl (n := 159) rfl ?_
  simp only [List.replicate, List.cons_append, List.nil_append]
  refine sr ?_
  refine qa ?_
  refine sn ?_
  refine sr ?_
  refine qm ?_
  refine K.seq_loud (K.call_f cal_32 (fun F w hF hw => (by have hg := c32 (c := c) (hR.pass hw) hn4; rw [hc] at hg; exact hg))) rfl ?_
  rintro ⟨Q1, q1⟩ hq1
  refine zN ?_
  refine qm ?_
  refine qx ?_
  refine qx ?_
  refine qx ?_
  iterate 3 refine qa ?_
  refine sn ?_
  refine K.seq ?_
  refine sr ?_
  refine qm ?_
  refine K.seq_call (K.call_g cal_35 (fun F w hF hw => c35 (hR.pass hw) hn4)) rfl ?_
  refine zN ?_
  first | refine K.seq_pure (K.Pure.eq (K.not_d rfl) (show _ = Value.bool false from by rw [decide_eq_true hc]; rfl)) rfl ?_ | refine K.seq_pure (K.Pure.eq (K.not_ rfl) (show _ = Value.bool false from by rw [decide_eq_true hc]; rfl)) rfl ?_
  refine zN ?_
  refine sn ?_
  refine K.cond_false rfl ?_
  refine K.skip ?_
  refine K.norm_then ?_
  refine sr ?_
  refine qm ?_
  refine K.seq_loud (K.call_f cal_16 (fun F w hF hw => (by have hg := c16 (c := c) (hR.pass hw) hn4; rw [hc] at hg; exact hg))) rfl ?_
  rintro ⟨Q2, q2⟩ hq2
  refine zN ?_
  refine qm ?_
  refine qx ?_
  refine qx ?_
  iterate 2 refine qa ?_
  refine sn ?_
  refine K.seq ?_
  refine sr ?_
  refine qm ?_
  refine qp (K.Pure.eq (K.neq rfl rfl) (show _ = Value.bool false from congrArg Value.bool (rfl))) ?_
  iterate 2 refine qm ?_
  refine qp (K.Pure.eq (K.neq rfl rfl) (show _ = Value.bool false from congrArg Value.bool (rfl))) ?_
  refine qp (K.pick_f rfl) ?_
  iterate 3 refine qm ?_
  refine K.seq_call (K.call_g cal_39 (fun F w hF hw => (by have hX := (K.Rd.own (e := K.eI) (xs := (lstL r)) hw (hF _ (K.m1)) hq1 (fun _ => rfl) (by decide)); have hg := c39 (c := c) (d := q1) (hR.pass hw) hX g (by omega); rw [hrun] at hg; exact hg))) rfl ?_
  refine zN ?_
  first | refine K.seq_pure (K.Pure.eq (K.not_d rfl) (show _ = Value.bool false from rfl)) rfl ?_ | refine K.seq_pure (K.Pure.eq (K.not_ rfl) (show _ = Value.bool false from rfl)) rfl ?_
  refine zN ?_
  refine qp (K.pick_f rfl) ?_
  iterate 3 refine qm ?_
  refine K.seq_call (K.call_g cal_43 (fun F w hF hw => (by have hX := (K.Rd.own (e := K.eI) (xs := (lstL r)) hw (hF _ (K.m1)) hq1 (fun _ => rfl) (by decide)); exact c43 (c := c) (d := q1) (hR.pass hw) hX hll g (run_bd hRl)))) rfl ?_
  refine zN ?_
  refine qm ?_
  refine qp (K.Pure.eq (K.neq rfl rfl) (show _ = Value.bool false from congrArg Value.bool (decide_eq_false (by omega)))) ?_
  refine qp (K.pick_f rfl) ?_
  iterate 2 refine qm ?_
  refine qp (K.eql rfl rfl) ?_
  refine qm ?_
  refine qp (K.len_sl sl_26 rfl) ?_
  refine qp (K.eql rfl rfl) ?_
  refine qp (K.Pure.eq (K.neq_bb bo_4 rfl rfl) (show _ = Value.bool false from congrArg Value.bool (hzb))) ?_
  refine qp (K.pick_f rfl) ?_
  iterate 4 refine qm ?_
  refine K.seq_loud (K.call_f cal_40 (fun F w hF hw => c40 (hR.pass hw) (hY.pass hw) hyb hyl g)) rfl ?_
  rintro ⟨Q3, q3⟩ hq3
  refine zN ?_
  refine K.seq_call (K.call_g cal_43 (fun F w hF hw => (by have hX := (K.Rd.own (e := K.eI) (xs := (anyS r (turnS ys))) hw (hF _ (K.m0)) hq3 (fun _ => rfl) (by decide)); exact c43 (c := c) (d := q3) (hR.pass hw) hX hal g (run_bd hRn)))) rfl ?_
  refine zN ?_
  refine qm ?_
  refine qp (K.Pure.eq (K.lss rfl rfl) (show _ = Value.bool false from congrArg Value.bool (decide_eq_false (by omega)))) ?_
  refine qp (K.pick_f rfl) ?_
  refine sn ?_
  refine K.cond_false rfl ?_
  refine K.skip ?_
  refine K.norm_then ?_
  refine sr ?_
  refine qm ?_
  refine K.seq_loud (K.call_f cal_21 (fun F w hF hw => c21 (hR.pass hw) hn4)) rfl ?_
  rintro ⟨Q4, q4⟩ hq4
  refine zN ?_
  refine qm ?_
  refine qx ?_
  refine qx ?_
  iterate 2 refine qa ?_
  refine sn ?_
  refine sr ?_
  refine qm ?_
  refine K.seq_loud (K.call_f cal_23 (fun F w hF hw => c23 (hR.pass hw) hn4)) rfl ?_
  rintro ⟨Q5, q5⟩ hq5
  refine zN ?_
  refine qm ?_
  refine qx ?_
  refine qx ?_
  iterate 2 refine qa ?_
  refine sn ?_
  refine K.seq ?_
  refine K.seq ?_
  refine K.joinW [124] [91, 92, 93, 94, 95, 96, 97, 98, 99, 100, 101, 102, 103, 104, 105, 106, 107, 108, 109, 110, 111, 112, 113, 114, 115, 116, 117, 118, 119, 120, 121, 122, 123] (fun vi L => vi = [.bool false] ∧ L = [K.row (.slice Q5 (carveL r).length q5) 3 1 (carveL r).length ((carveL r).flatMap K.eI), K.row (.slice Q4 (fillL r).length q4) 3 1 (fillL r).length ((fillL r).flatMap K.eI), K.row (.slice Q3 (anyS r (turnS ys)).length q3) 3 1 (anyS r (turnS ys)).length ((anyS r (turnS ys)).flatMap K.eI), K.row (.slice Q2 (badL r).length q2) 3 1 (badL r).length ((badL r).flatMap K.eI), K.row (.slice Q1 (lstL r).length q1) 3 1 (lstL r).length ((lstL r).flatMap K.eI)]) ?_ ?_
  · refine K.region_lit ?_
    refine qm ?_
    refine qp (K.eql rfl rfl) ?_
    refine qm ?_
    refine K.split 93 rfl (fun hg93 => ?_) (fun hg93 => ?_)
    · try replace hg93 := of_decide_eq_true hg93
      obtain ⟨hfl, hfr⟩ := fill_ok hg93
      have hfe := hfr.l
      have hfm := hmin _ hfr
      refine qm ?_
      refine qp (K.len_sl sl_26 rfl) ?_
      refine qm ?_
      refine qp (K.len_sl sl_22 rfl) ?_
      refine qp (K.Pure.eq (K.neq rfl rfl) (show _ = Value.bool false from congrArg Value.bool (decide_eq_false (by omega)))) ?_
      iterate 3 refine qm ?_
      refine K.seq_call (K.call_g cal_43 (fun F w hF hw => (by have hX := (K.Rd.own (e := K.eI) (xs := (fillL r)) hw (hF _ (K.m1)) hq4 (fun _ => rfl) (by decide)); exact c43 (c := c) (d := q4) (hR.pass hw) hX hfe g (run_bd hfr)))) rfl ?_
      refine zN ?_
      refine qm ?_
      refine qp (K.Pure.eq (K.lss rfl rfl) (show _ = Value.bool false from congrArg Value.bool (decide_eq_false (by omega)))) ?_
      refine qp (K.pick_f rfl) ?_
      refine qp (K.pick_t rfl) ?_
      iterate 2 refine qm ?_
      refine qp (K.eql rfl rfl) ?_
      refine qm ?_
      refine K.split 110 rfl (fun hg110 => ?_) (fun hg110 => ?_)
      · try replace hg110 := of_decide_eq_true hg110
        obtain ⟨hcl, hcr⟩ := carve_ok hg110
        have hce := hcr.l
        have hcm := hmin _ hcr
        refine qm ?_
        refine qp (K.len_sl sl_26 rfl) ?_
        refine qm ?_
        refine qp (K.len_sl sl_22 rfl) ?_
        refine qp (K.Pure.eq (K.neq rfl rfl) (show _ = Value.bool false from congrArg Value.bool (decide_eq_false (by omega)))) ?_
        iterate 3 refine qm ?_
        refine K.seq_call (K.call_g cal_43 (fun F w hF hw => (by have hX := (K.Rd.own (e := K.eI) (xs := (carveL r)) hw (hF _ (K.m0)) hq5 (fun _ => rfl) (by decide)); exact c43 (c := c) (d := q5) (hR.pass hw) hX hce g (run_bd hcr)))) rfl ?_
        refine zN ?_
        refine qm ?_
        refine qp (K.Pure.eq (K.lss rfl rfl) (show _ = Value.bool false from congrArg Value.bool (decide_eq_false (by omega)))) ?_
        refine qp (K.pick_f rfl) ?_
        refine qp (K.pick_t rfl) ?_
        refine qp (K.pick_f rfl) ?_
        refine K.seq_nil ?_
        exact K.join_here (L' := [K.row (.slice Q5 (carveL r).length q5) 3 1 (carveL r).length ((carveL r).flatMap K.eI), K.row (.slice Q4 (fillL r).length q4) 3 1 (fillL r).length ((fillL r).flatMap K.eI), K.row (.slice Q3 (anyS r (turnS ys)).length q3) 3 1 (anyS r (turnS ys)).length ((anyS r (turnS ys)).flatMap K.eI), K.row (.slice Q2 (badL r).length q2) 3 1 (badL r).length ((badL r).flatMap K.eI), K.row (.slice Q1 (lstL r).length q1) 3 1 (lstL r).length ((lstL r).flatMap K.eI)]) [.bool false] ⟨rfl, rfl⟩ (fun w h => h) (by kernel_rfl)
      try replace hg110 := of_decide_eq_false hg110
      iterate 12 refine qs ?_
      refine qp (K.pick_f rfl) ?_
      refine qp (K.pick_f rfl) ?_
      refine K.seq_nil ?_
      exact K.join_here (L' := [K.row (.slice Q5 (carveL r).length q5) 3 1 (carveL r).length ((carveL r).flatMap K.eI), K.row (.slice Q4 (fillL r).length q4) 3 1 (fillL r).length ((fillL r).flatMap K.eI), K.row (.slice Q3 (anyS r (turnS ys)).length q3) 3 1 (anyS r (turnS ys)).length ((anyS r (turnS ys)).flatMap K.eI), K.row (.slice Q2 (badL r).length q2) 3 1 (badL r).length ((badL r).flatMap K.eI), K.row (.slice Q1 (lstL r).length q1) 3 1 (lstL r).length ((lstL r).flatMap K.eI)]) [.bool false] ⟨rfl, rfl⟩ (fun w h => h) (by kernel_rfl)
    try replace hg93 := of_decide_eq_false hg93
    iterate 12 refine qs ?_
    refine qp (K.pick_f rfl) ?_
    iterate 2 refine qm ?_
    refine qp (K.eql rfl rfl) ?_
    refine qm ?_
    refine K.split 110 rfl (fun hg110 => ?_) (fun hg110 => ?_)
    · try replace hg110 := of_decide_eq_true hg110
      obtain ⟨hcl, hcr⟩ := carve_ok hg110
      have hce := hcr.l
      have hcm := hmin _ hcr
      refine qm ?_
      refine qp (K.len_sl sl_26 rfl) ?_
      refine qm ?_
      refine qp (K.len_sl sl_22 rfl) ?_
      refine qp (K.Pure.eq (K.neq rfl rfl) (show _ = Value.bool false from congrArg Value.bool (decide_eq_false (by omega)))) ?_
      iterate 3 refine qm ?_
      refine K.seq_call (K.call_g cal_43 (fun F w hF hw => (by have hX := (K.Rd.own (e := K.eI) (xs := (carveL r)) hw (hF _ (K.m0)) hq5 (fun _ => rfl) (by decide)); exact c43 (c := c) (d := q5) (hR.pass hw) hX hce g (run_bd hcr)))) rfl ?_
      refine zN ?_
      refine qm ?_
      refine qp (K.Pure.eq (K.lss rfl rfl) (show _ = Value.bool false from congrArg Value.bool (decide_eq_false (by omega)))) ?_
      refine qp (K.pick_f rfl) ?_
      refine qp (K.pick_t rfl) ?_
      refine qp (K.pick_f rfl) ?_
      refine K.seq_nil ?_
      exact K.join_here (L' := [K.row (.slice Q5 (carveL r).length q5) 3 1 (carveL r).length ((carveL r).flatMap K.eI), K.row (.slice Q4 (fillL r).length q4) 3 1 (fillL r).length ((fillL r).flatMap K.eI), K.row (.slice Q3 (anyS r (turnS ys)).length q3) 3 1 (anyS r (turnS ys)).length ((anyS r (turnS ys)).flatMap K.eI), K.row (.slice Q2 (badL r).length q2) 3 1 (badL r).length ((badL r).flatMap K.eI), K.row (.slice Q1 (lstL r).length q1) 3 1 (lstL r).length ((lstL r).flatMap K.eI)]) [.bool false] ⟨rfl, rfl⟩ (fun w h => h) (by kernel_rfl)
    try replace hg110 := of_decide_eq_false hg110
    iterate 12 refine qs ?_
    refine qp (K.pick_f rfl) ?_
    refine qp (K.pick_f rfl) ?_
    refine K.seq_nil ?_
    exact K.join_here (L' := [K.row (.slice Q5 (carveL r).length q5) 3 1 (carveL r).length ((carveL r).flatMap K.eI), K.row (.slice Q4 (fillL r).length q4) 3 1 (fillL r).length ((fillL r).flatMap K.eI), K.row (.slice Q3 (anyS r (turnS ys)).length q3) 3 1 (anyS r (turnS ys)).length ((anyS r (turnS ys)).flatMap K.eI), K.row (.slice Q2 (badL r).length q2) 3 1 (badL r).length ((badL r).flatMap K.eI), K.row (.slice Q1 (lstL r).length q1) 3 1 (lstL r).length ((lstL r).flatMap K.eI)]) [.bool false] ⟨rfl, rfl⟩ (fun w h => h) (by kernel_rfl)
  intro vi vr L hJ
  obtain ⟨rfl, rfl⟩ := hJ
  try dsimp only [setd, setn, ev, nth, over, cl, eI, eP, eT, eR, setM, setF, List.map, List.append, List.drop, List.take]
  refine K.norm_then ?_
  refine K.cond_false rfl ?_
  refine K.skip ?_
  refine K.norm_then ?_
  refine sr ?_
  iterate 2 refine qm ?_
  refine K.seq_loud (K.call_f cal_40 (fun F w hF hw => c40 (hR.pass hw) (hY.pass hw) hyb hyl g)) rfl ?_
  rintro ⟨Q6, q6⟩ hq6
  refine zN ?_
  refine qa ?_
  refine sn ?_
  refine sr ?_
  refine K.nil_row (e := 3) (size := 1) ?_
  refine K.permH (L' := [_, _, _, _, _, _, _]) (List.Perm.trans (List.perm_middle (l₁ := [_])) (List.Perm.cons _ (List.Perm.trans (List.perm_middle (l₁ := [_])) (List.Perm.cons _ (List.Perm.trans (List.perm_middle (l₁ := [_])) (List.Perm.cons _ (List.Perm.trans (List.perm_middle (l₁ := [_])) (List.Perm.cons _ (List.Perm.trans (List.perm_middle (l₁ := [_])) (List.Perm.cons _ (List.Perm.trans (List.perm_middle (l₁ := [_])) (List.Perm.cons _ (List.Perm.refl _))))))))))))) ?_
  refine qa ?_
  refine sn ?_
  refine K.seq ?_
  refine sr ?_
  refine qa ?_
  refine sn ?_
  refine K.block ?_
  refine K.loopW [15, 16] [128, 129, 130, 131, 132, 133, 134, 135, 136, 137, 138, 139, 140, 141, 142, 143, 144, 145, 146] (fun vi L => ∃ (k : Nat) (QM : Option Addr) (qz : Nat), vi = [.slice QM (midF (lstL r) (anyS r (turnS ys)) k).length qz, .int .i64 (k : Int)] ∧ L = [K.row (.slice Q6 (anyS r (turnS ys)).length q6) 3 1 (anyS r (turnS ys)).length ((anyS r (turnS ys)).flatMap K.eI), K.row (.slice Q5 (carveL r).length q5) 3 1 (carveL r).length ((carveL r).flatMap K.eI), K.row (.slice Q4 (fillL r).length q4) 3 1 (fillL r).length ((fillL r).flatMap K.eI), K.row (.slice Q3 (anyS r (turnS ys)).length q3) 3 1 (anyS r (turnS ys)).length ((anyS r (turnS ys)).flatMap K.eI), K.row (.slice Q2 (badL r).length q2) 3 1 (badL r).length ((badL r).flatMap K.eI), K.row (.slice Q1 (lstL r).length q1) 3 1 (lstL r).length ((lstL r).flatMap K.eI), K.row (.slice QM (midF (lstL r) (anyS r (turnS ys)) k).length qz) 3 1 (midF (lstL r) (anyS r (turnS ys)) k).length ((midF (lstL r) (anyS r (turnS ys)) k).flatMap K.eI)] ∧ k ≤ r.length) (fun vi => r.length - (intOf (K.nth vi 1)).toNat) ?_ ?_
  · exact ⟨0, none, 0, rfl, rfl, Nat.zero_le _⟩
  intro vi vr L hJ
  obtain ⟨k, QM, qz, rfl, rfl, hkn⟩ := hJ
  try dsimp only [setd, setn, ev, nth, over, cl, eI, eP, eT, eR, setM, setF, List.map, List.append, List.drop, List.take]
  refine K.seq ?_
  refine sr ?_
  iterate 2 refine qm ?_
  refine qp (K.len_sl sl_22 rfl) ?_
  refine qp (K.lss rfl rfl) ?_
  refine sn ?_
  refine K.cond rfl (fun ht131 => ?_) (fun ht131 => ?_)
  · try replace ht131 := of_decide_eq_true ht131
    have hk : k < r.length := by omega
    have hb1 := hRl.b k hk
    have hb2 := hRn.b k hk
    have hmk := mid_len (a := (lstL r)) (b := (anyS r (turnS ys))) (k := k)
    refine K.skip ?_
    refine K.norm_then ?_
    refine K.seq ?_
    refine K.block ?_
    refine K.draw_take 6 [] Tryd_mixed ?_
    refine K.d_pure 0 rfl (K.move) (by kernel_rfl) rfl ?_
    refine zn ?_
    refine K.d_pure 1 rfl (K.move) (by kernel_rfl) rfl ?_
    refine zn ?_
    refine K.d_pure 2 rfl (K.move) (by kernel_rfl) rfl ?_
    refine zn ?_
    refine K.d_ix (M := [K.row (.slice Q1 (lstL r).length q1) 3 1 (lstL r).length ((lstL r).flatMap K.eI)]) 3 _ rfl (K.Sl.own (w0 := w) (t := 3) (c := q1) (e := K.eI) hq1 (fun _ => rfl)) sl_26 rfl rfl rfl (by omega) (by kernel_rfl) rfl ?_
    intro p137 hp137
    refine zN ?_
    refine K.d_mem 4 rfl (K.load1 one_3 rfl (hp137.at1 (K.m5))) (fun _ h => K.take_sub 6 _ h) (by kernel_rfl) (by kernel_rfl) rfl ?_
    refine zN ?_
    refine K.d_pure 5 rfl (K.move) (by kernel_rfl) rfl ?_
    refine zn ?_
    refine K.d_pure 6 rfl (K.move) (by kernel_rfl) rfl ?_
    refine zn ?_
    refine K.d_ix (M := [K.row (.slice Q6 (anyS r (turnS ys)).length q6) 3 1 (anyS r (turnS ys)).length ((anyS r (turnS ys)).flatMap K.eI)]) 7 _ rfl (K.Sl.own (w0 := w) (t := 3) (c := q6) (e := K.eI) hq6 (fun _ => rfl)) sl_26 rfl rfl rfl (by omega) (by kernel_rfl) rfl ?_
    intro p141 hp141
    refine zN ?_
    refine K.d_mem 8 rfl (K.load1 one_3 rfl (hp141.at1 (K.m0))) (fun _ h => K.take_sub 6 _ h) (by kernel_rfl) (by kernel_rfl) rfl ?_
    refine zN ?_
    refine K.d_pure 9 rfl (K.add_i64 rfl rfl (by omega)) (by kernel_rfl) rfl ?_
    refine zn ?_
    refine K.d_pure 10 rfl (K.quo_i64 rfl rfl (by omega) (by omega) (by omega)) (by kernel_rfl) rfl ?_
    refine zn ?_
    refine K.d_new 11 rfl (K.buildSlice (bs1 _)) (fun _ h => K.take_sub 6 _ h) (by kernel_rfl) rfl ?_
    intro b145
    refine zN ?_
    refine K.d_upd 12 rfl (K.append el_26 rfl rfl (K.PtrL.own' (K.m0)) rfl rfl (by decide) (by omega) (by omega) (fun _ _ => K.rp7)) (fun _ => fun _ h => K.tl (K.take_sub 6 _ h)) (by kernel_rfl) rfl ?_
    rintro ⟨g146, c146⟩ _
    refine zN ?_
    refine K.d_pure 13 rfl (K.assign) (by kernel_rfl) rfl ?_
    refine zn ?_
    refine K.d_done (by kernel_rfl) ?_
    refine K.norm_block ?_
    refine K.norm_then ?_
    refine K.region_lit ?_
    refine qm ?_
    refine qp (K.add_i64 rfl rfl (by omega)) ?_
    refine qa ?_
    refine K.seq_nil ?_
    exact K.round_endW (L'' := [K.row (.slice Q6 (anyS r (turnS ys)).length q6) 3 1 (anyS r (turnS ys)).length ((anyS r (turnS ys)).flatMap K.eI), K.row (.slice Q5 (carveL r).length q5) 3 1 (carveL r).length ((carveL r).flatMap K.eI), K.row (.slice Q4 (fillL r).length q4) 3 1 (fillL r).length ((fillL r).flatMap K.eI), K.row (.slice Q3 (anyS r (turnS ys)).length q3) 3 1 (anyS r (turnS ys)).length ((anyS r (turnS ys)).flatMap K.eI), K.row (.slice Q2 (badL r).length q2) 3 1 (badL r).length ((badL r).flatMap K.eI), K.row (.slice Q1 (lstL r).length q1) 3 1 (lstL r).length ((lstL r).flatMap K.eI), K.row (.slice (some ⟨g146, 0, none⟩) ((midF (lstL r) (anyS r (turnS ys)) k).length + 1) c146) 3 1 ((midF (lstL r) (anyS r (turnS ys)) k).length + 1) ((midF (lstL r) (anyS r (turnS ys)) k).flatMap K.eI ++ [.int .i64 (((lstL r).getD k default + (anyS r (turnS ys)).getD k default) / 2)])]) [.slice (some ⟨g146, 0, none⟩) ((midF (lstL r) (anyS r (turnS ys)) k).length + 1) c146, .int .i64 ((k : Int) + 1)] ⟨k + 1, some ⟨g146, 0, none⟩, c146, by rw [mid_s, List.length_append]; rfl, by rw [mid_s, List.length_append, List.flatMap_append]; rfl, by omega⟩ (by simp [K.nth, intOf]; omega) (List.Sublist.cons _ (List.Sublist.refl _)) (by kernel_rfl)
  try replace ht131 := of_decide_eq_false ht131
  have e0 : k = r.length := by omega
  subst e0
  have hml := mid_len (a := (lstL r)) (b := (anyS r (turnS ys))) (k := r.length)
  refine K.exit ?_
  refine K.exit_then ?_
  refine K.exit_then ?_
  refine K.exit_here ?_
  refine K.norm_then ?_
  refine K.seq ?_
  refine K.use_row K.m6 (fun hqM => ?_)
  refine K.region_lit ?_
  iterate 2 refine qm ?_
  refine K.seq_call (K.call_g cal_39 (fun F w hF hw => (by have hX := (K.Rd.own (e := K.eI) (xs := (midF (lstL r) (anyS r (turnS ys)) r.length)) hw (hF _ (K.m6)) hqM (fun _ => rfl) (by decide)); exact c39 (c := c) (d := qz) (hR.pass hw) hX g (by omega)))) rfl ?_
  refine zN ?_
  first | refine K.seq_pure (K.not_d rfl) rfl ?_ | refine K.seq_pure (K.not_ rfl) rfl ?_
  refine zN ?_
  refine qm ?_
  refine K.split 151 rfl (fun hg151 => ?_) (fun hg151 => ?_)
  · try replace hg151 := of_decide_eq_true hg151
    iterate 5 refine qs ?_
    refine qp (K.pick_t rfl) ?_
    refine qm ?_
    refine K.seq_call (K.call_g cal_25 (fun F w hF hw => c25 (hT.pass hw))) rfl ?_
    refine zN ?_
    refine qp (K.pick_t rfl) ?_
    refine qa ?_
    refine sn ?_
    refine K.ret ?_
    refine K.end_ret (fun w _ => K.res_tmp rfl w) ?_
    exact K.gives rfl
  try replace hg151 := of_decide_eq_false hg151
  have hRm : Runs r (midF (lstL r) (anyS r (turnS ys)) r.length) := runs_iff.1 (by simpa using hg151)
  have hmm := hmin _ hRm
  iterate 2 refine qm ?_
  refine K.seq_call (K.call_g cal_43 (fun F w hF hw => (by have hX := (K.Rd.own (e := K.eI) (xs := (midF (lstL r) (anyS r (turnS ys)) r.length)) hw (hF _ (K.m6)) hqM (fun _ => rfl) (by decide)); exact c43 (c := c) (d := qz) (hR.pass hw) hX hml g (run_bd hRm)))) rfl ?_
  refine zN ?_
  refine qm ?_
  refine qp (K.Pure.eq (K.geq rfl rfl) (show _ = Value.bool true from congrArg Value.bool (decide_eq_true (by omega)))) ?_
  refine qp (K.pick_f rfl) ?_
  refine qm ?_
  refine K.seq_call (K.call_g cal_25 (fun F w hF hw => c25 (hT.pass hw))) rfl ?_
  refine zN ?_
  refine qp (K.pick_t rfl) ?_
  refine qa ?_
  refine sn ?_
  refine K.ret ?_
  refine K.end_ret (fun w _ => K.res_tmp rfl w) ?_
  exact K.gives rfl

theorem c9 {r : List RvT} {A : Option Addr} {c : Nat} {Y : Option Addr} {cy : Nat} {ys : List Int} {w : World} (hR : K.Rd w A 4 eR r) (hn : r.length ≤ 17592186043904) (hT : Tab w) (hY : K.Rd w Y 1 eH ys) (hyb : ∀ x ∈ ys, 0 ≤ x ∧ x ≤ 65535) (hyl : ys.length ≤ 140737488351232) : Calls Tryd.prog 9 [.slice A r.length c, .slice Y ys.length cy].toArray w (K.Gives (.bool true) w) := by
  by_cases hc : (chk r).2.2 = 0
  · exact g9 hR hn hT hY hyb hyl hc
  · exact e9 hR hn hT hY hyb hyl hc


end Go.Proofs.YtoemnobfnnjopaaDoor
