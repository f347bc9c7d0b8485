/-
  Walks of the program's functions, printed by program: what each returns.
  Conditions stand in each theorem.
-/
import Derived.WalkArith
import Derived.Laws.Closers25b
import Derived.Test.YtoemnobfnnjopaaDoorSY
import Derived.Test.YtoemnobfnnjopaaDoorXa
set_option linter.unusedSimpArgs false
set_option linter.unusedVariables false
namespace Go.Proofs.YtoemnobfnnjopaaDoor
open Go.RowKit Go
open Go.K (setd setn ev nth over cl eI eP eT setM setF)
attribute [local irreducible] K.blk K.row

set_option maxRecDepth 100000 in
theorem e10 {r : List RvT} {A : Option Addr} {c : Nat} {z : Int} {w : World} (hR : K.Rd w A 4 eR r) (hn : r.length ≤ 17592186043904) (hT : Tab w) (hc : (chk r).2.2 ≠ 0) :
    Calls Tryd.prog 10 [.slice A r.length c, .int .i64 z].toArray w (K.Gives (.bool true) w) := by
  have hn4 : r.length ≤ 4611686018427387904 := by omega
  have he : pouE r z ≠ 0 := by unfold pouE; rw [if_pos hc]; exact hc
  have hl0 : (pouL r z).length = 0 := by unfold pouL; rw [if_neg he]; rfl
  refine K.enter (args := [.slice A r.length c, .int .i64 z]) Tryd.func10 rfl (n := 143) rfl ?_
  simp only [List.replicate, List.cons_append, List.nil_append]
  refine sr ?_
  refine qa ?_
  refine sn ?_
  refine sr ?_
  iterate 2 refine qm ?_
  refine K.seq_loud (K.call_f cal_19 (fun F w hF hw => c19 (hR.pass hw) hn4)) rfl ?_
  rintro ⟨Q1, q1⟩ hq1
  refine zN ?_
  refine qm ?_
  refine qx ?_
  refine qx ?_
  iterate 2 refine qa ?_
  refine sn ?_
  refine K.seq ?_
  refine sr ?_
  refine qm ?_
  refine K.seq_call (K.call_g cal_35 (fun F w hF hw => c35 (hR.pass hw) hn4)) rfl ?_
  refine zN ?_
  first | refine K.seq_pure (K.Pure.eq (K.not_d rfl) (show _ = Value.bool true from by rw [decide_eq_false hc]; rfl)) rfl ?_ | refine K.seq_pure (K.Pure.eq (K.not_ rfl) (show _ = Value.bool true from by rw [decide_eq_false hc]; rfl)) rfl ?_
  refine zN ?_
  refine qm ?_
  iterate 2 refine qs ?_
  refine qp (K.pick_t rfl) ?_
  refine qm ?_
  iterate 4 refine qs ?_
  refine qp (K.pick_t rfl) ?_
  refine sn ?_
  refine K.cond_true rfl ?_
  refine sr ?_
  refine qm ?_
  refine qp (K.Pure.eq (K.neq rfl rfl) (show _ = Value.bool true from congrArg Value.bool (decide_eq_true he))) ?_
  iterate 2 refine qm ?_
  refine qp (K.len_sl sl_26 rfl) ?_
  refine qp (K.Pure.eq (K.eql rfl rfl) (show _ = Value.bool true from congrArg Value.bool (decide_eq_true (by omega)))) ?_
  refine qp (K.pick_t rfl) ?_
  refine qm ?_
  refine K.seq_call (K.call_g cal_25 (fun F w hF hw => c25 (hT.pass hw))) rfl ?_
  refine zN ?_
  refine qp (K.pick_t rfl) ?_
  refine qa ?_
  refine sn ?_
  refine K.ret ?_
  refine K.ret_then ?_
  refine K.end_ret (fun w _ => K.res_tmp rfl w) ?_
  exact K.gives rfl

set_option maxRecDepth 100000 in
theorem f10 {r : List RvT} {A : Option Addr} {c : Nat} {z : Int} {w : World} (hR : K.Rd w A 4 eR r) (hn : r.length ≤ 17592186043904) (hT : Tab w) (hc : (chk r).2.2 = 0) (hz : z < 0) :
    Calls Tryd.prog 10 [.slice A r.length c, .int .i64 z].toArray w (K.Gives (.bool true) w) := by
  have hn4 : r.length ≤ 4611686018427387904 := by omega
  have he : pouE r z ≠ 0 := by unfold pouE; rw [if_neg (by omega), if_neg (by omega)]; decide
  have hl0 : (pouL r z).length = 0 := by unfold pouL; rw [if_neg he]; rfl
  refine K.enter (args := [.slice A r.length c, .int .i64 z]) Tryd.func10 rfl (n := 143) rfl ?_
  simp only [List.replicate, List.cons_append, List.nil_append]
  refine sr ?_
  refine qa ?_
  refine sn ?_
  refine sr ?_
  iterate 2 refine qm ?_
  refine K.seq_loud (K.call_f cal_19 (fun F w hF hw => c19 (hR.pass hw) hn4)) rfl ?_
  rintro ⟨Q1, q1⟩ hq1
  refine zN ?_
  refine qm ?_
  refine qx ?_
  refine qx ?_
  iterate 2 refine qa ?_
  refine sn ?_
  refine K.seq ?_
  refine sr ?_
  refine qm ?_
  refine K.seq_call (K.call_g cal_35 (fun F w hF hw => c35 (hR.pass hw) hn4)) rfl ?_
  refine zN ?_
  first | refine K.seq_pure (K.Pure.eq (K.not_d rfl) (show _ = Value.bool false from by rw [decide_eq_true hc]; rfl)) rfl ?_ | refine K.seq_pure (K.Pure.eq (K.not_ rfl) (show _ = Value.bool false from by rw [decide_eq_true hc]; rfl)) rfl ?_
  refine zN ?_
  iterate 2 refine qm ?_
  refine qp (K.Pure.eq (K.lss rfl rfl) (show _ = Value.bool true from congrArg Value.bool (decide_eq_true hz))) ?_
  refine qp (K.pick_f rfl) ?_
  refine qm ?_
  iterate 4 refine qs ?_
  refine qp (K.pick_t rfl) ?_
  refine sn ?_
  refine K.cond_true rfl ?_
  refine sr ?_
  refine qm ?_
  refine qp (K.Pure.eq (K.neq rfl rfl) (show _ = Value.bool true from congrArg Value.bool (decide_eq_true he))) ?_
  iterate 2 refine qm ?_
  refine qp (K.len_sl sl_26 rfl) ?_
  refine qp (K.Pure.eq (K.eql rfl rfl) (show _ = Value.bool true from congrArg Value.bool (decide_eq_true (by omega)))) ?_
  refine qp (K.pick_t rfl) ?_
  refine qm ?_
  refine K.seq_call (K.call_g cal_25 (fun F w hF hw => c25 (hT.pass hw))) rfl ?_
  refine zN ?_
  refine qp (K.pick_t rfl) ?_
  refine qa ?_
  refine sn ?_
  refine K.ret ?_
  refine K.ret_then ?_
  refine K.end_ret (fun w _ => K.res_tmp rfl w) ?_
  exact K.gives rfl

set_option maxRecDepth 100000 in
theorem h10 {r : List RvT} {A : Option Addr} {c : Nat} {z : Int} {w : World} (hR : K.Rd w A 4 eR r) (hn : r.length ≤ 17592186043904) (hT : Tab w) (hc : (chk r).2.2 = 0) (hz : 0 ≤ z) (hz2 : (r.length : Int) ≤ z) :
    Calls Tryd.prog 10 [.slice A r.length c, .int .i64 z].toArray w (K.Gives (.bool true) w) := by
  have hn4 : r.length ≤ 4611686018427387904 := by omega
  have he : pouE r z ≠ 0 := by unfold pouE; rw [if_neg (by omega), if_neg (by omega)]; decide
  have hl0 : (pouL r z).length = 0 := by unfold pouL; rw [if_neg he]; rfl
  refine K.enter (args := [.slice A r.length c, .int .i64 z]) Tryd.func10 rfl (n := 143) rfl ?_
  simp only [List.replicate, List.cons_append, List.nil_append]
  refine sr ?_
  refine qa ?_
  refine sn ?_
  refine sr ?_
  iterate 2 refine qm ?_
  refine K.seq_loud (K.call_f cal_19 (fun F w hF hw => c19 (hR.pass hw) hn4)) rfl ?_
  rintro ⟨Q1, q1⟩ hq1
  refine zN ?_
  refine qm ?_
  refine qx ?_
  refine qx ?_
  iterate 2 refine qa ?_
  refine sn ?_
  refine K.seq ?_
  refine sr ?_
  refine qm ?_
  refine K.seq_call (K.call_g cal_35 (fun F w hF hw => c35 (hR.pass hw) hn4)) rfl ?_
  refine zN ?_
  first | refine K.seq_pure (K.Pure.eq (K.not_d rfl) (show _ = Value.bool false from by rw [decide_eq_true hc]; rfl)) rfl ?_ | refine K.seq_pure (K.Pure.eq (K.not_ rfl) (show _ = Value.bool false from by rw [decide_eq_true hc]; rfl)) rfl ?_
  refine zN ?_
  iterate 2 refine qm ?_
  refine qp (K.Pure.eq (K.lss rfl rfl) (show _ = Value.bool false from congrArg Value.bool (decide_eq_false (by omega)))) ?_
  refine qp (K.pick_f rfl) ?_
  iterate 3 refine qm ?_
  refine qp (K.len_sl sl_22 rfl) ?_
  refine qp (K.Pure.eq (K.geq rfl rfl) (show _ = Value.bool true from congrArg Value.bool (decide_eq_true (by omega)))) ?_
  refine qp (K.pick_f rfl) ?_
  refine sn ?_
  refine K.cond_true rfl ?_
  refine sr ?_
  refine qm ?_
  refine qp (K.Pure.eq (K.neq rfl rfl) (show _ = Value.bool true from congrArg Value.bool (decide_eq_true he))) ?_
  iterate 2 refine qm ?_
  refine qp (K.len_sl sl_26 rfl) ?_
  refine qp (K.Pure.eq (K.eql rfl rfl) (show _ = Value.bool true from congrArg Value.bool (decide_eq_true (by omega)))) ?_
  refine qp (K.pick_t rfl) ?_
  refine qm ?_
  refine K.seq_call (K.call_g cal_25 (fun F w hF hw => c25 (hT.pass hw))) rfl ?_
  refine zN ?_
  refine qp (K.pick_t rfl) ?_
  refine qa ?_
  refine sn ?_
  refine K.ret ?_
  refine K.ret_then ?_
  refine K.end_ret (fun w _ => K.res_tmp rfl w) ?_
  exact K.gives rfl

set_option maxRecDepth 100000 in
set_option maxHeartbeats 2000000 in
theorem g10 {r : List RvT} {A : Option Addr} {c : Nat} {a : Nat} {w : World} (hR : K.Rd w A 4 eR r) (hn : r.length ≤ 17592186043904) (hT : Tab w) (hc : (chk r).2.2 = 0) (ha : a < r.length) :
    Calls Tryd.prog 10 [.slice A r.length c, .int .i64 (a : Int)].toArray w (K.Gives (.bool true) w) := by
  have hn4 : r.length ≤ 4611686018427387904 := by omega
  have g : Good r := chk_good hc
  have hgn := g.n
  have hst := stop_le g ha
  have hda := dep_is g ha
  have hdl := dep_lt g ha
  have hsn := step_len (r := r) (a := a) (k := (stopN r a) + 1)
  have hbl : badL r = (badS r (ownS r)) := by unfold badL; rw [if_neg (by omega)]
  have hsb : (badS r (ownS r)).length ≤ r.length := selN_len
  have he : pouE r (a : Int) = 0 := by unfold pouE; rw [if_neg (by omega), if_pos (by omega)]
  have hpl : pouL r (a : Int) = (stepL r a ((stopN r a) + 1)) := by unfold pouL; rw [if_pos he, Int.toNat_natCast]; rfl
  have hg0 := step_at (r := r) (a := a) (n := (stopN r a) + 1) (k := 0) (by omega)
  have hgn1 := step_at (r := r) (a := a) (n := (stopN r a) + 1) (k := (stopN r a)) (by omega)
  have hln := stps_lt g ha (stopN r a)
  simp only [stps] at hg0
  refine K.enter (args := [.slice A r.length c, .int .i64 (a : Int)]) Tryd.func10 rfl (n := 143) rfl ?_
  simp only [List.replicate, List.cons_append, List.nil_append]
  refine sr ?_
  refine qa ?_
  refine sn ?_
  refine sr ?_
  iterate 2 refine qm ?_
  refine K.seq_loud (K.call_f cal_19 (fun F w hF hw => (by have hg := c19 (c := c) (z := (a : Int)) (hR.pass hw) hn4; rw [hpl, he] at hg; exact hg))) rfl ?_
  rintro ⟨Q1, q1⟩ hq1
  refine zN ?_
  refine qm ?_
  refine qx ?_
  refine qx ?_
  iterate 2 refine qa ?_
  refine sn ?_
  refine K.seq ?_
  refine sr ?_
  refine qm ?_
  refine K.seq_call (K.call_g cal_35 (fun F w hF hw => c35 (hR.pass hw) hn4)) rfl ?_
  refine zN ?_
  first | refine K.seq_pure (K.Pure.eq (K.not_d rfl) (show _ = Value.bool false from by rw [decide_eq_true hc]; rfl)) rfl ?_ | refine K.seq_pure (K.Pure.eq (K.not_ rfl) (show _ = Value.bool false from by rw [decide_eq_true hc]; rfl)) rfl ?_
  refine zN ?_
  iterate 2 refine qm ?_
  refine qp (K.Pure.eq (K.lss rfl rfl) (show _ = Value.bool false from congrArg Value.bool (decide_eq_false (by omega)))) ?_
  refine qp (K.pick_f rfl) ?_
  iterate 3 refine qm ?_
  refine qp (K.len_sl sl_22 rfl) ?_
  refine qp (K.Pure.eq (K.geq rfl rfl) (show _ = Value.bool false from congrArg Value.bool (decide_eq_false (by omega)))) ?_
  refine qp (K.pick_f rfl) ?_
  refine sn ?_
  refine K.cond_false rfl ?_
  refine K.skip ?_
  refine K.norm_then ?_
  refine sr ?_
  refine qm ?_
  refine K.seq_loud (K.call_f cal_16 (fun F w hF hw => (by have hg := c16 (c := c) (hR.pass hw) hn4; rw [hbl, hc] at hg; exact hg))) rfl ?_
  rintro ⟨Q2, q2⟩ hq2
  refine zN ?_
  refine qm ?_
  refine qx ?_
  refine qx ?_
  iterate 2 refine qa ?_
  refine sn ?_
  refine K.seq ?_
  refine sr ?_
  refine qm ?_
  refine qp (K.Pure.eq (K.neq rfl rfl) (show _ = Value.bool false from congrArg Value.bool (rfl))) ?_
  iterate 2 refine qm ?_
  refine qp (K.Pure.eq (K.neq rfl rfl) (show _ = Value.bool false from congrArg Value.bool (rfl))) ?_
  refine qp (K.pick_f rfl) ?_
  iterate 2 refine qm ?_
  refine qp (K.len_sl sl_26 rfl) ?_
  refine qp (K.Pure.eq (K.eql rfl rfl) (show _ = Value.bool false from congrArg Value.bool (decide_eq_false (by omega)))) ?_
  refine qp (K.pick_f rfl) ?_
  iterate 2 refine qm ?_
  refine qp (K.len_sl sl_26 rfl) ?_
  refine qm ?_
  refine qp (K.len_sl sl_22 rfl) ?_
  refine qp (K.Pure.eq (K.gtr rfl rfl) (show _ = Value.bool false from congrArg Value.bool (decide_eq_false (by omega)))) ?_
  refine qp (K.pick_f rfl) ?_
  iterate 2 refine qm ?_
  refine K.seq_ix (M := [K.row (.slice Q1 (stepL r a ((stopN r a) + 1)).length q1) 3 1 (stepL r a ((stopN r a) + 1)).length ((stepL r a ((stopN r a) + 1)).flatMap K.eI)]) 0 (K.Sl.own (w0 := w) (t := 3) (c := q1) (e := K.eI) hq1 (fun _ => rfl)) sl_26 rfl rfl (by omega) (by omega) rfl ?_
  intro p65 hp65
  refine zN ?_
  refine K.seq_sil (K.load1 one_3 rfl (hp65.at1 (K.m1))) rfl ?_
  refine zN ?_
  refine qm ?_
  refine qp (K.Pure.eq (K.neq rfl rfl) (show _ = Value.bool false from congrArg Value.bool (decide_eq_false (by omega)))) ?_
  refine qp (K.pick_f rfl) ?_
  refine sn ?_
  refine K.cond_false rfl ?_
  refine K.skip ?_
  refine K.norm_then ?_
  refine K.seq ?_
  refine sr ?_
  refine qa ?_
  refine sn ?_
  refine K.block ?_
  refine K.loopW [9] [4, 70, 71, 72, 73, 74, 75, 76, 77, 78, 79, 80, 81, 82, 83, 84, 85, 86, 87, 88, 89, 90, 91, 92, 93, 94, 95, 96, 97, 98, 99, 100, 101, 102, 103, 104, 105, 106, 107, 108, 109, 110, 111, 112, 113, 114, 115, 116, 117, 118, 119, 120, 121, 122, 123, 124] (fun vi L => ∃ k : Nat, vi = [.int .i64 (k : Int)] ∧ L = [K.row (.slice Q2 (badS r (ownS r)).length q2) 3 1 (badS r (ownS r)).length ((badS r (ownS r)).flatMap K.eI), K.row (.slice Q1 (stepL r a ((stopN r a) + 1)).length q1) 3 1 (stepL r a ((stopN r a) + 1)).length ((stepL r a ((stopN r a) + 1)).flatMap K.eI)] ∧ k ≤ (stopN r a) + 1) (fun vi => (stopN r a) + 1 - (intOf (K.nth vi 0)).toNat) ?_ ?_
  · exact ⟨0, rfl, rfl, Nat.zero_le _⟩
  intro vi vr L hJ
  obtain ⟨k, rfl, rfl, hkn⟩ := hJ
  try dsimp only [setd, setn, ev, nth, over, cl, eI, eP, eT, eR, setM, setF, List.map, List.append, List.drop, List.take]
  refine K.seq ?_
  refine sr ?_
  iterate 2 refine qm ?_
  refine qp (K.len_sl sl_26 rfl) ?_
  refine qp (K.lss rfl rfl) ?_
  refine sn ?_
  refine K.cond rfl (fun ht73 => ?_) (fun ht73 => ?_)
  · try replace ht73 := of_decide_eq_true ht73
    have hk : k < (stopN r a) + 1 := by omega
    have hgk := step_at (r := r) (a := a) hk
    have hlk := stps_lt g ha k
    refine K.skip ?_
    refine K.norm_then ?_
    refine K.seq ?_
    refine K.block ?_
    refine K.seq ?_
    refine K.draw_L [] Tryd_mixed ?_
    refine K.d_pure 0 rfl (K.move) (by kernel_rfl) rfl ?_
    refine zn ?_
    refine K.d_pure 1 rfl (K.move) (by kernel_rfl) rfl ?_
    refine zn ?_
    refine K.d_ix (M := [K.row (.slice Q1 (stepL r a ((stopN r a) + 1)).length q1) 3 1 (stepL r a ((stopN r a) + 1)).length ((stepL r a ((stopN r a) + 1)).flatMap K.eI)]) 2 _ rfl (K.Sl.own (w0 := w) (t := 3) (c := q1) (e := K.eI) hq1 (fun _ => rfl)) sl_26 rfl rfl rfl (by omega) (by kernel_rfl) rfl ?_
    intro p78 hp78
    refine zN ?_
    refine K.d_mem 3 rfl (K.load1 one_3 rfl (hp78.at1 (K.m1))) (fun _ h => h) (by kernel_rfl) (by kernel_rfl) rfl ?_
    refine zN ?_
    refine K.d_pure 4 rfl (K.Pure.eq (K.lss rfl rfl) (show _ = Value.bool false from congrArg Value.bool (decide_eq_false (by omega)))) (by kernel_rfl) rfl ?_
    refine zn ?_
    refine K.d_pure 5 rfl (K.move) (by kernel_rfl) rfl ?_
    refine zn ?_
    refine K.d_pure 6 rfl (K.move) (by kernel_rfl) rfl ?_
    refine zn ?_
    refine K.d_pure 7 rfl (K.move) (by kernel_rfl) rfl ?_
    refine zn ?_
    refine K.d_ix (M := [K.row (.slice Q1 (stepL r a ((stopN r a) + 1)).length q1) 3 1 (stepL r a ((stopN r a) + 1)).length ((stepL r a ((stopN r a) + 1)).flatMap K.eI)]) 8 _ rfl (K.Sl.own (w0 := w) (t := 3) (c := q1) (e := K.eI) hq1 (fun _ => rfl)) sl_26 rfl rfl rfl (by omega) (by kernel_rfl) rfl ?_
    intro p84 hp84
    refine zN ?_
    refine K.d_mem 9 rfl (K.load1 one_3 rfl (hp84.at1 (K.m1))) (fun _ h => h) (by kernel_rfl) (by kernel_rfl) rfl ?_
    refine zN ?_
    refine K.d_pure 10 rfl (K.move) (by kernel_rfl) rfl ?_
    refine zn ?_
    refine K.d_pure 11 rfl (K.len_sl sl_22 rfl) (by kernel_rfl) rfl ?_
    refine zn ?_
    refine K.d_pure 12 rfl (K.Pure.eq (K.geq rfl rfl) (show _ = Value.bool false from congrArg Value.bool (decide_eq_false (by omega)))) (by kernel_rfl) rfl ?_
    refine zn ?_
    refine K.d_pure 13 rfl (K.pick_f rfl) (by kernel_rfl) rfl ?_
    refine zn ?_
    refine K.d_pure 14 rfl (K.move) (by kernel_rfl) rfl ?_
    refine zn ?_
    refine K.d_pure 15 rfl (K.move) (by kernel_rfl) rfl ?_
    refine zn ?_
    refine K.d_pure 16 rfl (K.gtr rfl rfl) (by kernel_rfl) rfl ?_
    refine zn ?_
    refine K.d_pure 17 rfl (K.move) (by kernel_rfl) rfl ?_
    refine zn ?_
    refine K.dsplit 93 rfl (fun hg93 => ?_) (fun hg93 => ?_)
    · try replace hg93 := of_decide_eq_true hg93
      have hgk1 := step_at (r := r) (a := a) (n := (stopN r a) + 1) (k := k - 1) (by omega)
      have hlk1 := stps_lt g ha (k - 1)
      have hpk1 := g.p _ hlk1
      have hdk : (stepL r a ((stopN r a) + 1)).getD k default = (r.getD (stps r (k - 1) a) default).dn := by
        rw [hgk]
        have hd := hda.2.2 (k - 1) (by omega)
        have := stps_up hd
        rw [show k - 1 + 1 = k by omega] at this
        omega
      refine K.d_pure 18 rfl (K.move) (by kernel_rfl) rfl ?_
      refine zn ?_
      refine K.d_pure 19 rfl (K.move) (by kernel_rfl) rfl ?_
      refine zn ?_
      refine K.d_ix (M := [K.row (.slice Q1 (stepL r a ((stopN r a) + 1)).length q1) 3 1 (stepL r a ((stopN r a) + 1)).length ((stepL r a ((stopN r a) + 1)).flatMap K.eI)]) 20 _ rfl (K.Sl.own (w0 := w) (t := 3) (c := q1) (e := K.eI) hq1 (fun _ => rfl)) sl_26 rfl rfl rfl (by omega) (by kernel_rfl) rfl ?_
      intro p96 hp96
      refine zN ?_
      refine K.d_mem 21 rfl (K.load1 one_3 rfl (hp96.at1 (K.m1))) (fun _ h => h) (by kernel_rfl) (by kernel_rfl) rfl ?_
      refine zN ?_
      refine K.d_pure 22 rfl (K.move) (by kernel_rfl) rfl ?_
      refine zn ?_
      refine K.d_pure 23 rfl (K.move) (by kernel_rfl) rfl ?_
      refine zn ?_
      refine K.d_pure 24 rfl (K.move) (by kernel_rfl) rfl ?_
      refine zn ?_
      refine K.d_pure 25 rfl (K.sub_i64 rfl rfl (by omega)) (by kernel_rfl) rfl ?_
      refine zn ?_
      refine K.d_ix (M := [K.row (.slice Q1 (stepL r a ((stopN r a) + 1)).length q1) 3 1 (stepL r a ((stopN r a) + 1)).length ((stepL r a ((stopN r a) + 1)).flatMap K.eI)]) 26 (k - 1) rfl (K.Sl.own (w0 := w) (t := 3) (c := q1) (e := K.eI) hq1 (fun _ => rfl)) sl_26 rfl rfl (by omega) (by omega) (by kernel_rfl) rfl ?_
      intro p102 hp102
      refine zN ?_
      refine K.d_mem 27 rfl (K.load1 one_3 rfl (hp102.at1 (K.m1))) (fun _ h => h) (by kernel_rfl) (by kernel_rfl) rfl ?_
      refine zN ?_
      refine K.d_ix (M := []) 28 (stps r (k - 1) a) rfl hR.sl sl_22 rfl rfl (by omega) (by omega) (by kernel_rfl) rfl ?_
      intro p104 hp104
      refine zN ?_
      refine K.d_pure 29 rfl (K.fieldAddr fo_44_1 rfl) (by kernel_rfl) rfl ?_
      refine zn ?_
      refine K.d_mem 30 rfl (K.load1 one_3 rfl ((K.PtrL.fld hp104 (k := 1)).any)) (fun _ h => h) (by kernel_rfl) (by kernel_rfl) rfl ?_
      refine zN ?_
      refine K.d_pure 31 rfl (K.Pure.eq (K.neq rfl rfl) (show _ = Value.bool false from congrArg Value.bool (decide_eq_false (by omega)))) (by kernel_rfl) rfl ?_
      refine zn ?_
      refine K.d_pure 32 rfl (K.pick_t rfl) (by kernel_rfl) rfl ?_
      refine zn ?_
      refine K.d_pure 33 rfl (K.pick_f rfl) (by kernel_rfl) rfl ?_
      refine zn ?_
      refine K.d_pure 34 rfl (K.move) (by kernel_rfl) rfl ?_
      refine zn ?_
      refine K.d_pure 35 rfl (K.move) (by kernel_rfl) rfl ?_
      refine zn ?_
      refine K.d_pure 36 rfl (K.add_i64 rfl rfl (by omega)) (by kernel_rfl) rfl ?_
      refine zn ?_
      refine K.d_pure 37 rfl (K.move) (by kernel_rfl) rfl ?_
      refine zn ?_
      refine K.d_pure 38 rfl (K.len_sl sl_26 rfl) (by kernel_rfl) rfl ?_
      refine zn ?_
      refine K.d_pure 39 rfl (K.lss rfl rfl) (by kernel_rfl) rfl ?_
      refine zn ?_
      refine K.d_pure 40 rfl (K.move) (by kernel_rfl) rfl ?_
      refine zn ?_
      refine K.dsplit 116 rfl (fun hg116 => ?_) (fun hg116 => ?_)
      · try replace hg116 := of_decide_eq_true hg116
        have hno : decide ((stepL r a ((stopN r a) + 1)).getD k default ∈ (badS r (ownS r))) = false := by
          rw [decide_eq_false_iff_not, hgk, bad_mem hlk]
          have := hst.2.2 k (by omega)
          unfold stopB at this
          simp only [Bool.or_eq_false_iff] at this
          rw [this.1]; simp
        refine K.d_pure 41 rfl (K.move) (by kernel_rfl) rfl ?_
        refine zn ?_
        refine K.d_pure 42 rfl (K.move) (by kernel_rfl) rfl ?_
        refine zn ?_
        refine K.d_pure 43 rfl (K.move) (by kernel_rfl) rfl ?_
        refine zn ?_
        refine K.d_ix (M := [K.row (.slice Q1 (stepL r a ((stopN r a) + 1)).length q1) 3 1 (stepL r a ((stopN r a) + 1)).length ((stepL r a ((stopN r a) + 1)).flatMap K.eI)]) 44 _ rfl (K.Sl.own (w0 := w) (t := 3) (c := q1) (e := K.eI) hq1 (fun _ => rfl)) sl_26 rfl rfl rfl (by omega) (by kernel_rfl) rfl ?_
        intro p120 hp120
        refine zN ?_
        refine K.d_mem 45 rfl (K.load1 one_3 rfl (hp120.at1 (K.m1))) (fun _ h => h) (by kernel_rfl) (by kernel_rfl) rfl ?_
        refine zN ?_
        refine K.d_call 46 rfl (K.call_g cal_38 (fun F w hF hw => (by have hX := (K.Rd.own (e := K.eI) (xs := (badS r (ownS r))) hw (hF _ (K.m0)) hq2 (fun _ => rfl) (by decide)); have hg := c38 (n := (stepL r a ((stopN r a) + 1)).getD k default) (c := q2) hX (by omega); rw [hno] at hg; exact hg))) (fun _ h => h) (by kernel_rfl) rfl ?_
        refine zN ?_
        refine K.d_pure 47 rfl (K.pick_t rfl) (by kernel_rfl) rfl ?_
        refine zn ?_
        refine K.d_pure 48 rfl (K.pick_f rfl) (by kernel_rfl) rfl ?_
        refine zn ?_
        refine K.d_done (by kernel_rfl) ?_
        refine K.norm_then ?_
        refine K.cond_false rfl ?_
        refine K.skip ?_
        refine K.norm_block ?_
        refine K.norm_then ?_
        refine K.region_lit ?_
        refine qm ?_
        refine qp (K.add_i64 rfl rfl (by omega)) ?_
        refine qa ?_
        refine K.seq_nil ?_
        exact K.round_endW (L'' := [K.row (.slice Q2 (badS r (ownS r)).length q2) 3 1 (badS r (ownS r)).length ((badS r (ownS r)).flatMap K.eI), K.row (.slice Q1 (stepL r a ((stopN r a) + 1)).length q1) 3 1 (stepL r a ((stopN r a) + 1)).length ((stepL r a ((stopN r a) + 1)).flatMap K.eI)]) [.int .i64 ((k : Int) + 1)] ⟨k + 1, rfl, rfl, by omega⟩ (by simp [K.nth, intOf]; omega) (List.Sublist.refl _) (by kernel_rfl)
      try replace hg116 := of_decide_eq_false hg116
      refine K.d_skip 41 rfl (by kernel_rfl) rfl ?_
      refine zN ?_
      refine K.d_skip 42 rfl (by kernel_rfl) rfl ?_
      refine zN ?_
      refine K.d_skip 43 rfl (by kernel_rfl) rfl ?_
      refine zN ?_
      refine K.d_skip 44 rfl (by kernel_rfl) rfl ?_
      refine zN ?_
      refine K.d_skip 45 rfl (by kernel_rfl) rfl ?_
      refine zN ?_
      refine K.d_skip 46 rfl (by kernel_rfl) rfl ?_
      refine zN ?_
      refine K.d_pure 47 rfl (K.pick_f rfl) (by kernel_rfl) rfl ?_
      refine zn ?_
      refine K.d_pure 48 rfl (K.pick_f rfl) (by kernel_rfl) rfl ?_
      refine zn ?_
      refine K.d_done (by kernel_rfl) ?_
      refine K.norm_then ?_
      refine K.cond_false rfl ?_
      refine K.skip ?_
      refine K.norm_block ?_
      refine K.norm_then ?_
      refine K.region_lit ?_
      refine qm ?_
      refine qp (K.add_i64 rfl rfl (by omega)) ?_
      refine qa ?_
      refine K.seq_nil ?_
      exact K.round_endW (L'' := [K.row (.slice Q2 (badS r (ownS r)).length q2) 3 1 (badS r (ownS r)).length ((badS r (ownS r)).flatMap K.eI), K.row (.slice Q1 (stepL r a ((stopN r a) + 1)).length q1) 3 1 (stepL r a ((stopN r a) + 1)).length ((stepL r a ((stopN r a) + 1)).flatMap K.eI)]) [.int .i64 ((k : Int) + 1)] ⟨k + 1, rfl, rfl, by omega⟩ (by simp [K.nth, intOf]; omega) (List.Sublist.refl _) (by kernel_rfl)
    try replace hg93 := of_decide_eq_false hg93
    refine K.d_skip 18 rfl (by kernel_rfl) rfl ?_
    refine zN ?_
    refine K.d_skip 19 rfl (by kernel_rfl) rfl ?_
    refine zN ?_
    refine K.d_skip 20 rfl (by kernel_rfl) rfl ?_
    refine zN ?_
    refine K.d_skip 21 rfl (by kernel_rfl) rfl ?_
    refine zN ?_
    refine K.d_skip 22 rfl (by kernel_rfl) rfl ?_
    refine zN ?_
    refine K.d_skip 23 rfl (by kernel_rfl) rfl ?_
    refine zN ?_
    refine K.d_skip 24 rfl (by kernel_rfl) rfl ?_
    refine zN ?_
    refine K.d_skip 25 rfl (by kernel_rfl) rfl ?_
    refine zN ?_
    refine K.d_skip 26 rfl (by kernel_rfl) rfl ?_
    refine zN ?_
    refine K.d_skip 27 rfl (by kernel_rfl) rfl ?_
    refine zN ?_
    refine K.d_skip 28 rfl (by kernel_rfl) rfl ?_
    refine zN ?_
    refine K.d_skip 29 rfl (by kernel_rfl) rfl ?_
    refine zN ?_
    refine K.d_skip 30 rfl (by kernel_rfl) rfl ?_
    refine zN ?_
    refine K.d_skip 31 rfl (by kernel_rfl) rfl ?_
    refine zN ?_
    refine K.d_pure 32 rfl (K.pick_f rfl) (by kernel_rfl) rfl ?_
    refine zn ?_
    refine K.d_pure 33 rfl (K.pick_f rfl) (by kernel_rfl) rfl ?_
    refine zn ?_
    refine K.d_pure 34 rfl (K.move) (by kernel_rfl) rfl ?_
    refine zn ?_
    refine K.d_pure 35 rfl (K.move) (by kernel_rfl) rfl ?_
    refine zn ?_
    refine K.d_pure 36 rfl (K.add_i64 rfl rfl (by omega)) (by kernel_rfl) rfl ?_
    refine zn ?_
    refine K.d_pure 37 rfl (K.move) (by kernel_rfl) rfl ?_
    refine zn ?_
    refine K.d_pure 38 rfl (K.len_sl sl_26 rfl) (by kernel_rfl) rfl ?_
    refine zn ?_
    refine K.d_pure 39 rfl (K.lss rfl rfl) (by kernel_rfl) rfl ?_
    refine zn ?_
    refine K.d_pure 40 rfl (K.move) (by kernel_rfl) rfl ?_
    refine zn ?_
    refine K.dsplit 116 rfl (fun hg116 => ?_) (fun hg116 => ?_)
    · try replace hg116 := of_decide_eq_true hg116
      have hno : decide ((stepL r a ((stopN r a) + 1)).getD k default ∈ (badS r (ownS r))) = false := by
        rw [decide_eq_false_iff_not, hgk, bad_mem hlk]
        have := hst.2.2 k (by omega)
        unfold stopB at this
        simp only [Bool.or_eq_false_iff] at this
        rw [this.1]; simp
      refine K.d_pure 41 rfl (K.move) (by kernel_rfl) rfl ?_
      refine zn ?_
      refine K.d_pure 42 rfl (K.move) (by kernel_rfl) rfl ?_
      refine zn ?_
      refine K.d_pure 43 rfl (K.move) (by kernel_rfl) rfl ?_
      refine zn ?_
      refine K.d_ix (M := [K.row (.slice Q1 (stepL r a ((stopN r a) + 1)).length q1) 3 1 (stepL r a ((stopN r a) + 1)).length ((stepL r a ((stopN r a) + 1)).flatMap K.eI)]) 44 _ rfl (K.Sl.own (w0 := w) (t := 3) (c := q1) (e := K.eI) hq1 (fun _ => rfl)) sl_26 rfl rfl rfl (by omega) (by kernel_rfl) rfl ?_
      intro p120 hp120
      refine zN ?_
      refine K.d_mem 45 rfl (K.load1 one_3 rfl (hp120.at1 (K.m1))) (fun _ h => h) (by kernel_rfl) (by kernel_rfl) rfl ?_
      refine zN ?_
      refine K.d_call 46 rfl (K.call_g cal_38 (fun F w hF hw => (by have hX := (K.Rd.own (e := K.eI) (xs := (badS r (ownS r))) hw (hF _ (K.m0)) hq2 (fun _ => rfl) (by decide)); have hg := c38 (n := (stepL r a ((stopN r a) + 1)).getD k default) (c := q2) hX (by omega); rw [hno] at hg; exact hg))) (fun _ h => h) (by kernel_rfl) rfl ?_
      refine zN ?_
      refine K.d_pure 47 rfl (K.pick_t rfl) (by kernel_rfl) rfl ?_
      refine zn ?_
      refine K.d_pure 48 rfl (K.pick_f rfl) (by kernel_rfl) rfl ?_
      refine zn ?_
      refine K.d_done (by kernel_rfl) ?_
      refine K.norm_then ?_
      refine K.cond_false rfl ?_
      refine K.skip ?_
      refine K.norm_block ?_
      refine K.norm_then ?_
      refine K.region_lit ?_
      refine qm ?_
      refine qp (K.add_i64 rfl rfl (by omega)) ?_
      refine qa ?_
      refine K.seq_nil ?_
      exact K.round_endW (L'' := [K.row (.slice Q2 (badS r (ownS r)).length q2) 3 1 (badS r (ownS r)).length ((badS r (ownS r)).flatMap K.eI), K.row (.slice Q1 (stepL r a ((stopN r a) + 1)).length q1) 3 1 (stepL r a ((stopN r a) + 1)).length ((stepL r a ((stopN r a) + 1)).flatMap K.eI)]) [.int .i64 ((k : Int) + 1)] ⟨k + 1, rfl, rfl, by omega⟩ (by simp [K.nth, intOf]; omega) (List.Sublist.refl _) (by kernel_rfl)
    try replace hg116 := of_decide_eq_false hg116
    refine K.d_skip 41 rfl (by kernel_rfl) rfl ?_
    refine zN ?_
    refine K.d_skip 42 rfl (by kernel_rfl) rfl ?_
    refine zN ?_
    refine K.d_skip 43 rfl (by kernel_rfl) rfl ?_
    refine zN ?_
    refine K.d_skip 44 rfl (by kernel_rfl) rfl ?_
    refine zN ?_
    refine K.d_skip 45 rfl (by kernel_rfl) rfl ?_
    refine zN ?_
    refine K.d_skip 46 rfl (by kernel_rfl) rfl ?_
    refine zN ?_
    refine K.d_pure 47 rfl (K.pick_f rfl) (by kernel_rfl) rfl ?_
    refine zn ?_
    refine K.d_pure 48 rfl (K.pick_f rfl) (by kernel_rfl) rfl ?_
    refine zn ?_
    refine K.d_done (by kernel_rfl) ?_
    refine K.norm_then ?_
    refine K.cond_false rfl ?_
    refine K.skip ?_
    refine K.norm_block ?_
    refine K.norm_then ?_
    refine K.region_lit ?_
    refine qm ?_
    refine qp (K.add_i64 rfl rfl (by omega)) ?_
    refine qa ?_
    refine K.seq_nil ?_
    exact K.round_endW (L'' := [K.row (.slice Q2 (badS r (ownS r)).length q2) 3 1 (badS r (ownS r)).length ((badS r (ownS r)).flatMap K.eI), K.row (.slice Q1 (stepL r a ((stopN r a) + 1)).length q1) 3 1 (stepL r a ((stopN r a) + 1)).length ((stepL r a ((stopN r a) + 1)).flatMap K.eI)]) [.int .i64 ((k : Int) + 1)] ⟨k + 1, rfl, rfl, by omega⟩ (by simp [K.nth, intOf]; omega) (List.Sublist.refl _) (by kernel_rfl)
  try replace ht73 := of_decide_eq_false ht73
  refine K.exit ?_
  refine K.exit_then ?_
  refine K.exit_then ?_
  refine K.exit_here ?_
  refine K.norm_then ?_
  refine sr ?_
  iterate 2 refine qm ?_
  refine qp (K.len_sl sl_26 rfl) ?_
  refine qp (K.sub_i64 rfl rfl (by omega)) ?_
  refine K.seq_ix (M := [K.row (.slice Q1 (stepL r a ((stopN r a) + 1)).length q1) 3 1 (stepL r a ((stopN r a) + 1)).length ((stepL r a ((stopN r a) + 1)).flatMap K.eI)]) (stopN r a) (K.Sl.own (w0 := w) (t := 3) (c := q1) (e := K.eI) hq1 (fun _ => rfl)) sl_26 rfl rfl (by omega) (by omega) rfl ?_
  intro p129 hp129
  refine zN ?_
  refine K.seq_sil (K.load1 one_3 rfl (hp129.at1 (K.m1))) rfl ?_
  refine zN ?_
  refine qa ?_
  refine sn ?_
  refine sr ?_
  iterate 2 refine qm ?_
  refine K.seq_ix (M := []) (stps r (stopN r a) a) hR.sl sl_22 rfl rfl (by omega) (by omega) rfl ?_
  intro p133 hp133
  refine zN ?_
  refine qp (K.fieldAddr fo_44_1 rfl) ?_
  refine K.seq_sil (K.load1 one_3 rfl ((K.PtrL.fld hp133 (k := 1)).any)) rfl ?_
  refine zN ?_
  refine qp (K.eql rfl rfl) ?_
  refine qm ?_
  refine K.split 137 rfl (fun hg137 => ?_) (fun hg137 => ?_)
  · try replace hg137 := of_decide_eq_true hg137
    iterate 3 refine qs ?_
    refine qp (K.pick_t rfl) ?_
    refine qm ?_
    refine K.seq_call (K.call_g cal_25 (fun F w hF hw => c25 (hT.pass hw))) rfl ?_
    refine zN ?_
    refine qp (K.pick_t rfl) ?_
    refine qa ?_
    refine sn ?_
    refine K.ret ?_
    refine K.end_ret (fun w _ => K.res_tmp rfl w) ?_
    exact K.gives rfl
  try replace hg137 := of_decide_eq_false hg137
  have hyes : decide ((stepL r a ((stopN r a) + 1)).getD (stopN r a) default ∈ (badS r (ownS r))) = true := by
    rw [decide_eq_true_eq, hgn1, bad_mem hln]
    have := hst.2.1
    unfold stopB at this
    rw [decide_eq_false hg137, Bool.or_false] at this
    exact this
  iterate 2 refine qm ?_
  refine K.seq_call (K.call_g cal_38 (fun F w hF hw => (by have hX := (K.Rd.own (e := K.eI) (xs := (badS r (ownS r))) hw (hF _ (K.m0)) hq2 (fun _ => rfl) (by decide)); have hg := c38 (n := (stepL r a ((stopN r a) + 1)).getD (stopN r a) default) (c := q2) hX (by omega); rw [hyes] at hg; exact hg))) rfl ?_
  refine zN ?_
  refine qp (K.pick_f rfl) ?_
  refine qm ?_
  refine K.seq_call (K.call_g cal_25 (fun F w hF hw => c25 (hT.pass hw))) rfl ?_
  refine zN ?_
  refine qp (K.pick_t rfl) ?_
  refine qa ?_
  refine sn ?_
  refine K.ret ?_
  refine K.end_ret (fun w _ => K.res_tmp rfl w) ?_
  exact K.gives rfl

theorem c10 {r : List RvT} {A : Option Addr} {c : Nat} {z : Int} {w : World} (hR : K.Rd w A 4 eR r) (hn : r.length ≤ 17592186043904) (hT : Tab w) : Calls Tryd.prog 10 [.slice A r.length c, .int .i64 z].toArray w (K.Gives (.bool true) w) := by
  by_cases hc : (chk r).2.2 = 0
  · by_cases hz : z < 0
    · exact f10 hR hn hT hc hz
    · by_cases hz2 : (r.length : Int) ≤ z
      · exact h10 hR hn hT hc (by omega) hz2
      · have h := g10 (c := c) (a := z.toNat) hR hn hT hc (by omega)
        rwa [Int.toNat_of_nonneg (by omega)] at h
  · exact e10 hR hn hT hc


end Go.Proofs.YtoemnobfnnjopaaDoor
