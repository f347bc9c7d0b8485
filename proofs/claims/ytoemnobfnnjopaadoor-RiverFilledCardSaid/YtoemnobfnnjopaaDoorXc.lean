/-
  Walks of the program's functions, printed by program: what each returns.
  Conditions stand in each theorem.
-/
import Derived.WalkArith
import Derived.Laws.Closers25b
import Derived.Test.YtoemnobfnnjopaaDoorWs
import Derived.Test.YtoemnobfnnjopaaDoorWt
import Derived.Test.YtoemnobfnnjopaaDoorXa
set_option linter.unusedSimpArgs false
set_option linter.unusedVariables false
namespace Go.Proofs.YtoemnobfnnjopaaDoor
open Go.RowKit Go
open Go.K (setd setn ev nth over cl eI eP eT setM setF)
attribute [local irreducible] K.blk K.row
theorem bs2V (A B : Option Addr) (m n c d : Nat) : K.Bs Tryd.prog 50 2 [(0, .slice A m c), (1, .slice B n d)] 26 [.slice A m c, .slice B n d] := fun w => by kernel_rfl
theorem two_0 {E : Type} {n : Nat} {a b : E} (h : n = 0) : two n a b = a := if_pos h
theorem two_1 {E : Type} {n : Nat} {a b : E} (h : n ≠ 0) : two n a b = b := if_neg h
theorem two_sl {A B : Option Addr} {xs ys : List Int} {c d n : Nat} (h : n < 2) : (List.drop 0 [Value.slice A xs.length c, .slice B ys.length d])[0 + n * 1]? = some (.slice (two n A B) (two n xs ys).length (two n c d)) := by
  rcases (show n = 0 ∨ n = 1 by omega) with rfl | rfl <;> rfl

set_option maxRecDepth 100000 in
theorem e8 {r : List RvT} {A : Option Addr} {c : Nat} {Y : Option Addr} {cy : Nat} {ys : List Int} {z : Int} {w : World} (hR : K.Rd w A 4 eR r) (hn : r.length ≤ 17592186043904) (hT : Tab w) (hY : K.Rd w Y 1 eH ys) (hyb : ∀ x ∈ ys, 0 ≤ x ∧ x ≤ 65535) (hyl : ys.length ≤ 140737488351232) (hz : 0 ≤ z ∧ z ≤ 255) (hc : (chk r).2.2 ≠ 0) :
    Calls Tryd.prog 8 [.slice A r.length c, .slice Y ys.length cy, .int .u8 z].toArray w (K.Gives (.bool true) w) := by
  have hn4 : r.length ≤ 4611686018427387904 := by omega
  have he : fillE r = (chk r).2.2 := by unfold fillE; rw [if_pos hc]
  have hf : carveE r = (chk r).2.2 := by unfold carveE; rw [if_pos hc]
  refine K.enter (args := [.slice A r.length c, .slice Y ys.length cy, .int .u8 z]) Tryd.func8 rfl (n := 247) rfl ?_
  simp only [List.replicate, List.cons_append, List.nil_append]
  refine sr ?_
  refine qa ?_
  refine sn ?_
  refine sr ?_
  refine qm ?_
  refine K.seq_loud (K.call_f cal_21 (fun F w hF hw => c21 (hR.pass hw) hn4)) rfl ?_
  rintro ⟨Q1, q1⟩ hq1
  refine zN ?_
  refine qm ?_
  refine qx ?_
  refine qx ?_
  iterate 2 refine qa ?_
  refine sn ?_
  refine sr ?_
  refine qm ?_
  refine K.seq_loud (K.call_f cal_23 (fun F w hF hw => c23 (hR.pass hw) hn4)) rfl ?_
  rintro ⟨Q2, q2⟩ hq2
  refine zN ?_
  refine qm ?_
  refine qx ?_
  refine qx ?_
  iterate 2 refine qa ?_
  refine sn ?_
  refine K.seq ?_
  refine sr ?_
  refine qm ?_
  refine K.seq_call (K.call_g cal_35 (fun F w hF hw => c35 (hR.pass hw) hn4)) rfl ?_
  refine zN ?_
  first | refine K.seq_pure (K.Pure.eq (K.not_d rfl) (show _ = Value.bool true from by rw [decide_eq_false hc]; rfl)) rfl ?_ | refine K.seq_pure (K.Pure.eq (K.not_ rfl) (show _ = Value.bool true from by rw [decide_eq_false hc]; rfl)) rfl ?_
  refine zN ?_
  refine sn ?_
  refine K.cond_true rfl ?_
  refine sr ?_
  refine qm ?_
  refine qp (K.Pure.eq (K.neq rfl rfl) (show _ = Value.bool true from congrArg Value.bool (decide_eq_true (by omega)))) ?_
  iterate 3 refine qm ?_
  refine qp (K.Pure.eq (K.eql rfl rfl) (show _ = Value.bool true from congrArg Value.bool (decide_eq_true (by omega)))) ?_
  refine qp (K.pick_t rfl) ?_
  refine qm ?_
  refine K.seq_call (K.call_g cal_25 (fun F w hF hw => c25 (hT.pass hw))) rfl ?_
  refine zN ?_
  refine qp (K.pick_t rfl) ?_
  refine qa ?_
  refine sn ?_
  refine K.ret ?_
  refine K.ret_then ?_
  refine K.end_ret (fun w _ => K.res_tmp rfl w) ?_
  exact K.gives rfl

set_option maxRecDepth 100000 in
set_option maxHeartbeats 4000000 in
theorem g8 {r : List RvT} {A : Option Addr} {c : Nat} {Y : Option Addr} {cy : Nat} {ys : List Int} {z : Int} {a : Nat} {w : World} (hR : K.Rd w A 4 eR r) (hn : r.length ≤ 17592186043904) (hT : Tab w) (hY : K.Rd w Y 1 eH ys) (hyb : ∀ x ∈ ys, 0 ≤ x ∧ x ≤ 65535) (hyl : ys.length ≤ 140737488351232) (hz : 0 ≤ z ∧ z ≤ 255) (hc : (chk r).2.2 = 0) (ha : a < r.length) (hza : z % (r.length : Int) = (a : Int)) :
    Calls Tryd.prog 8 [.slice A r.length c, .slice Y ys.length cy, .int .u8 z].toArray w (K.Gives (.bool true) w) := by
  have hn4 : r.length ≤ 4611686018427387904 := by omega
  have g : Good r := chk_good hc
  have hgn := g.n
  have hRn : Runs r (anyS r (turnS ys)) := any_runs g (fun i => (turn_bd hyb).1)
  have hal := any_len (r := r) (t := (turnS ys))
  have hfc := fillE_cases hc
  have hcc := carveE_cases hc
  have hda := dep_is g ha
  have hdl := stps_lt g ha (dep r a)
  have hsn := step_len (r := r) (a := a) (k := dep r a + 1)
  have hgk := step_at (r := r) (a := a) (n := dep r a + 1) (k := dep r a) (by omega)
  have hdm := hda.2.1
  refine K.enter (args := [.slice A r.length c, .slice Y ys.length cy, .int .u8 z]) Tryd.func8 rfl (n := 247) rfl ?_
  simp only [List.replicate, List.cons_append, List.nil_append]
  refine sr ?_
  refine qa ?_
  refine sn ?_
  refine sr ?_
  refine qm ?_
  refine K.seq_loud (K.call_f cal_21 (fun F w hF hw => c21 (hR.pass hw) hn4)) rfl ?_
  rintro ⟨Q1, q1⟩ hq1
  refine zN ?_
  refine qm ?_
  refine qx ?_
  refine qx ?_
  iterate 2 refine qa ?_
  refine sn ?_
  refine sr ?_
  refine qm ?_
  refine K.seq_loud (K.call_f cal_23 (fun F w hF hw => c23 (hR.pass hw) hn4)) rfl ?_
  rintro ⟨Q2, q2⟩ hq2
  refine zN ?_
  refine qm ?_
  refine qx ?_
  refine qx ?_
  iterate 2 refine qa ?_
  refine sn ?_
  refine K.seq ?_
  refine sr ?_
  refine qm ?_
  refine K.seq_call (K.call_g cal_35 (fun F w hF hw => c35 (hR.pass hw) hn4)) rfl ?_
  refine zN ?_
  first | refine K.seq_pure (K.Pure.eq (K.not_d rfl) (show _ = Value.bool false from by rw [decide_eq_true hc]; rfl)) rfl ?_ | refine K.seq_pure (K.Pure.eq (K.not_ rfl) (show _ = Value.bool false from by rw [decide_eq_true hc]; rfl)) rfl ?_
  refine zN ?_
  refine sn ?_
  refine K.cond_false rfl ?_
  refine K.skip ?_
  refine K.norm_then ?_
  refine sr ?_
  iterate 2 refine qm ?_
  refine K.seq_loud (K.call_f cal_40 (fun F w hF hw => c40 (hR.pass hw) (hY.pass hw) hyb hyl g)) rfl ?_
  rintro ⟨Q3, q3⟩ hq3
  refine zN ?_
  refine qa ?_
  refine sn ?_
  refine sr ?_
  iterate 2 refine qa ?_
  refine sn ?_
  refine K.seq ?_
  refine sr ?_
  refine qa ?_
  refine sn ?_
  refine K.block ?_
  refine K.loopW [12, 13, 14] [46, 47, 48, 49, 50, 51, 52, 53, 54, 55, 56, 57, 58, 59, 60, 61, 62, 63, 64, 65, 66, 67, 68, 69, 70, 71, 72, 73, 74, 75, 76, 77] (fun vi L => ∃ k : Nat, vi = [.bool (lowB r (anyS r (turnS ys)) k), .bool (higB r (anyS r (turnS ys)) k), .int .i64 (k : Int)] ∧ L = [K.row (.slice Q3 (anyS r (turnS ys)).length q3) 3 1 (anyS r (turnS ys)).length ((anyS r (turnS ys)).flatMap K.eI), K.row (.slice Q2 (carveL r).length q2) 3 1 (carveL r).length ((carveL r).flatMap K.eI), K.row (.slice Q1 (fillL r).length q1) 3 1 (fillL r).length ((fillL r).flatMap K.eI)] ∧ k ≤ r.length) (fun vi => r.length - (intOf (K.nth vi 2)).toNat) ?_ ?_
  · exact ⟨0, rfl, rfl, Nat.zero_le _⟩
  intro vi vr L hJ
  obtain ⟨k, rfl, rfl, hkn⟩ := hJ
  try dsimp only [setd, setn, ev, nth, over, cl, eI, eP, eT, eR, setM, setF, List.map, List.append, List.drop, List.take]
  refine K.seq ?_
  refine sr ?_
  iterate 2 refine qm ?_
  refine qp (K.len_sl sl_22 rfl) ?_
  refine qp (K.lss rfl rfl) ?_
  refine sn ?_
  refine K.cond rfl (fun ht49 => ?_) (fun ht49 => ?_)
  · try replace ht49 := of_decide_eq_true ht49
    have hk : k < r.length := by omega
    refine K.skip ?_
    refine K.norm_then ?_
    refine K.seq ?_
    refine K.block ?_
    refine K.joinW [12, 13] [52, 53, 54, 55, 56, 57, 58, 59, 60, 61, 62, 63, 64, 65, 66, 67, 68, 69, 70, 71, 72, 73, 74, 75, 76, 77] (fun vi L => vi = [.bool (lowB r (anyS r (turnS ys)) (k + 1)), .bool (higB r (anyS r (turnS ys)) (k + 1))] ∧ L = [K.row (.slice Q3 (anyS r (turnS ys)).length q3) 3 1 (anyS r (turnS ys)).length ((anyS r (turnS ys)).flatMap K.eI), K.row (.slice Q2 (carveL r).length q2) 3 1 (carveL r).length ((carveL r).flatMap K.eI), K.row (.slice Q1 (fillL r).length q1) 3 1 (fillL r).length ((fillL r).flatMap K.eI)]) ?_ ?_
    · refine K.draw_L [] Tryd_mixed ?_
      refine K.d_pure 0 rfl (K.move) (by kernel_rfl) rfl ?_
      refine zn ?_
      refine K.d_pure 1 rfl (K.move) (by kernel_rfl) rfl ?_
      refine zn ?_
      refine K.dsplit 53 rfl (fun hg53 => ?_) (fun hg53 => ?_)
      · try replace hg53 := of_decide_eq_true hg53
        refine K.d_skip 2 rfl (by kernel_rfl) rfl ?_
        refine zN ?_
        refine K.d_skip 3 rfl (by kernel_rfl) rfl ?_
        refine zN ?_
        refine K.d_skip 4 rfl (by kernel_rfl) rfl ?_
        refine zN ?_
        refine K.d_skip 5 rfl (by kernel_rfl) rfl ?_
        refine zN ?_
        refine K.d_skip 6 rfl (by kernel_rfl) rfl ?_
        refine zN ?_
        refine K.d_skip 7 rfl (by kernel_rfl) rfl ?_
        refine zN ?_
        refine K.d_skip 8 rfl (by kernel_rfl) rfl ?_
        refine zN ?_
        refine K.d_skip 9 rfl (by kernel_rfl) rfl ?_
        refine zN ?_
        refine K.d_skip 10 rfl (by kernel_rfl) rfl ?_
        refine zN ?_
        refine K.d_skip 11 rfl (by kernel_rfl) rfl ?_
        refine zN ?_
        refine K.d_pure 12 rfl (K.pick_t rfl) (by kernel_rfl) rfl ?_
        refine zn ?_
        refine K.d_pure 13 rfl (K.move) (by kernel_rfl) rfl ?_
        refine zn ?_
        refine K.d_pure 14 rfl (K.move) (by kernel_rfl) rfl ?_
        refine zn ?_
        refine K.dsplit 66 rfl (fun hg66 => ?_) (fun hg66 => ?_)
        · try replace hg66 := of_decide_eq_true hg66
          refine K.d_skip 15 rfl (by kernel_rfl) rfl ?_
          refine zN ?_
          refine K.d_skip 16 rfl (by kernel_rfl) rfl ?_
          refine zN ?_
          refine K.d_skip 17 rfl (by kernel_rfl) rfl ?_
          refine zN ?_
          refine K.d_skip 18 rfl (by kernel_rfl) rfl ?_
          refine zN ?_
          refine K.d_skip 19 rfl (by kernel_rfl) rfl ?_
          refine zN ?_
          refine K.d_skip 20 rfl (by kernel_rfl) rfl ?_
          refine zN ?_
          refine K.d_skip 21 rfl (by kernel_rfl) rfl ?_
          refine zN ?_
          refine K.d_skip 22 rfl (by kernel_rfl) rfl ?_
          refine zN ?_
          refine K.d_skip 23 rfl (by kernel_rfl) rfl ?_
          refine zN ?_
          refine K.d_skip 24 rfl (by kernel_rfl) rfl ?_
          refine zN ?_
          refine K.d_pure 25 rfl (K.pick_t rfl) (by kernel_rfl) rfl ?_
          refine zn ?_
          refine K.d_pure 26 rfl (K.assign) (by kernel_rfl) rfl ?_
          refine zn ?_
          refine K.d_pure 27 rfl (K.assign) (by kernel_rfl) rfl ?_
          refine zn ?_
          refine K.d_done (by kernel_rfl) ?_
          have e53 : true = (lowB r (anyS r (turnS ys)) (k + 1)) := by rw [low_s, hg53]; simp
          have e66 : true = (higB r (anyS r (turnS ys)) (k + 1)) := by rw [hig_s, hg66]; simp
          exact K.join_here (L' := [K.row (.slice Q3 (anyS r (turnS ys)).length q3) 3 1 (anyS r (turnS ys)).length ((anyS r (turnS ys)).flatMap K.eI), K.row (.slice Q2 (carveL r).length q2) 3 1 (carveL r).length ((carveL r).flatMap K.eI), K.row (.slice Q1 (fillL r).length q1) 3 1 (fillL r).length ((fillL r).flatMap K.eI)]) [.bool true, .bool true] ⟨by rw [← e53, ← e66], rfl⟩ (fun w h => h) (by kernel_rfl)
        try replace hg66 := of_decide_eq_false hg66
        refine K.d_pure 15 rfl (K.move) (by kernel_rfl) rfl ?_
        refine zn ?_
        refine K.d_pure 16 rfl (K.move) (by kernel_rfl) rfl ?_
        refine zn ?_
        refine K.d_ix (M := [K.row (.slice Q3 (anyS r (turnS ys)).length q3) 3 1 (anyS r (turnS ys)).length ((anyS r (turnS ys)).flatMap K.eI)]) 17 _ rfl (K.Sl.own (w0 := w) (t := 3) (c := q3) (e := K.eI) hq3 (fun _ => rfl)) sl_26 rfl rfl rfl (by omega) (by kernel_rfl) rfl ?_
        intro p69 hp69
        refine zN ?_
        refine K.d_mem 18 rfl (K.load1 one_3 rfl (hp69.at1 (K.m0))) (fun _ h => h) (by kernel_rfl) (by kernel_rfl) rfl ?_
        refine zN ?_
        refine K.d_pure 19 rfl (K.move) (by kernel_rfl) rfl ?_
        refine zn ?_
        refine K.d_pure 20 rfl (K.move) (by kernel_rfl) rfl ?_
        refine zn ?_
        refine K.d_ix (M := []) 21 _ rfl hR.sl sl_22 rfl rfl rfl (by omega) (by kernel_rfl) rfl ?_
        intro p73 hp73
        refine zN ?_
        refine K.d_pure 22 rfl (K.fieldAddr fo_44_3 rfl) (by kernel_rfl) rfl ?_
        refine zn ?_
        refine K.d_mem 23 rfl (K.load1 one_3 rfl ((K.PtrL.fld hp73 (k := 3)).any)) (fun _ h => h) (by kernel_rfl) (by kernel_rfl) rfl ?_
        refine zN ?_
        refine K.d_pure 24 rfl (K.gtr rfl rfl) (by kernel_rfl) rfl ?_
        refine zn ?_
        refine K.d_pure 25 rfl (K.pick_f rfl) (by kernel_rfl) rfl ?_
        refine zn ?_
        refine K.d_pure 26 rfl (K.assign) (by kernel_rfl) rfl ?_
        refine zn ?_
        refine K.d_pure 27 rfl (K.assign) (by kernel_rfl) rfl ?_
        refine zn ?_
        refine K.d_done (by kernel_rfl) ?_
        have e53 : true = (lowB r (anyS r (turnS ys)) (k + 1)) := by rw [low_s, hg53]; simp
        have e66 : (decide ((anyS r (turnS ys)).getD k default > (r.getD k default).ht)) = (higB r (anyS r (turnS ys)) (k + 1)) := by rw [hig_s, hg66]; simp
        exact K.join_here (L' := [K.row (.slice Q3 (anyS r (turnS ys)).length q3) 3 1 (anyS r (turnS ys)).length ((anyS r (turnS ys)).flatMap K.eI), K.row (.slice Q2 (carveL r).length q2) 3 1 (carveL r).length ((carveL r).flatMap K.eI), K.row (.slice Q1 (fillL r).length q1) 3 1 (fillL r).length ((fillL r).flatMap K.eI)]) [.bool true, .bool (decide ((anyS r (turnS ys)).getD k default > (r.getD k default).ht))] ⟨by rw [← e53, ← e66], rfl⟩ (fun w h => h) (by kernel_rfl)
      try replace hg53 := of_decide_eq_false hg53
      refine K.d_pure 2 rfl (K.move) (by kernel_rfl) rfl ?_
      refine zn ?_
      refine K.d_pure 3 rfl (K.move) (by kernel_rfl) rfl ?_
      refine zn ?_
      refine K.d_ix (M := [K.row (.slice Q3 (anyS r (turnS ys)).length q3) 3 1 (anyS r (turnS ys)).length ((anyS r (turnS ys)).flatMap K.eI)]) 4 _ rfl (K.Sl.own (w0 := w) (t := 3) (c := q3) (e := K.eI) hq3 (fun _ => rfl)) sl_26 rfl rfl rfl (by omega) (by kernel_rfl) rfl ?_
      intro p56 hp56
      refine zN ?_
      refine K.d_mem 5 rfl (K.load1 one_3 rfl (hp56.at1 (K.m0))) (fun _ h => h) (by kernel_rfl) (by kernel_rfl) rfl ?_
      refine zN ?_
      refine K.d_pure 6 rfl (K.move) (by kernel_rfl) rfl ?_
      refine zn ?_
      refine K.d_pure 7 rfl (K.move) (by kernel_rfl) rfl ?_
      refine zn ?_
      refine K.d_ix (M := []) 8 _ rfl hR.sl sl_22 rfl rfl rfl (by omega) (by kernel_rfl) rfl ?_
      intro p60 hp60
      refine zN ?_
      refine K.d_pure 9 rfl (K.fieldAddr fo_44_3 rfl) (by kernel_rfl) rfl ?_
      refine zn ?_
      refine K.d_mem 10 rfl (K.load1 one_3 rfl ((K.PtrL.fld hp60 (k := 3)).any)) (fun _ h => h) (by kernel_rfl) (by kernel_rfl) rfl ?_
      refine zN ?_
      refine K.d_pure 11 rfl (K.lss rfl rfl) (by kernel_rfl) rfl ?_
      refine zn ?_
      refine K.d_pure 12 rfl (K.pick_f rfl) (by kernel_rfl) rfl ?_
      refine zn ?_
      refine K.d_pure 13 rfl (K.move) (by kernel_rfl) rfl ?_
      refine zn ?_
      refine K.d_pure 14 rfl (K.move) (by kernel_rfl) rfl ?_
      refine zn ?_
      refine K.dsplit 66 rfl (fun hg66 => ?_) (fun hg66 => ?_)
      · try replace hg66 := of_decide_eq_true hg66
        refine K.d_skip 15 rfl (by kernel_rfl) rfl ?_
        refine zN ?_
        refine K.d_skip 16 rfl (by kernel_rfl) rfl ?_
        refine zN ?_
        refine K.d_skip 17 rfl (by kernel_rfl) rfl ?_
        refine zN ?_
        refine K.d_skip 18 rfl (by kernel_rfl) rfl ?_
        refine zN ?_
        refine K.d_skip 19 rfl (by kernel_rfl) rfl ?_
        refine zN ?_
        refine K.d_skip 20 rfl (by kernel_rfl) rfl ?_
        refine zN ?_
        refine K.d_skip 21 rfl (by kernel_rfl) rfl ?_
        refine zN ?_
        refine K.d_skip 22 rfl (by kernel_rfl) rfl ?_
        refine zN ?_
        refine K.d_skip 23 rfl (by kernel_rfl) rfl ?_
        refine zN ?_
        refine K.d_skip 24 rfl (by kernel_rfl) rfl ?_
        refine zN ?_
        refine K.d_pure 25 rfl (K.pick_t rfl) (by kernel_rfl) rfl ?_
        refine zn ?_
        refine K.d_pure 26 rfl (K.assign) (by kernel_rfl) rfl ?_
        refine zn ?_
        refine K.d_pure 27 rfl (K.assign) (by kernel_rfl) rfl ?_
        refine zn ?_
        refine K.d_done (by kernel_rfl) ?_
        have e53 : (decide ((anyS r (turnS ys)).getD k default < (r.getD k default).ht)) = (lowB r (anyS r (turnS ys)) (k + 1)) := by rw [low_s, hg53]; simp
        have e66 : true = (higB r (anyS r (turnS ys)) (k + 1)) := by rw [hig_s, hg66]; simp
        exact K.join_here (L' := [K.row (.slice Q3 (anyS r (turnS ys)).length q3) 3 1 (anyS r (turnS ys)).length ((anyS r (turnS ys)).flatMap K.eI), K.row (.slice Q2 (carveL r).length q2) 3 1 (carveL r).length ((carveL r).flatMap K.eI), K.row (.slice Q1 (fillL r).length q1) 3 1 (fillL r).length ((fillL r).flatMap K.eI)]) [.bool (decide ((anyS r (turnS ys)).getD k default < (r.getD k default).ht)), .bool true] ⟨by rw [← e53, ← e66], rfl⟩ (fun w h => h) (by kernel_rfl)
      try replace hg66 := of_decide_eq_false hg66
      refine K.d_pure 15 rfl (K.move) (by kernel_rfl) rfl ?_
      refine zn ?_
      refine K.d_pure 16 rfl (K.move) (by kernel_rfl) rfl ?_
      refine zn ?_
      refine K.d_ix (M := [K.row (.slice Q3 (anyS r (turnS ys)).length q3) 3 1 (anyS r (turnS ys)).length ((anyS r (turnS ys)).flatMap K.eI)]) 17 _ rfl (K.Sl.own (w0 := w) (t := 3) (c := q3) (e := K.eI) hq3 (fun _ => rfl)) sl_26 rfl rfl rfl (by omega) (by kernel_rfl) rfl ?_
      intro p69 hp69
      refine zN ?_
      refine K.d_mem 18 rfl (K.load1 one_3 rfl (hp69.at1 (K.m0))) (fun _ h => h) (by kernel_rfl) (by kernel_rfl) rfl ?_
      refine zN ?_
      refine K.d_pure 19 rfl (K.move) (by kernel_rfl) rfl ?_
      refine zn ?_
      refine K.d_pure 20 rfl (K.move) (by kernel_rfl) rfl ?_
      refine zn ?_
      refine K.d_ix (M := []) 21 _ rfl hR.sl sl_22 rfl rfl rfl (by omega) (by kernel_rfl) rfl ?_
      intro p73 hp73
      refine zN ?_
      refine K.d_pure 22 rfl (K.fieldAddr fo_44_3 rfl) (by kernel_rfl) rfl ?_
      refine zn ?_
      refine K.d_mem 23 rfl (K.load1 one_3 rfl ((K.PtrL.fld hp73 (k := 3)).any)) (fun _ h => h) (by kernel_rfl) (by kernel_rfl) rfl ?_
      refine zN ?_
      refine K.d_pure 24 rfl (K.gtr rfl rfl) (by kernel_rfl) rfl ?_
      refine zn ?_
      refine K.d_pure 25 rfl (K.pick_f rfl) (by kernel_rfl) rfl ?_
      refine zn ?_
      refine K.d_pure 26 rfl (K.assign) (by kernel_rfl) rfl ?_
      refine zn ?_
      refine K.d_pure 27 rfl (K.assign) (by kernel_rfl) rfl ?_
      refine zn ?_
      refine K.d_done (by kernel_rfl) ?_
      have e53 : (decide ((anyS r (turnS ys)).getD k default < (r.getD k default).ht)) = (lowB r (anyS r (turnS ys)) (k + 1)) := by rw [low_s, hg53]; simp
      have e66 : (decide ((anyS r (turnS ys)).getD k default > (r.getD k default).ht)) = (higB r (anyS r (turnS ys)) (k + 1)) := by rw [hig_s, hg66]; simp
      exact K.join_here (L' := [K.row (.slice Q3 (anyS r (turnS ys)).length q3) 3 1 (anyS r (turnS ys)).length ((anyS r (turnS ys)).flatMap K.eI), K.row (.slice Q2 (carveL r).length q2) 3 1 (carveL r).length ((carveL r).flatMap K.eI), K.row (.slice Q1 (fillL r).length q1) 3 1 (fillL r).length ((fillL r).flatMap K.eI)]) [.bool (decide ((anyS r (turnS ys)).getD k default < (r.getD k default).ht)), .bool (decide ((anyS r (turnS ys)).getD k default > (r.getD k default).ht))] ⟨by rw [← e53, ← e66], rfl⟩ (fun w h => h) (by kernel_rfl)
    intro vi vr L hJ
    obtain ⟨rfl, rfl⟩ := hJ
    try dsimp only [setd, setn, ev, nth, over, cl, eI, eP, eT, eR, setM, setF, List.map, List.append, List.drop, List.take]
    refine K.norm_block ?_
    refine K.norm_then ?_
    refine K.region_lit ?_
    refine qm ?_
    refine qp (K.add_i64 rfl rfl (by omega)) ?_
    refine qa ?_
    refine K.seq_nil ?_
    exact K.round_endW (L'' := [K.row (.slice Q3 (anyS r (turnS ys)).length q3) 3 1 (anyS r (turnS ys)).length ((anyS r (turnS ys)).flatMap K.eI), K.row (.slice Q2 (carveL r).length q2) 3 1 (carveL r).length ((carveL r).flatMap K.eI), K.row (.slice Q1 (fillL r).length q1) 3 1 (fillL r).length ((fillL r).flatMap K.eI)]) [.bool (lowB r (anyS r (turnS ys)) (k + 1)), .bool (higB r (anyS r (turnS ys)) (k + 1)), .int .i64 ((k : Int) + 1)] ⟨k + 1, rfl, rfl, by omega⟩ (by simp [K.nth, intOf]; omega) (List.Sublist.refl _) (by kernel_rfl)
  try replace ht49 := of_decide_eq_false ht49
  have e0 : k = r.length := by omega
  subst e0
  refine K.exit ?_
  refine K.exit_then ?_
  refine K.exit_then ?_
  refine K.exit_here ?_
  refine K.norm_then ?_
  refine K.seq ?_
  refine K.seq ?_
  refine K.joinW [99] [78, 79, 80, 81, 82, 83, 84, 85, 86, 87, 88, 89, 90, 91, 92, 93, 94, 95, 96, 97, 98] (fun vi L => vi = [.bool false] ∧ L = [K.row (.slice Q3 (anyS r (turnS ys)).length q3) 3 1 (anyS r (turnS ys)).length ((anyS r (turnS ys)).flatMap K.eI), K.row (.slice Q2 (carveL r).length q2) 3 1 (carveL r).length ((carveL r).flatMap K.eI), K.row (.slice Q1 (fillL r).length q1) 3 1 (fillL r).length ((fillL r).flatMap K.eI)]) ?_ ?_
  · refine K.region_lit ?_
    refine qm ?_
    refine qp (K.neq rfl rfl) ?_
    refine qm ?_
    refine K.split 80 rfl (fun hg80 => ?_) (fun hg80 => ?_)
    · try replace hg80 := of_decide_eq_true hg80
      refine qm ?_
      refine qp (K.Pure.eq (K.neq rfl rfl) (show _ = Value.bool false from congrArg Value.bool (decide_eq_false (by omega)))) ?_
      iterate 2 refine qm ?_
      first | refine K.seq_pure (K.Pure.eq (K.not_d rfl) (show _ = Value.bool false from by rw [fill_low g hc hRn hg80]; rfl)) rfl ?_ | refine K.seq_pure (K.Pure.eq (K.not_ rfl) (show _ = Value.bool false from by rw [fill_low g hc hRn hg80]; rfl)) rfl ?_
      refine zN ?_
      refine qp (K.pick_f rfl) ?_
      refine qp (K.pick_t rfl) ?_
      iterate 2 refine qm ?_
      refine qp (K.neq rfl rfl) ?_
      refine qm ?_
      refine K.split 91 rfl (fun hg91 => ?_) (fun hg91 => ?_)
      · try replace hg91 := of_decide_eq_true hg91
        refine qm ?_
        refine qp (K.Pure.eq (K.neq rfl rfl) (show _ = Value.bool false from congrArg Value.bool (decide_eq_false (by omega)))) ?_
        iterate 2 refine qm ?_
        first | refine K.seq_pure (K.Pure.eq (K.not_d rfl) (show _ = Value.bool false from by rw [carve_hig g hc hRn hg91]; rfl)) rfl ?_ | refine K.seq_pure (K.Pure.eq (K.not_ rfl) (show _ = Value.bool false from by rw [carve_hig g hc hRn hg91]; rfl)) rfl ?_
        refine zN ?_
        refine qp (K.pick_f rfl) ?_
        refine qp (K.pick_t rfl) ?_
        refine qp (K.pick_f rfl) ?_
        refine K.seq_nil ?_
        exact K.join_here (L' := [K.row (.slice Q3 (anyS r (turnS ys)).length q3) 3 1 (anyS r (turnS ys)).length ((anyS r (turnS ys)).flatMap K.eI), K.row (.slice Q2 (carveL r).length q2) 3 1 (carveL r).length ((carveL r).flatMap K.eI), K.row (.slice Q1 (fillL r).length q1) 3 1 (fillL r).length ((fillL r).flatMap K.eI)]) [.bool false] ⟨rfl, rfl⟩ (fun w h => h) (by kernel_rfl)
      try replace hg91 := of_decide_eq_false hg91
      iterate 6 refine qs ?_
      refine qp (K.pick_f rfl) ?_
      refine qp (K.pick_f rfl) ?_
      refine K.seq_nil ?_
      exact K.join_here (L' := [K.row (.slice Q3 (anyS r (turnS ys)).length q3) 3 1 (anyS r (turnS ys)).length ((anyS r (turnS ys)).flatMap K.eI), K.row (.slice Q2 (carveL r).length q2) 3 1 (carveL r).length ((carveL r).flatMap K.eI), K.row (.slice Q1 (fillL r).length q1) 3 1 (fillL r).length ((fillL r).flatMap K.eI)]) [.bool false] ⟨rfl, rfl⟩ (fun w h => h) (by kernel_rfl)
    try replace hg80 := of_decide_eq_false hg80
    iterate 6 refine qs ?_
    refine qp (K.pick_f rfl) ?_
    iterate 2 refine qm ?_
    refine qp (K.neq rfl rfl) ?_
    refine qm ?_
    refine K.split 91 rfl (fun hg91 => ?_) (fun hg91 => ?_)
    · try replace hg91 := of_decide_eq_true hg91
      refine qm ?_
      refine qp (K.Pure.eq (K.neq rfl rfl) (show _ = Value.bool false from congrArg Value.bool (decide_eq_false (by omega)))) ?_
      iterate 2 refine qm ?_
      first | refine K.seq_pure (K.Pure.eq (K.not_d rfl) (show _ = Value.bool false from by rw [carve_hig g hc hRn hg91]; rfl)) rfl ?_ | refine K.seq_pure (K.Pure.eq (K.not_ rfl) (show _ = Value.bool false from by rw [carve_hig g hc hRn hg91]; rfl)) rfl ?_
      refine zN ?_
      refine qp (K.pick_f rfl) ?_
      refine qp (K.pick_t rfl) ?_
      refine qp (K.pick_f rfl) ?_
      refine K.seq_nil ?_
      exact K.join_here (L' := [K.row (.slice Q3 (anyS r (turnS ys)).length q3) 3 1 (anyS r (turnS ys)).length ((anyS r (turnS ys)).flatMap K.eI), K.row (.slice Q2 (carveL r).length q2) 3 1 (carveL r).length ((carveL r).flatMap K.eI), K.row (.slice Q1 (fillL r).length q1) 3 1 (fillL r).length ((fillL r).flatMap K.eI)]) [.bool false] ⟨rfl, rfl⟩ (fun w h => h) (by kernel_rfl)
    try replace hg91 := of_decide_eq_false hg91
    iterate 6 refine qs ?_
    refine qp (K.pick_f rfl) ?_
    refine qp (K.pick_f rfl) ?_
    refine K.seq_nil ?_
    exact K.join_here (L' := [K.row (.slice Q3 (anyS r (turnS ys)).length q3) 3 1 (anyS r (turnS ys)).length ((anyS r (turnS ys)).flatMap K.eI), K.row (.slice Q2 (carveL r).length q2) 3 1 (carveL r).length ((carveL r).flatMap K.eI), K.row (.slice Q1 (fillL r).length q1) 3 1 (fillL r).length ((fillL r).flatMap K.eI)]) [.bool false] ⟨rfl, rfl⟩ (fun w h => h) (by kernel_rfl)
  intro vi vr L hJ
  obtain ⟨rfl, rfl⟩ := hJ
  try dsimp only [setd, setn, ev, nth, over, cl, eI, eP, eT, eR, setM, setF, List.map, List.append, List.drop, List.take]
  refine K.norm_then ?_
  refine K.cond_false rfl ?_
  refine K.skip ?_
  refine K.norm_then ?_
  refine sr ?_
  iterate 2 refine qm ?_
  refine K.seq_new (K.buildSlice ((bs2V _ _ _ _ _ _))) rfl ?_
  intro b102
  refine zN ?_
  refine qa ?_
  refine sn ?_
  refine K.seq ?_
  refine sr ?_
  refine qa ?_
  refine sn ?_
  refine K.block ?_
  refine K.loopW [16] [6, 17, 18, 19, 103, 104, 105, 106, 107, 108, 109, 110, 111, 112, 113, 114, 115, 116, 117, 118, 119, 120, 121, 122, 123, 124, 125, 126, 127, 128, 129, 130, 131, 132, 133, 134, 135, 136, 137, 138, 139, 140, 141, 142, 143, 144, 145, 146, 147, 148, 149, 150, 151, 152, 153, 154, 155, 156, 157, 158, 159, 160, 161, 162, 163, 164, 165, 166, 167, 168, 169, 170, 171, 172, 173, 174, 175, 176, 177, 178, 179, 180, 181, 182, 183, 184, 185, 186, 187, 188, 189, 190, 191, 192, 193, 194, 195, 196, 197, 198, 199, 200, 201, 202, 203, 204, 205, 206, 207, 208, 209, 210, 211, 212, 213, 214, 215, 216, 217, 218, 219, 220, 221, 222, 223, 224, 225, 226, 227, 228, 229, 230, 231, 232, 233, 234, 235, 236, 237, 238, 239, 240, 241, 242, 243, 244, 245, 246, 247, 248] (fun vi L => ∃ n : Nat, vi = [.int .i64 (n : Int)] ∧ L = [K.blk b102 26 [.slice Q1 (fillL r).length q1, .slice Q2 (carveL r).length q2], K.row (.slice Q3 (anyS r (turnS ys)).length q3) 3 1 (anyS r (turnS ys)).length ((anyS r (turnS ys)).flatMap K.eI), K.row (.slice Q2 (carveL r).length q2) 3 1 (carveL r).length ((carveL r).flatMap K.eI), K.row (.slice Q1 (fillL r).length q1) 3 1 (fillL r).length ((fillL r).flatMap K.eI)] ∧ n ≤ 2) (fun vi => 2 - (intOf (K.nth vi 0)).toNat) ?_ ?_
  · exact ⟨0, rfl, rfl, Nat.zero_le _⟩
  intro vi vr L hJ
  obtain ⟨n, rfl, rfl, hn2⟩ := hJ
  try dsimp only [setd, setn, ev, nth, over, cl, eI, eP, eT, eR, setM, setF, List.map, List.append, List.drop, List.take]
  refine K.seq ?_
  refine sr ?_
  refine qm ?_
  refine qp (K.lss rfl rfl) ?_
  refine sn ?_
  refine K.cond rfl (fun ht104 => ?_) (fun ht104 => ?_)
  · try replace ht104 := of_decide_eq_true ht104
    refine K.skip ?_
    refine K.norm_then ?_
    refine K.seq ?_
    refine K.block ?_
    refine K.seq ?_
    refine K.seq ?_
    refine K.joinW [120] [107, 108, 109, 110, 111, 112, 113, 114, 115, 116, 117, 118, 119] (fun vi L => vi = [.bool (decide (two n (fillE r) (carveE r) ≠ 0))] ∧ L = [K.blk b102 26 [.slice Q1 (fillL r).length q1, .slice Q2 (carveL r).length q2], K.row (.slice Q3 (anyS r (turnS ys)).length q3) 3 1 (anyS r (turnS ys)).length ((anyS r (turnS ys)).flatMap K.eI), K.row (.slice Q2 (carveL r).length q2) 3 1 (carveL r).length ((carveL r).flatMap K.eI), K.row (.slice Q1 (fillL r).length q1) 3 1 (fillL r).length ((fillL r).flatMap K.eI)]) ?_ ?_
    · refine K.region_lit ?_
      refine qm ?_
      refine qp (K.eql rfl rfl) ?_
      refine qm ?_
      refine K.split 109 rfl (fun hg109 => ?_) (fun hg109 => ?_)
      · try replace hg109 := of_decide_eq_true hg109
        refine qm ?_
        refine qp (K.neq rfl rfl) ?_
        refine qp (K.pick_t rfl) ?_
        refine qm ?_
        refine K.split 113 rfl (fun hg113 => ?_) (fun hg113 => ?_)
        · try replace hg113 := of_decide_eq_true hg113
          iterate 6 refine qs ?_
          refine qp (K.pick_t rfl) ?_
          refine K.seq_nil ?_
          have ev17 : true = decide (two n (fillE r) (carveE r) ≠ 0) := by rw [two_0 (by omega)]; exact (decide_eq_true hg113).symm
          exact K.join_here (L' := [K.blk b102 26 [.slice Q1 (fillL r).length q1, .slice Q2 (carveL r).length q2], K.row (.slice Q3 (anyS r (turnS ys)).length q3) 3 1 (anyS r (turnS ys)).length ((anyS r (turnS ys)).flatMap K.eI), K.row (.slice Q2 (carveL r).length q2) 3 1 (carveL r).length ((carveL r).flatMap K.eI), K.row (.slice Q1 (fillL r).length q1) 3 1 (fillL r).length ((fillL r).flatMap K.eI)]) [.bool true] ⟨by rw [← ev17], rfl⟩ (fun w h => h) (by kernel_rfl)
        try replace hg113 := of_decide_eq_false hg113
        refine qm ?_
        refine qp (K.eql rfl rfl) ?_
        refine qm ?_
        refine K.split 116 rfl (fun hg116 => ?_) (fun hg116 => ?_)
        · try replace hg116 := of_decide_eq_true hg116
          exfalso; omega
        try replace hg116 := of_decide_eq_false hg116
        iterate 2 refine qs ?_
        refine qp (K.pick_f rfl) ?_
        refine qp (K.pick_f rfl) ?_
        refine K.seq_nil ?_
        have ev17 : false = decide (two n (fillE r) (carveE r) ≠ 0) := by rw [two_0 (by omega)]; exact (decide_eq_false (by omega)).symm
        exact K.join_here (L' := [K.blk b102 26 [.slice Q1 (fillL r).length q1, .slice Q2 (carveL r).length q2], K.row (.slice Q3 (anyS r (turnS ys)).length q3) 3 1 (anyS r (turnS ys)).length ((anyS r (turnS ys)).flatMap K.eI), K.row (.slice Q2 (carveL r).length q2) 3 1 (carveL r).length ((carveL r).flatMap K.eI), K.row (.slice Q1 (fillL r).length q1) 3 1 (fillL r).length ((fillL r).flatMap K.eI)]) [.bool false] ⟨by rw [← ev17], rfl⟩ (fun w h => h) (by kernel_rfl)
      try replace hg109 := of_decide_eq_false hg109
      iterate 2 refine qs ?_
      refine qp (K.pick_f rfl) ?_
      iterate 2 refine qm ?_
      refine qp (K.eql rfl rfl) ?_
      refine qm ?_
      refine K.split 116 rfl (fun hg116 => ?_) (fun hg116 => ?_)
      · try replace hg116 := of_decide_eq_true hg116
        refine qm ?_
        refine qp (K.neq rfl rfl) ?_
        refine qp (K.pick_t rfl) ?_
        refine qp (K.pick_f rfl) ?_
        refine K.seq_nil ?_
        have ev17 : (decide (carveE r ≠ 0)) = decide (two n (fillE r) (carveE r) ≠ 0) := by rw [two_1 (by omega)]
        exact K.join_here (L' := [K.blk b102 26 [.slice Q1 (fillL r).length q1, .slice Q2 (carveL r).length q2], K.row (.slice Q3 (anyS r (turnS ys)).length q3) 3 1 (anyS r (turnS ys)).length ((anyS r (turnS ys)).flatMap K.eI), K.row (.slice Q2 (carveL r).length q2) 3 1 (carveL r).length ((carveL r).flatMap K.eI), K.row (.slice Q1 (fillL r).length q1) 3 1 (fillL r).length ((fillL r).flatMap K.eI)]) [.bool (decide (carveE r ≠ 0))] ⟨by rw [← ev17], rfl⟩ (fun w h => h) (by kernel_rfl)
      try replace hg116 := of_decide_eq_false hg116
      exfalso; omega
    intro vi vr L hJ
    obtain ⟨rfl, rfl⟩ := hJ
    try dsimp only [setd, setn, ev, nth, over, cl, eI, eP, eT, eR, setM, setF, List.map, List.append, List.drop, List.take]
    refine K.norm_then ?_
    refine K.cond rfl (fun ht120 => ?_) (fun ht120 => ?_)
    · try replace ht120 := of_decide_eq_true ht120
      refine K.exit ?_
      refine K.exit_then ?_
      refine K.exit_here ?_
      refine K.norm_then ?_
      refine K.region_lit ?_
      refine qm ?_
      refine qp (K.add_i64 rfl rfl (by omega)) ?_
      refine qa ?_
      refine K.seq_nil ?_
      exact K.round_endW (L'' := [K.blk b102 26 [.slice Q1 (fillL r).length q1, .slice Q2 (carveL r).length q2], K.row (.slice Q3 (anyS r (turnS ys)).length q3) 3 1 (anyS r (turnS ys)).length ((anyS r (turnS ys)).flatMap K.eI), K.row (.slice Q2 (carveL r).length q2) 3 1 (carveL r).length ((carveL r).flatMap K.eI), K.row (.slice Q1 (fillL r).length q1) 3 1 (fillL r).length ((fillL r).flatMap K.eI)]) [.int .i64 ((n : Int) + 1)] ⟨n + 1, rfl, rfl, by omega⟩ (by simp [K.nth, intOf]; omega) (List.Sublist.refl _) (by kernel_rfl)
    try replace ht120 := of_decide_eq_false ht120
    have het : two n (fillE r) (carveE r) = 0 := by omega
    have hRt : Runs r (two n (fillL r) (carveL r)) := by
      by_cases h0 : n = 0
      · rw [two_0 h0] at het ⊢; exact (fill_ok het).2
      · rw [two_1 h0] at het ⊢; exact (carve_ok het).2
    have hrun : runB r (two n (fillL r) (carveL r)) = true := runs_iff.2 hRt
    have hlt := hRt.l
    have hpo := pour_runs hc hRt ha
    have hwl := w_len (r := r) (l := (two n (fillL r) (carveL r)))
    refine K.skip ?_
    refine K.norm_then ?_
    refine K.seq ?_
    refine sr ?_
    iterate 3 refine qm ?_
    refine K.seq_pure (K.Pure.eq (K.indexAddr_sl sl_50 rfl rfl (by omega) (by omega)) (show _ = Value.pointer (some ⟨b102, 0 + n * 1, none⟩) from by rw [K.add_lit, Int.toNat_natCast])) rfl ?_
    refine zN ?_
    refine zN ?_
    refine K.seq_sil (K.load_at one_26 rfl (K.PtrL.own' ((K.m0))) (two_sl (by omega))) rfl ?_
    refine zN ?_
    refine K.seq_call (K.call_g cal_39 (fun F w hF hw => (by have h1 := (K.Rd.own (e := K.eI) (xs := (fillL r)) hw (hF _ (K.m3)) hq1 (fun _ => rfl) (by decide)); have h2 := (K.Rd.own (e := K.eI) (xs := (carveL r)) hw (hF _ (K.m2)) hq2 (fun _ => rfl) (by decide)); have hg := c39 (c := c) (d := two n q1 q2) (hR.pass hw) (rd_two (n := n) h1 h2) g (by omega); rw [hrun] at hg; exact hg))) rfl ?_
    refine zN ?_
    first | refine K.seq_pure (K.Pure.eq (K.not_d rfl) (show _ = Value.bool false from rfl)) rfl ?_ | refine K.seq_pure (K.Pure.eq (K.not_ rfl) (show _ = Value.bool false from rfl)) rfl ?_
    refine zN ?_
    refine sn ?_
    refine K.cond_false rfl ?_
    refine K.skip ?_
    refine K.norm_then ?_
    refine K.seq ?_
    refine sr ?_
    refine qa ?_
    refine sn ?_
    refine K.block ?_
    refine K.loopW [17] [6, 128, 129, 130, 131, 132, 133, 134, 135, 136, 137, 138, 139, 140, 141, 142, 143, 144, 145, 146, 147, 148, 149, 150, 151, 152, 153, 154, 155, 156, 157, 158, 159, 160, 161, 162, 163, 164, 165, 166, 167, 168, 169, 170, 171, 172, 173, 174, 175, 176, 177, 178, 179, 180, 181, 182, 183, 184, 185, 186, 187, 188, 189, 190, 191, 192, 193] (fun vi L => ∃ k : Nat, vi = [.int .i64 (k : Int)] ∧ L = [K.blk b102 26 [.slice Q1 (fillL r).length q1, .slice Q2 (carveL r).length q2], K.row (.slice Q3 (anyS r (turnS ys)).length q3) 3 1 (anyS r (turnS ys)).length ((anyS r (turnS ys)).flatMap K.eI), K.row (.slice Q2 (carveL r).length q2) 3 1 (carveL r).length ((carveL r).flatMap K.eI), K.row (.slice Q1 (fillL r).length q1) 3 1 (fillL r).length ((fillL r).flatMap K.eI)] ∧ k ≤ r.length) (fun vi => r.length - (intOf (K.nth vi 0)).toNat) ?_ ?_
    · exact ⟨0, rfl, rfl, Nat.zero_le _⟩
    intro vi vr L hJ
    obtain ⟨k, rfl, rfl, hkn⟩ := hJ
    try dsimp only [setd, setn, ev, nth, over, cl, eI, eP, eT, eR, setM, setF, List.map, List.append, List.drop, List.take]
    refine K.seq ?_
    refine sr ?_
    iterate 2 refine qm ?_
    refine qp (K.len_sl sl_22 rfl) ?_
    refine qp (K.lss rfl rfl) ?_
    refine sn ?_
    refine K.cond rfl (fun ht131 => ?_) (fun ht131 => ?_)
    · try replace ht131 := of_decide_eq_true ht131
      have hk : k < r.length := by omega
      refine K.skip ?_
      refine K.norm_then ?_
      refine K.seq ?_
      refine K.block ?_
      refine K.seq ?_
      refine K.joinW [193] [134, 135, 136, 137, 138, 139, 140, 141, 142, 143, 144, 145, 146, 147, 148, 149, 150, 151, 152, 153, 154, 155, 156, 157, 158, 159, 160, 161, 162, 163, 164, 165, 166, 167, 168, 169, 170, 171, 172, 173, 174, 175, 176, 177, 178, 179, 180, 181, 182, 183, 184, 185, 186, 187, 188, 189, 190, 191, 192] (fun vi L => vi = [.bool false] ∧ L = [K.blk b102 26 [.slice Q1 (fillL r).length q1, .slice Q2 (carveL r).length q2], K.row (.slice Q3 (anyS r (turnS ys)).length q3) 3 1 (anyS r (turnS ys)).length ((anyS r (turnS ys)).flatMap K.eI), K.row (.slice Q2 (carveL r).length q2) 3 1 (carveL r).length ((carveL r).flatMap K.eI), K.row (.slice Q1 (fillL r).length q1) 3 1 (fillL r).length ((fillL r).flatMap K.eI)]) ?_ ?_
      · refine K.draw_L [] Tryd_mixed ?_
        refine K.d_pure 0 rfl (K.move) (by kernel_rfl) rfl ?_
        refine zn ?_
        refine K.d_pure 1 rfl (K.eql rfl rfl) (by kernel_rfl) rfl ?_
        refine zn ?_
        refine K.d_pure 2 rfl (K.move) (by kernel_rfl) rfl ?_
        refine zn ?_
        refine K.dsplit 136 rfl (fun hg136 => ?_) (fun hg136 => ?_)
        · try replace hg136 := of_decide_eq_true hg136
          rw [two_0 (by omega)] at het
          obtain ⟨hfl, hfr⟩ := fill_ok het
          have hfe := hfr.l
          have hfa : (fillL r).getD k default = fillF r (ownS r) k r.length := by rw [hfl, fill_at hk]
          have hfg := fill_ge0 (r := r) (h := ownS r) (i := k) r.length
          have hfo := own_at hk
          refine K.d_pure 3 rfl (K.move) (by kernel_rfl) rfl ?_
          refine zn ?_
          refine K.d_pure 4 rfl (K.move) (by kernel_rfl) rfl ?_
          refine zn ?_
          refine K.d_ix (M := [K.row (.slice Q1 (fillL r).length q1) 3 1 (fillL r).length ((fillL r).flatMap K.eI)]) 5 _ rfl (K.Sl.own (w0 := w) (t := 3) (c := q1) (e := K.eI) hq1 (fun _ => rfl)) sl_26 rfl rfl rfl (by omega) (by kernel_rfl) rfl ?_
          intro p139 hp139
          refine zN ?_
          refine K.d_mem 6 rfl (K.load1 one_3 rfl (hp139.at1 (K.m3))) (fun _ h => h) (by kernel_rfl) (by kernel_rfl) rfl ?_
          refine zN ?_
          refine K.d_pure 7 rfl (K.move) (by kernel_rfl) rfl ?_
          refine zn ?_
          refine K.d_pure 8 rfl (K.move) (by kernel_rfl) rfl ?_
          refine zn ?_
          refine K.d_ix (M := []) 9 _ rfl hR.sl sl_22 rfl rfl rfl (by omega) (by kernel_rfl) rfl ?_
          intro p143 hp143
          refine zN ?_
          refine K.d_pure 10 rfl (K.fieldAddr fo_44_3 rfl) (by kernel_rfl) rfl ?_
          refine zn ?_
          refine K.d_mem 11 rfl (K.load1 one_3 rfl ((K.PtrL.fld hp143 (k := 3)).any)) (fun _ h => h) (by kernel_rfl) (by kernel_rfl) rfl ?_
          refine zN ?_
          refine K.d_pure 12 rfl (K.Pure.eq (K.lss rfl rfl) (show _ = Value.bool false from congrArg Value.bool (decide_eq_false (by omega)))) (by kernel_rfl) rfl ?_
          refine zn ?_
          refine K.d_pure 13 rfl (K.move) (by kernel_rfl) rfl ?_
          refine zn ?_
          refine K.d_pure 14 rfl (K.move) (by kernel_rfl) rfl ?_
          refine zn ?_
          first | refine K.d_pure 15 rfl (K.not_d rfl) (by kernel_rfl) rfl ?_ | refine K.d_pure 15 rfl (K.not_ rfl) (by kernel_rfl) rfl ?_
          refine zN ?_
          refine K.d_pure 16 rfl (K.move) (by kernel_rfl) rfl ?_
          refine zn ?_
          refine K.dsplit 150 rfl (fun hg150 => ?_) (fun hg150 => ?_)
          · try replace hg150 := of_decide_eq_true hg150
            refine K.d_pure 17 rfl (K.move) (by kernel_rfl) rfl ?_
            refine zn ?_
            refine K.d_pure 18 rfl (K.move) (by kernel_rfl) rfl ?_
            refine zn ?_
            refine K.d_ix (M := [K.row (.slice Q3 (anyS r (turnS ys)).length q3) 3 1 (anyS r (turnS ys)).length ((anyS r (turnS ys)).flatMap K.eI)]) 19 _ rfl (K.Sl.own (w0 := w) (t := 3) (c := q3) (e := K.eI) hq3 (fun _ => rfl)) sl_26 rfl rfl rfl (by omega) (by kernel_rfl) rfl ?_
            intro p153 hp153
            refine zN ?_
            refine K.d_mem 20 rfl (K.load1 one_3 rfl (hp153.at1 (K.m1))) (fun _ h => h) (by kernel_rfl) (by kernel_rfl) rfl ?_
            refine zN ?_
            refine K.d_pure 21 rfl (K.move) (by kernel_rfl) rfl ?_
            refine zn ?_
            refine K.d_pure 22 rfl (K.move) (by kernel_rfl) rfl ?_
            refine zn ?_
            refine K.d_ix (M := [K.row (.slice Q1 (fillL r).length q1) 3 1 (fillL r).length ((fillL r).flatMap K.eI)]) 23 _ rfl (K.Sl.own (w0 := w) (t := 3) (c := q1) (e := K.eI) hq1 (fun _ => rfl)) sl_26 rfl rfl rfl (by omega) (by kernel_rfl) rfl ?_
            intro p157 hp157
            refine zN ?_
            refine K.d_mem 24 rfl (K.load1 one_3 rfl (hp157.at1 (K.m3))) (fun _ h => h) (by kernel_rfl) (by kernel_rfl) rfl ?_
            refine zN ?_
            refine K.d_pure 25 rfl (K.Pure.eq (K.lss rfl rfl) (show _ = Value.bool false from congrArg Value.bool (decide_eq_false (by have := fill_under g hRn (by simpa using hg150) hk; omega)))) (by kernel_rfl) rfl ?_
            refine zn ?_
            refine K.d_pure 26 rfl (K.pick_t rfl) (by kernel_rfl) rfl ?_
            refine zn ?_
            refine K.d_pure 27 rfl (K.pick_f rfl) (by kernel_rfl) rfl ?_
            refine zn ?_
            refine K.d_pure 28 rfl (K.pick_t rfl) (by kernel_rfl) rfl ?_
            refine zn ?_
            refine K.d_pure 29 rfl (K.move) (by kernel_rfl) rfl ?_
            refine zn ?_
            refine K.d_pure 30 rfl (K.move) (by kernel_rfl) rfl ?_
            refine zn ?_
            refine K.d_pure 31 rfl (K.eql rfl rfl) (by kernel_rfl) rfl ?_
            refine zn ?_
            refine K.d_pure 32 rfl (K.move) (by kernel_rfl) rfl ?_
            refine zn ?_
            refine K.dsplit 166 rfl (fun hg166 => ?_) (fun hg166 => ?_)
            · try replace hg166 := of_decide_eq_true hg166
              exfalso; omega
            try replace hg166 := of_decide_eq_false hg166
            refine K.d_skip 33 rfl (by kernel_rfl) rfl ?_
            refine zN ?_
            refine K.d_skip 34 rfl (by kernel_rfl) rfl ?_
            refine zN ?_
            refine K.d_skip 35 rfl (by kernel_rfl) rfl ?_
            refine zN ?_
            refine K.d_skip 36 rfl (by kernel_rfl) rfl ?_
            refine zN ?_
            refine K.d_skip 37 rfl (by kernel_rfl) rfl ?_
            refine zN ?_
            refine K.d_skip 38 rfl (by kernel_rfl) rfl ?_
            refine zN ?_
            refine K.d_skip 39 rfl (by kernel_rfl) rfl ?_
            refine zN ?_
            refine K.d_skip 40 rfl (by kernel_rfl) rfl ?_
            refine zN ?_
            refine K.d_skip 41 rfl (by kernel_rfl) rfl ?_
            refine zN ?_
            refine K.d_skip 42 rfl (by kernel_rfl) rfl ?_
            refine zN ?_
            refine K.d_skip 43 rfl (by kernel_rfl) rfl ?_
            refine zN ?_
            refine K.d_skip 44 rfl (by kernel_rfl) rfl ?_
            refine zN ?_
            refine K.d_skip 45 rfl (by kernel_rfl) rfl ?_
            refine zN ?_
            refine K.d_skip 46 rfl (by kernel_rfl) rfl ?_
            refine zN ?_
            refine K.d_skip 47 rfl (by kernel_rfl) rfl ?_
            refine zN ?_
            refine K.d_skip 48 rfl (by kernel_rfl) rfl ?_
            refine zN ?_
            refine K.d_skip 49 rfl (by kernel_rfl) rfl ?_
            refine zN ?_
            refine K.d_skip 50 rfl (by kernel_rfl) rfl ?_
            refine zN ?_
            refine K.d_skip 51 rfl (by kernel_rfl) rfl ?_
            refine zN ?_
            refine K.d_skip 52 rfl (by kernel_rfl) rfl ?_
            refine zN ?_
            refine K.d_skip 53 rfl (by kernel_rfl) rfl ?_
            refine zN ?_
            refine K.d_skip 54 rfl (by kernel_rfl) rfl ?_
            refine zN ?_
            refine K.d_skip 55 rfl (by kernel_rfl) rfl ?_
            refine zN ?_
            refine K.d_skip 56 rfl (by kernel_rfl) rfl ?_
            refine zN ?_
            refine K.d_skip 57 rfl (by kernel_rfl) rfl ?_
            refine zN ?_
            refine K.d_pure 58 rfl (K.pick_f rfl) (by kernel_rfl) rfl ?_
            refine zn ?_
            refine K.d_pure 59 rfl (K.pick_f rfl) (by kernel_rfl) rfl ?_
            refine zn ?_
            refine K.d_done (by kernel_rfl) ?_
            exact K.join_here (L' := [K.blk b102 26 [.slice Q1 (fillL r).length q1, .slice Q2 (carveL r).length q2], K.row (.slice Q3 (anyS r (turnS ys)).length q3) 3 1 (anyS r (turnS ys)).length ((anyS r (turnS ys)).flatMap K.eI), K.row (.slice Q2 (carveL r).length q2) 3 1 (carveL r).length ((carveL r).flatMap K.eI), K.row (.slice Q1 (fillL r).length q1) 3 1 (fillL r).length ((fillL r).flatMap K.eI)]) [.bool false] ⟨rfl, rfl⟩ (fun w h => h) (by kernel_rfl)
          try replace hg150 := of_decide_eq_false hg150
          refine K.d_skip 17 rfl (by kernel_rfl) rfl ?_
          refine zN ?_
          refine K.d_skip 18 rfl (by kernel_rfl) rfl ?_
          refine zN ?_
          refine K.d_skip 19 rfl (by kernel_rfl) rfl ?_
          refine zN ?_
          refine K.d_skip 20 rfl (by kernel_rfl) rfl ?_
          refine zN ?_
          refine K.d_skip 21 rfl (by kernel_rfl) rfl ?_
          refine zN ?_
          refine K.d_skip 22 rfl (by kernel_rfl) rfl ?_
          refine zN ?_
          refine K.d_skip 23 rfl (by kernel_rfl) rfl ?_
          refine zN ?_
          refine K.d_skip 24 rfl (by kernel_rfl) rfl ?_
          refine zN ?_
          refine K.d_skip 25 rfl (by kernel_rfl) rfl ?_
          refine zN ?_
          refine K.d_pure 26 rfl (K.pick_f rfl) (by kernel_rfl) rfl ?_
          refine zn ?_
          refine K.d_pure 27 rfl (K.pick_f rfl) (by kernel_rfl) rfl ?_
          refine zn ?_
          refine K.d_pure 28 rfl (K.pick_t rfl) (by kernel_rfl) rfl ?_
          refine zn ?_
          refine K.d_pure 29 rfl (K.move) (by kernel_rfl) rfl ?_
          refine zn ?_
          refine K.d_pure 30 rfl (K.move) (by kernel_rfl) rfl ?_
          refine zn ?_
          refine K.d_pure 31 rfl (K.eql rfl rfl) (by kernel_rfl) rfl ?_
          refine zn ?_
          refine K.d_pure 32 rfl (K.move) (by kernel_rfl) rfl ?_
          refine zn ?_
          refine K.dsplit 166 rfl (fun hg166 => ?_) (fun hg166 => ?_)
          · try replace hg166 := of_decide_eq_true hg166
            exfalso; omega
          try replace hg166 := of_decide_eq_false hg166
          refine K.d_skip 33 rfl (by kernel_rfl) rfl ?_
          refine zN ?_
          refine K.d_skip 34 rfl (by kernel_rfl) rfl ?_
          refine zN ?_
          refine K.d_skip 35 rfl (by kernel_rfl) rfl ?_
          refine zN ?_
          refine K.d_skip 36 rfl (by kernel_rfl) rfl ?_
          refine zN ?_
          refine K.d_skip 37 rfl (by kernel_rfl) rfl ?_
          refine zN ?_
          refine K.d_skip 38 rfl (by kernel_rfl) rfl ?_
          refine zN ?_
          refine K.d_skip 39 rfl (by kernel_rfl) rfl ?_
          refine zN ?_
          refine K.d_skip 40 rfl (by kernel_rfl) rfl ?_
          refine zN ?_
          refine K.d_skip 41 rfl (by kernel_rfl) rfl ?_
          refine zN ?_
          refine K.d_skip 42 rfl (by kernel_rfl) rfl ?_
          refine zN ?_
          refine K.d_skip 43 rfl (by kernel_rfl) rfl ?_
          refine zN ?_
          refine K.d_skip 44 rfl (by kernel_rfl) rfl ?_
          refine zN ?_
          refine K.d_skip 45 rfl (by kernel_rfl) rfl ?_
          refine zN ?_
          refine K.d_skip 46 rfl (by kernel_rfl) rfl ?_
          refine zN ?_
          refine K.d_skip 47 rfl (by kernel_rfl) rfl ?_
          refine zN ?_
          refine K.d_skip 48 rfl (by kernel_rfl) rfl ?_
          refine zN ?_
          refine K.d_skip 49 rfl (by kernel_rfl) rfl ?_
          refine zN ?_
          refine K.d_skip 50 rfl (by kernel_rfl) rfl ?_
          refine zN ?_
          refine K.d_skip 51 rfl (by kernel_rfl) rfl ?_
          refine zN ?_
          refine K.d_skip 52 rfl (by kernel_rfl) rfl ?_
          refine zN ?_
          refine K.d_skip 53 rfl (by kernel_rfl) rfl ?_
          refine zN ?_
          refine K.d_skip 54 rfl (by kernel_rfl) rfl ?_
          refine zN ?_
          refine K.d_skip 55 rfl (by kernel_rfl) rfl ?_
          refine zN ?_
          refine K.d_skip 56 rfl (by kernel_rfl) rfl ?_
          refine zN ?_
          refine K.d_skip 57 rfl (by kernel_rfl) rfl ?_
          refine zN ?_
          refine K.d_pure 58 rfl (K.pick_f rfl) (by kernel_rfl) rfl ?_
          refine zn ?_
          refine K.d_pure 59 rfl (K.pick_f rfl) (by kernel_rfl) rfl ?_
          refine zn ?_
          refine K.d_done (by kernel_rfl) ?_
          exact K.join_here (L' := [K.blk b102 26 [.slice Q1 (fillL r).length q1, .slice Q2 (carveL r).length q2], K.row (.slice Q3 (anyS r (turnS ys)).length q3) 3 1 (anyS r (turnS ys)).length ((anyS r (turnS ys)).flatMap K.eI), K.row (.slice Q2 (carveL r).length q2) 3 1 (carveL r).length ((carveL r).flatMap K.eI), K.row (.slice Q1 (fillL r).length q1) 3 1 (fillL r).length ((fillL r).flatMap K.eI)]) [.bool false] ⟨rfl, rfl⟩ (fun w h => h) (by kernel_rfl)
        try replace hg136 := of_decide_eq_false hg136
        refine K.d_skip 3 rfl (by kernel_rfl) rfl ?_
        refine zN ?_
        refine K.d_skip 4 rfl (by kernel_rfl) rfl ?_
        refine zN ?_
        refine K.d_skip 5 rfl (by kernel_rfl) rfl ?_
        refine zN ?_
        refine K.d_skip 6 rfl (by kernel_rfl) rfl ?_
        refine zN ?_
        refine K.d_skip 7 rfl (by kernel_rfl) rfl ?_
        refine zN ?_
        refine K.d_skip 8 rfl (by kernel_rfl) rfl ?_
        refine zN ?_
        refine K.d_skip 9 rfl (by kernel_rfl) rfl ?_
        refine zN ?_
        refine K.d_skip 10 rfl (by kernel_rfl) rfl ?_
        refine zN ?_
        refine K.d_skip 11 rfl (by kernel_rfl) rfl ?_
        refine zN ?_
        refine K.d_skip 12 rfl (by kernel_rfl) rfl ?_
        refine zN ?_
        refine K.d_skip 13 rfl (by kernel_rfl) rfl ?_
        refine zN ?_
        refine K.d_skip 14 rfl (by kernel_rfl) rfl ?_
        refine zN ?_
        refine K.d_skip 15 rfl (by kernel_rfl) rfl ?_
        refine zN ?_
        refine K.d_skip 16 rfl (by kernel_rfl) rfl ?_
        refine zN ?_
        refine K.d_skip 17 rfl (by kernel_rfl) rfl ?_
        refine zN ?_
        refine K.d_skip 18 rfl (by kernel_rfl) rfl ?_
        refine zN ?_
        refine K.d_skip 19 rfl (by kernel_rfl) rfl ?_
        refine zN ?_
        refine K.d_skip 20 rfl (by kernel_rfl) rfl ?_
        refine zN ?_
        refine K.d_skip 21 rfl (by kernel_rfl) rfl ?_
        refine zN ?_
        refine K.d_skip 22 rfl (by kernel_rfl) rfl ?_
        refine zN ?_
        refine K.d_skip 23 rfl (by kernel_rfl) rfl ?_
        refine zN ?_
        refine K.d_skip 24 rfl (by kernel_rfl) rfl ?_
        refine zN ?_
        refine K.d_skip 25 rfl (by kernel_rfl) rfl ?_
        refine zN ?_
        refine K.d_skip 26 rfl (by kernel_rfl) rfl ?_
        refine zN ?_
        refine K.d_skip 27 rfl (by kernel_rfl) rfl ?_
        refine zN ?_
        refine K.d_pure 28 rfl (K.pick_f rfl) (by kernel_rfl) rfl ?_
        refine zn ?_
        refine K.d_pure 29 rfl (K.move) (by kernel_rfl) rfl ?_
        refine zn ?_
        refine K.d_pure 30 rfl (K.move) (by kernel_rfl) rfl ?_
        refine zn ?_
        refine K.d_pure 31 rfl (K.eql rfl rfl) (by kernel_rfl) rfl ?_
        refine zn ?_
        refine K.d_pure 32 rfl (K.move) (by kernel_rfl) rfl ?_
        refine zn ?_
        refine K.dsplit 166 rfl (fun hg166 => ?_) (fun hg166 => ?_)
        · try replace hg166 := of_decide_eq_true hg166
          rw [two_1 (by omega)] at het
          obtain ⟨hfl, hfr⟩ := carve_ok het
          have hfe := hfr.l
          have hfa : (carveL r).getD k default = carveF r (ownS r) k r.length := by rw [hfl, carve_at hk]
          have hfg := carve_le0 (r := r) (h := ownS r) (i := k) r.length
          have hfo := own_at hk
          refine K.d_pure 33 rfl (K.move) (by kernel_rfl) rfl ?_
          refine zn ?_
          refine K.d_pure 34 rfl (K.move) (by kernel_rfl) rfl ?_
          refine zn ?_
          refine K.d_ix (M := [K.row (.slice Q2 (carveL r).length q2) 3 1 (carveL r).length ((carveL r).flatMap K.eI)]) 35 _ rfl (K.Sl.own (w0 := w) (t := 3) (c := q2) (e := K.eI) hq2 (fun _ => rfl)) sl_26 rfl rfl rfl (by omega) (by kernel_rfl) rfl ?_
          intro p169 hp169
          refine zN ?_
          refine K.d_mem 36 rfl (K.load1 one_3 rfl (hp169.at1 (K.m2))) (fun _ h => h) (by kernel_rfl) (by kernel_rfl) rfl ?_
          refine zN ?_
          refine K.d_pure 37 rfl (K.move) (by kernel_rfl) rfl ?_
          refine zn ?_
          refine K.d_pure 38 rfl (K.move) (by kernel_rfl) rfl ?_
          refine zn ?_
          refine K.d_ix (M := []) 39 _ rfl hR.sl sl_22 rfl rfl rfl (by omega) (by kernel_rfl) rfl ?_
          intro p173 hp173
          refine zN ?_
          refine K.d_pure 40 rfl (K.fieldAddr fo_44_3 rfl) (by kernel_rfl) rfl ?_
          refine zn ?_
          refine K.d_mem 41 rfl (K.load1 one_3 rfl ((K.PtrL.fld hp173 (k := 3)).any)) (fun _ h => h) (by kernel_rfl) (by kernel_rfl) rfl ?_
          refine zN ?_
          refine K.d_pure 42 rfl (K.Pure.eq (K.gtr rfl rfl) (show _ = Value.bool false from congrArg Value.bool (decide_eq_false (by omega)))) (by kernel_rfl) rfl ?_
          refine zn ?_
          refine K.d_pure 43 rfl (K.move) (by kernel_rfl) rfl ?_
          refine zn ?_
          refine K.d_pure 44 rfl (K.move) (by kernel_rfl) rfl ?_
          refine zn ?_
          first | refine K.d_pure 45 rfl (K.not_d rfl) (by kernel_rfl) rfl ?_ | refine K.d_pure 45 rfl (K.not_ rfl) (by kernel_rfl) rfl ?_
          refine zN ?_
          refine K.d_pure 46 rfl (K.move) (by kernel_rfl) rfl ?_
          refine zn ?_
          refine K.dsplit 180 rfl (fun hg180 => ?_) (fun hg180 => ?_)
          · try replace hg180 := of_decide_eq_true hg180
            refine K.d_pure 47 rfl (K.move) (by kernel_rfl) rfl ?_
            refine zn ?_
            refine K.d_pure 48 rfl (K.move) (by kernel_rfl) rfl ?_
            refine zn ?_
            refine K.d_ix (M := [K.row (.slice Q3 (anyS r (turnS ys)).length q3) 3 1 (anyS r (turnS ys)).length ((anyS r (turnS ys)).flatMap K.eI)]) 49 _ rfl (K.Sl.own (w0 := w) (t := 3) (c := q3) (e := K.eI) hq3 (fun _ => rfl)) sl_26 rfl rfl rfl (by omega) (by kernel_rfl) rfl ?_
            intro p183 hp183
            refine zN ?_
            refine K.d_mem 50 rfl (K.load1 one_3 rfl (hp183.at1 (K.m1))) (fun _ h => h) (by kernel_rfl) (by kernel_rfl) rfl ?_
            refine zN ?_
            refine K.d_pure 51 rfl (K.move) (by kernel_rfl) rfl ?_
            refine zn ?_
            refine K.d_pure 52 rfl (K.move) (by kernel_rfl) rfl ?_
            refine zn ?_
            refine K.d_ix (M := [K.row (.slice Q2 (carveL r).length q2) 3 1 (carveL r).length ((carveL r).flatMap K.eI)]) 53 _ rfl (K.Sl.own (w0 := w) (t := 3) (c := q2) (e := K.eI) hq2 (fun _ => rfl)) sl_26 rfl rfl rfl (by omega) (by kernel_rfl) rfl ?_
            intro p187 hp187
            refine zN ?_
            refine K.d_mem 54 rfl (K.load1 one_3 rfl (hp187.at1 (K.m2))) (fun _ h => h) (by kernel_rfl) (by kernel_rfl) rfl ?_
            refine zN ?_
            refine K.d_pure 55 rfl (K.Pure.eq (K.gtr rfl rfl) (show _ = Value.bool false from congrArg Value.bool (decide_eq_false (by have := carve_over g hRn (by simpa using hg180) hk; omega)))) (by kernel_rfl) rfl ?_
            refine zn ?_
            refine K.d_pure 56 rfl (K.pick_t rfl) (by kernel_rfl) rfl ?_
            refine zn ?_
            refine K.d_pure 57 rfl (K.pick_f rfl) (by kernel_rfl) rfl ?_
            refine zn ?_
            refine K.d_pure 58 rfl (K.pick_t rfl) (by kernel_rfl) rfl ?_
            refine zn ?_
            refine K.d_pure 59 rfl (K.pick_f rfl) (by kernel_rfl) rfl ?_
            refine zn ?_
            refine K.d_done (by kernel_rfl) ?_
            exact K.join_here (L' := [K.blk b102 26 [.slice Q1 (fillL r).length q1, .slice Q2 (carveL r).length q2], K.row (.slice Q3 (anyS r (turnS ys)).length q3) 3 1 (anyS r (turnS ys)).length ((anyS r (turnS ys)).flatMap K.eI), K.row (.slice Q2 (carveL r).length q2) 3 1 (carveL r).length ((carveL r).flatMap K.eI), K.row (.slice Q1 (fillL r).length q1) 3 1 (fillL r).length ((fillL r).flatMap K.eI)]) [.bool false] ⟨rfl, rfl⟩ (fun w h => h) (by kernel_rfl)
          try replace hg180 := of_decide_eq_false hg180
          refine K.d_skip 47 rfl (by kernel_rfl) rfl ?_
          refine zN ?_
          refine K.d_skip 48 rfl (by kernel_rfl) rfl ?_
          refine zN ?_
          refine K.d_skip 49 rfl (by kernel_rfl) rfl ?_
          refine zN ?_
          refine K.d_skip 50 rfl (by kernel_rfl) rfl ?_
          refine zN ?_
          refine K.d_skip 51 rfl (by kernel_rfl) rfl ?_
          refine zN ?_
          refine K.d_skip 52 rfl (by kernel_rfl) rfl ?_
          refine zN ?_
          refine K.d_skip 53 rfl (by kernel_rfl) rfl ?_
          refine zN ?_
          refine K.d_skip 54 rfl (by kernel_rfl) rfl ?_
          refine zN ?_
          refine K.d_skip 55 rfl (by kernel_rfl) rfl ?_
          refine zN ?_
          refine K.d_pure 56 rfl (K.pick_f rfl) (by kernel_rfl) rfl ?_
          refine zn ?_
          refine K.d_pure 57 rfl (K.pick_f rfl) (by kernel_rfl) rfl ?_
          refine zn ?_
          refine K.d_pure 58 rfl (K.pick_t rfl) (by kernel_rfl) rfl ?_
          refine zn ?_
          refine K.d_pure 59 rfl (K.pick_f rfl) (by kernel_rfl) rfl ?_
          refine zn ?_
          refine K.d_done (by kernel_rfl) ?_
          exact K.join_here (L' := [K.blk b102 26 [.slice Q1 (fillL r).length q1, .slice Q2 (carveL r).length q2], K.row (.slice Q3 (anyS r (turnS ys)).length q3) 3 1 (anyS r (turnS ys)).length ((anyS r (turnS ys)).flatMap K.eI), K.row (.slice Q2 (carveL r).length q2) 3 1 (carveL r).length ((carveL r).flatMap K.eI), K.row (.slice Q1 (fillL r).length q1) 3 1 (fillL r).length ((fillL r).flatMap K.eI)]) [.bool false] ⟨rfl, rfl⟩ (fun w h => h) (by kernel_rfl)
        try replace hg166 := of_decide_eq_false hg166
        exfalso; omega
      intro vi vr L hJ
      obtain ⟨rfl, rfl⟩ := hJ
      try dsimp only [setd, setn, ev, nth, over, cl, eI, eP, eT, eR, setM, setF, List.map, List.append, List.drop, List.take]
      refine K.norm_then ?_
      refine K.cond_false rfl ?_
      refine K.skip ?_
      refine K.norm_block ?_
      refine K.norm_then ?_
      refine K.region_lit ?_
      refine qm ?_
      refine qp (K.add_i64 rfl rfl (by omega)) ?_
      refine qa ?_
      refine K.seq_nil ?_
      exact K.round_endW (L'' := [K.blk b102 26 [.slice Q1 (fillL r).length q1, .slice Q2 (carveL r).length q2], K.row (.slice Q3 (anyS r (turnS ys)).length q3) 3 1 (anyS r (turnS ys)).length ((anyS r (turnS ys)).flatMap K.eI), K.row (.slice Q2 (carveL r).length q2) 3 1 (carveL r).length ((carveL r).flatMap K.eI), K.row (.slice Q1 (fillL r).length q1) 3 1 (fillL r).length ((fillL r).flatMap K.eI)]) [.int .i64 ((k : Int) + 1)] ⟨k + 1, rfl, rfl, by omega⟩ (by simp [K.nth, intOf]; omega) (List.Sublist.refl _) (by kernel_rfl)
    try replace ht131 := of_decide_eq_false ht131
    refine K.exit ?_
    refine K.exit_then ?_
    refine K.exit_then ?_
    refine K.exit_here ?_
    refine K.norm_then ?_
    refine K.seq ?_
    refine K.draw_L [] Tryd_mixed ?_
    refine K.d_pure 0 rfl (K.move) (by kernel_rfl) rfl ?_
    refine zn ?_
    refine K.d_pure 1 rfl (K.move) (by kernel_rfl) rfl ?_
    refine zn ?_
    refine K.d_pure 2 rfl (K.move) (by kernel_rfl) rfl ?_
    refine zn ?_
    refine K.d_pure 3 rfl (K.Pure.eq (K.indexAddr_sl sl_50 rfl rfl (by omega) (by omega)) (show _ = Value.pointer (some ⟨b102, 0 + n * 1, none⟩) from by rw [K.add_lit, Int.toNat_natCast])) (by kernel_rfl) rfl ?_
    refine zN ?_
    refine zN ?_
    refine K.d_mem 4 rfl (K.load_at one_26 rfl (K.PtrL.own' ((K.m0))) (two_sl (by omega))) (fun _ h => h) (by kernel_rfl) (by kernel_rfl) rfl ?_
    refine zN ?_
    refine K.d_pure 6 rfl (K.move) (by kernel_rfl) rfl ?_
    refine zn ?_
    refine K.d_pure 7 rfl (K.Pure.eq (K.conv_int ik_5 ik_3 rfl) (show _ = Value.int .i64 z from by rw [IntWalk.i64_in _ (by omega)])) (by kernel_rfl) rfl ?_
    refine zN ?_
    refine K.d_pure 8 rfl (K.move) (by kernel_rfl) rfl ?_
    refine zn ?_
    refine K.d_pure 9 rfl (K.len_sl sl_22 rfl) (by kernel_rfl) rfl ?_
    refine zn ?_
    refine K.d_pure 10 rfl (K.Pure.eq (K.rem_i64 rfl rfl (by omega) (by omega)) (show _ = Value.int .i64 (a : Int) from congrArg (Value.int .i64) hza)) (by kernel_rfl) rfl ?_
    refine zn ?_
    refine K.d_loud 5 rfl (K.call_f cal_42 (fun F w hF hw => (by have h1 := (K.Rd.own (e := K.eI) (xs := (fillL r)) hw (hF _ (K.m3)) hq1 (fun _ => rfl) (by decide)); have h2 := (K.Rd.own (e := K.eI) (xs := (carveL r)) hw (hF _ (K.m2)) hq2 (fun _ => rfl) (by decide)); exact c42 (c := c) (d := two n q1 q2) (hR.pass hw) (rd_two (n := n) h1 h2) hRt.l (by omega)))) (fun _ h => h) (by kernel_rfl) rfl ?_
    rintro ⟨Q4, q4⟩ hq4
    refine zN ?_
    refine K.d_loud 11 rfl (K.call_f cal_19 (fun F w hF hw => (by have hX := K.Rd.own (e := eR) (xs := (wthS r (two n (fillL r) (carveL r)))) hw (hF _ (K.m0)) hq4 (fun _ => rfl) (by decide); have hg := c19 (c := q4) (z := (a : Int)) hX (by omega); rw [hpo.1, hpo.2] at hg; exact hg))) (fun _ h => K.tl h) (by kernel_rfl) rfl ?_
    rintro ⟨Q5, q5⟩ hq5
    refine zN ?_
    refine K.d_pure 12 rfl (K.move) (by kernel_rfl) rfl ?_
    refine zn ?_
    refine K.d_pure 13 rfl (K.extract rfl rfl) (by kernel_rfl) rfl ?_
    refine zn ?_
    refine K.d_pure 14 rfl (K.extract rfl rfl) (by kernel_rfl) rfl ?_
    refine zn ?_
    refine K.d_pure 15 rfl (K.assign) (by kernel_rfl) rfl ?_
    refine zn ?_
    refine K.d_pure 16 rfl (K.assign) (by kernel_rfl) rfl ?_
    refine zn ?_
    refine K.d_done (by kernel_rfl) ?_
    refine K.norm_then ?_
    refine sr ?_
    refine qm ?_
    refine qp (K.Pure.eq (K.neq rfl rfl) (show _ = Value.bool false from congrArg Value.bool (rfl))) ?_
    iterate 2 refine qm ?_
    refine qp (K.len_sl sl_26 rfl) ?_
    refine qp (K.Pure.eq (K.eql rfl rfl) (show _ = Value.bool false from congrArg Value.bool (decide_eq_false (by omega)))) ?_
    refine qp (K.pick_f rfl) ?_
    iterate 3 refine qm ?_
    refine qp (K.len_sl sl_26 rfl) ?_
    refine qp (K.sub_i64 rfl rfl (by omega)) ?_
    refine K.seq_ix (M := [K.row (.slice Q5 (stepL r a (dep r a + 1)).length q5) 3 1 (stepL r a (dep r a + 1)).length ((stepL r a (dep r a + 1)).flatMap K.eI)]) (dep r a) (K.Sl.own (w0 := w) (t := 3) (c := q5) (e := K.eI) hq5 (fun _ => rfl)) sl_26 rfl rfl (by omega) (by omega) rfl ?_
    intro p221 hp221
    refine zN ?_
    refine K.seq_sil (K.load1 one_3 rfl (hp221.at1 (K.m0))) rfl ?_
    refine zN ?_
    refine qp (K.Pure.eq (K.lss rfl rfl) (show _ = Value.bool false from congrArg Value.bool (decide_eq_false (by omega)))) ?_
    refine qp (K.pick_f rfl) ?_
    iterate 3 refine qm ?_
    refine qp (K.len_sl sl_26 rfl) ?_
    refine qp (K.sub_i64 rfl rfl (by omega)) ?_
    refine K.seq_ix (M := [K.row (.slice Q5 (stepL r a (dep r a + 1)).length q5) 3 1 (stepL r a (dep r a + 1)).length ((stepL r a (dep r a + 1)).flatMap K.eI)]) (dep r a) (K.Sl.own (w0 := w) (t := 3) (c := q5) (e := K.eI) hq5 (fun _ => rfl)) sl_26 rfl rfl (by omega) (by omega) rfl ?_
    intro p230 hp230
    refine zN ?_
    refine K.seq_sil (K.load1 one_3 rfl (hp230.at1 (K.m0))) rfl ?_
    refine zN ?_
    refine qm ?_
    refine qp (K.len_sl sl_22 rfl) ?_
    refine qp (K.Pure.eq (K.geq rfl rfl) (show _ = Value.bool false from congrArg Value.bool (decide_eq_false (by omega)))) ?_
    refine qp (K.pick_f rfl) ?_
    iterate 4 refine qm ?_
    refine qp (K.len_sl sl_26 rfl) ?_
    refine qp (K.sub_i64 rfl rfl (by omega)) ?_
    refine K.seq_ix (M := [K.row (.slice Q5 (stepL r a (dep r a + 1)).length q5) 3 1 (stepL r a (dep r a + 1)).length ((stepL r a (dep r a + 1)).flatMap K.eI)]) (dep r a) (K.Sl.own (w0 := w) (t := 3) (c := q5) (e := K.eI) hq5 (fun _ => rfl)) sl_26 rfl rfl (by omega) (by omega) rfl ?_
    intro p242 hp242
    refine zN ?_
    refine K.seq_sil (K.load1 one_3 rfl (hp242.at1 (K.m0))) rfl ?_
    refine zN ?_
    refine K.seq_ix (M := []) (stps r (dep r a) a) hR.sl sl_22 rfl rfl (by omega) (by omega) rfl ?_
    intro p244 hp244
    refine zN ?_
    refine qp (K.fieldAddr fo_44_1 rfl) ?_
    refine K.seq_sil (K.load1 one_3 rfl ((K.PtrL.fld hp244 (k := 1)).any)) rfl ?_
    refine zN ?_
    refine qp (K.Pure.eq (K.neq rfl rfl) (show _ = Value.bool false from congrArg Value.bool (decide_eq_false (by omega)))) ?_
    refine qp (K.pick_f rfl) ?_
    refine sn ?_
    refine K.cond_false rfl ?_
    refine K.skip ?_
    refine K.norm_block ?_
    refine K.norm_then ?_
    refine K.region_lit ?_
    refine qm ?_
    refine qp (K.add_i64 rfl rfl (by omega)) ?_
    refine qa ?_
    refine K.seq_nil ?_
    exact K.round_endW (L'' := [K.blk b102 26 [.slice Q1 (fillL r).length q1, .slice Q2 (carveL r).length q2], K.row (.slice Q3 (anyS r (turnS ys)).length q3) 3 1 (anyS r (turnS ys)).length ((anyS r (turnS ys)).flatMap K.eI), K.row (.slice Q2 (carveL r).length q2) 3 1 (carveL r).length ((carveL r).flatMap K.eI), K.row (.slice Q1 (fillL r).length q1) 3 1 (fillL r).length ((fillL r).flatMap K.eI)]) [.int .i64 ((n : Int) + 1)] ⟨n + 1, rfl, rfl, by omega⟩ (by simp [K.nth, intOf]; omega) (List.Sublist.cons _ (List.Sublist.cons _ (List.Sublist.refl _))) (by kernel_rfl)
  try replace ht104 := of_decide_eq_false ht104
  refine K.exit ?_
  refine K.exit_then ?_
  refine K.exit_then ?_
  refine K.exit_here ?_
  refine K.norm_then ?_
  refine sr ?_
  refine K.seq_call (K.call_g cal_25 (fun F w hF hw => c25 (hT.pass hw))) rfl ?_
  refine zN ?_
  refine qa ?_
  refine sn ?_
  refine K.ret ?_
  refine K.end_ret (fun w _ => K.res_tmp rfl w) ?_
  exact K.gives rfl

theorem c8 {r : List RvT} {A : Option Addr} {c : Nat} {Y : Option Addr} {cy : Nat} {ys : List Int} {z : Int} {w : World} (hR : K.Rd w A 4 eR r) (hn : r.length ≤ 17592186043904) (hT : Tab w) (hY : K.Rd w Y 1 eH ys) (hyb : ∀ x ∈ ys, 0 ≤ x ∧ x ≤ 65535) (hyl : ys.length ≤ 140737488351232) (hz : 0 ≤ z ∧ z ≤ 255) : Calls Tryd.prog 8 [.slice A r.length c, .slice Y ys.length cy, .int .u8 z].toArray w (K.Gives (.bool true) w) := by
  by_cases hc : (chk r).2.2 = 0
  · have g := (chk_good hc).n
    have h0 := Int.emod_nonneg z (show (r.length : Int) ≠ 0 by omega)
    have h1 := Int.emod_lt_of_pos z (show (0 : Int) < r.length by omega)
    exact g8 (a := (z % (r.length : Int)).toNat) hR hn hT hY hyb hyl hz hc (by omega) (by omega)
  · exact e8 hR hn hT hY hyb hyl hz hc


end Go.Proofs.YtoemnobfnnjopaaDoor
