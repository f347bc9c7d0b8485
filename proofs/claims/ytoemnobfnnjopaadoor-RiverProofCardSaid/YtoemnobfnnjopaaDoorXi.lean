/-
  Walks of the program's functions, printed by program: what each returns.
  Conditions stand in each theorem.
-/
import Derived.WalkArith
import Derived.Laws.Closers25b
import Derived.Test.YtoemnobfnnjopaaDoorSP
import Derived.Test.YtoemnobfnnjopaaDoorWs
import Derived.Test.YtoemnobfnnjopaaDoorWt
import Derived.Test.YtoemnobfnnjopaaDoorXa
set_option linter.unusedSimpArgs false
set_option linter.unusedVariables false
namespace Go.Proofs.YtoemnobfnnjopaaDoor
open Go.RowKit Go
open Go.K (setd setn ev nth over cl eI eP eT setM setF)
attribute [local irreducible] K.blk K.row
theorem nm_le {r : List RvT} {l : List Int} (P : Pl r l) : ∀ i, i ≤ l.length → nmF l i ≤ (i : Int)
  | 0, _ => Int.le_refl _
  | i + 1, hi => by
    have := nm_le P i (by omega)
    have := P.b i (by omega)
    rw [nmF]; omega
theorem pl_bd {r : List RvT} {l : List Int} (P : Pl r l) (hl : l.length ≤ 9) : ∀ i, i < l.length → -1 ≤ l.getD i default ∧ l.getD i default ≤ 1000 := fun i hi => by
  have := nm_le P i (by omega)
  have := P.b i hi
  rcases P.a i hi with h | h <;> omega
theorem nm_bd {l : List Int} (h : ∀ i, i < l.length → -1 ≤ l.getD i default ∧ l.getD i default ≤ 1000) : ∀ i, i ≤ l.length → 0 ≤ nmF l i ∧ nmF l i ≤ 1001
  | 0, _ => by rw [nmF]; omega
  | i + 1, hi => by
    have := nm_bd h i (by omega)
    have := h i (by omega)
    rw [nmF]; omega

set_option maxRecDepth 100000 in
theorem c41 {Q : Option Addr} {q : Nat} {l : List Int} {w : World} (hL : K.Rd w Q 1 K.eI l) (hl : l.length ≤ 1000000) (hb : ∀ i, i < l.length → -1 ≤ l.getD i default ∧ l.getD i default ≤ 1000) :
    Calls Tryd.prog 41 [.slice Q l.length q].toArray w (K.Gives (.int .i64 (nmV l)) w) := by
  refine K.enter (args := [.slice Q l.length q]) Tryd.func41 rfl (n := 18) rfl ?_
  simp only [List.replicate, List.cons_append, List.nil_append]
  refine sr ?_
  refine qa ?_
  refine sn ?_
  refine sr ?_
  refine qa ?_
  refine sn ?_
  refine K.seq ?_
  refine sr ?_
  refine qa ?_
  refine sn ?_
  refine K.block ?_
  refine K.loopW [3, 4] [5, 6, 7, 8, 9, 10, 11, 12, 13, 14, 15, 16, 17] (fun vi L => ∃ i : Nat, vi = [.int .i64 (nmF l i), .int .i64 (i : Int)] ∧ L = [] ∧ i ≤ l.length) (fun vi => l.length - (intOf (K.nth vi 1)).toNat) ?_ ?_
  · exact ⟨0, rfl, rfl, Nat.zero_le _⟩
  intro vi vr L hJ
  obtain ⟨i, rfl, rfl, hin⟩ := hJ
  try dsimp only [setd, setn, ev, nth, over, cl, eI, eP, eT, eR, setM, setF, List.map, List.append, List.drop, List.take]
  refine K.seq ?_
  refine sr ?_
  iterate 2 refine qm ?_
  refine qp (K.len_sl sl_26 rfl) ?_
  refine qp (K.lss rfl rfl) ?_
  refine sn ?_
  refine K.cond rfl (fun ht8 => ?_) (fun ht8 => ?_)
  · try replace ht8 := of_decide_eq_true ht8
    have hi : i < l.length := by omega
    have hbi := hb i hi
    have hnb := nm_bd hb i hin
    refine K.skip ?_
    refine K.norm_then ?_
    refine K.seq ?_
    refine K.block ?_
    refine K.region_lit ?_
    iterate 3 refine qm ?_
    refine K.seq_ix (M := []) _ hL.sl sl_26 rfl rfl rfl (by omega) rfl ?_
    intro p14 hp14
    refine zN ?_
    refine K.seq_sil (K.load1 one_3 rfl (hp14.any)) rfl ?_
    refine zN ?_
    refine qp (K.add_i64 rfl rfl (by omega)) ?_
    refine qp (K.max_int rfl rfl) ?_
    refine qa ?_
    refine K.seq_nil ?_
    refine K.norm_block ?_
    refine K.norm_then ?_
    refine K.region_lit ?_
    refine qm ?_
    refine qp (K.add_i64 rfl rfl (by omega)) ?_
    refine qa ?_
    refine K.seq_nil ?_
    exact K.round_endW (L'' := []) [.int .i64 (nmF l (i + 1)), .int .i64 ((i : Int) + 1)] ⟨i + 1, rfl, rfl, by omega⟩ (by simp [K.nth, intOf]; omega) (List.nil_sublist _) (by kernel_rfl)
  try replace ht8 := of_decide_eq_false ht8
  refine K.exit ?_
  refine K.exit_then ?_
  refine K.exit_then ?_
  refine K.exit_here ?_
  refine K.norm_then ?_
  refine sr ?_
  refine qm ?_
  refine qa ?_
  refine sn ?_
  refine K.ret ?_
  refine K.end_ret (fun w _ => K.res_tmp rfl w) ?_
  have e0 : i = l.length := by omega
  subst e0
  exact K.gives rfl

set_option maxRecDepth 100000 in
theorem e7 {r : List RvT} {A : Option Addr} {c : Nat} {Y : Option Addr} {cy : Nat} {ys : List Int} {w : World} (hR : K.Rd w A 4 eR r) (hn : r.length ≤ 17592186043904) (hT : Tab w) (hY : K.Rd w Y 1 eH ys) (hyb : ∀ x ∈ ys, 0 ≤ x ∧ x ≤ 65535) (hyl : ys.length ≤ 140737488351232) (hc : (chk r).2.2 ≠ 0) :
    Calls Tryd.prog 7 [.slice A r.length c, .slice Y ys.length cy].toArray w (K.Gives (.bool true) w) := by
  have hn4 : r.length ≤ 4611686018427387904 := by omega
  have h1 : (prfL r).length = 0 := by unfold prfL; rw [if_pos hc]; rfl
  refine K.enter (args := [.slice A r.length c, .slice Y ys.length cy]) Tryd.func7 rfl (n := 154) rfl ?_
  simp only [List.replicate, List.cons_append, List.nil_append]
  refine sr ?_
  refine qa ?_
  refine sn ?_
  refine sr ?_
  refine qm ?_
  refine K.seq_loud (K.call_f cal_30 (fun F w hF hw => c30 (hR.pass hw) hn4 (hT.pass hw))) rfl ?_
  rintro ⟨Q1, q1⟩ hq1
  refine zN ?_
  refine qm ?_
  refine qx ?_
  refine qx ?_
  iterate 2 refine qa ?_
  refine sn ?_
  refine sr ?_
  refine qm ?_
  refine K.seq_loud (K.call_f cal_26 (fun F w hF hw => c26 (hR.pass hw) hn4 (hT.pass hw))) rfl ?_
  rintro ⟨Q2, q2⟩ hq2
  refine zN ?_
  refine qm ?_
  refine qx ?_
  refine qx ?_
  iterate 2 refine qa ?_
  refine sn ?_
  refine K.seq ?_
  refine sr ?_
  refine qm ?_
  refine K.seq_call (K.call_g cal_35 (fun F w hF hw => c35 (hR.pass hw) hn4)) rfl ?_
  refine zN ?_
  first | refine K.seq_pure (K.Pure.eq (K.not_d rfl) (show _ = Value.bool true from by rw [decide_eq_false hc]; rfl)) rfl ?_ | refine K.seq_pure (K.Pure.eq (K.not_ rfl) (show _ = Value.bool true from by rw [decide_eq_false hc]; rfl)) rfl ?_
  refine zN ?_
  refine sn ?_
  refine K.cond_true rfl ?_
  refine sr ?_
  refine qm ?_
  refine qp (K.Pure.eq (K.neq rfl rfl) (show _ = Value.bool true from congrArg Value.bool (decide_eq_true hc))) ?_
  iterate 3 refine qm ?_
  refine qp (K.Pure.eq (K.eql rfl rfl) (show _ = Value.bool true from congrArg Value.bool (decide_eq_true rfl))) ?_
  refine qp (K.pick_t rfl) ?_
  iterate 2 refine qm ?_
  refine qp (K.len_sl sl_26 rfl) ?_
  refine qp (K.Pure.eq (K.eql rfl rfl) (show _ = Value.bool true from congrArg Value.bool (decide_eq_true (by omega)))) ?_
  refine qp (K.pick_t rfl) ?_
  refine qm ?_
  refine K.seq_call (K.call_g cal_25 (fun F w hF hw => c25 (hT.pass hw))) rfl ?_
  refine zN ?_
  refine qp (K.pick_t rfl) ?_
  refine qa ?_
  refine sn ?_
  refine K.ret ?_
  refine K.ret_then ?_
  refine K.end_ret (fun w _ => K.res_tmp rfl w) ?_
  exact K.gives rfl

set_option maxRecDepth 100000 in
set_option maxHeartbeats 4000000 in
theorem g7 {r : List RvT} {A : Option Addr} {c : Nat} {Y : Option Addr} {cy : Nat} {ys : List Int} {w : World} (hR : K.Rd w A 4 eR r) (hn : r.length ≤ 17592186043904) (hT : Tab w) (hY : K.Rd w Y 1 eH ys) (hyb : ∀ x ∈ ys, 0 ≤ x ∧ x ≤ 65535) (hyl : ys.length ≤ 140737488351232) (hc : (chk r).2.2 = 0) :
    Calls Tryd.prog 7 [.slice A r.length c, .slice Y ys.length cy].toArray w (K.Gives (.bool true) w) := by
  have hn4 : r.length ≤ 4611686018427387904 := by omega
  have g : Good r := chk_good hc
  have hgn := g.n
  have hRn : Runs r (anyS r (turnS ys)) := any_runs g (fun i => (turn_bd hyb).1)
  have hal := hRn.l
  obtain ⟨hpn, hpl, hpv⟩ := prf_is hc
  have hpb := pl_bd hpl (by omega)
  have l1 := few_9 (r := r)
  refine K.enter (args := [.slice A r.length c, .slice Y ys.length cy]) Tryd.func7 rfl (n := 154) rfl ?_
  simp only [List.replicate, List.cons_append, List.nil_append]
  refine sr ?_
  refine qa ?_
  refine sn ?_
  refine sr ?_
  refine qm ?_
  refine K.seq_loud (K.call_f cal_30 (fun F w hF hw => (by have hg := c30 (c := c) (hR.pass hw) hn4 (hT.pass hw); rw [hc] at hg; exact hg))) rfl ?_
  rintro ⟨Q1, q1⟩ hq1
  refine zN ?_
  refine qm ?_
  refine qx ?_
  refine qx ?_
  iterate 2 refine qa ?_
  refine sn ?_
  refine sr ?_
  refine qm ?_
  refine K.seq_loud (K.call_f cal_26 (fun F w hF hw => (by have hg := c26 (c := c) (hR.pass hw) hn4 (hT.pass hw); rw [hc] at hg; exact hg))) rfl ?_
  rintro ⟨Q2, q2⟩ hq2
  refine zN ?_
  refine qm ?_
  refine qx ?_
  refine qx ?_
  iterate 2 refine qa ?_
  refine sn ?_
  refine K.seq ?_
  refine sr ?_
  refine qm ?_
  refine K.seq_call (K.call_g cal_35 (fun F w hF hw => c35 (hR.pass hw) hn4)) rfl ?_
  refine zN ?_
  first | refine K.seq_pure (K.Pure.eq (K.not_d rfl) (show _ = Value.bool false from by rw [decide_eq_true hc]; rfl)) rfl ?_ | refine K.seq_pure (K.Pure.eq (K.not_ rfl) (show _ = Value.bool false from by rw [decide_eq_true hc]; rfl)) rfl ?_
  refine zN ?_
  refine sn ?_
  refine K.cond_false rfl ?_
  refine K.skip ?_
  refine K.norm_then ?_
  refine K.seq ?_
  refine sr ?_
  refine qm ?_
  refine qp (K.Pure.eq (K.neq rfl rfl) (show _ = Value.bool false from congrArg Value.bool (rfl))) ?_
  iterate 2 refine qm ?_
  refine qp (K.Pure.eq (K.neq rfl rfl) (show _ = Value.bool false from congrArg Value.bool (rfl))) ?_
  refine qp (K.pick_f rfl) ?_
  iterate 2 refine qm ?_
  refine qp (K.len_sl sl_26 rfl) ?_
  refine qm ?_
  refine qp (K.len_sl sl_22 rfl) ?_
  refine qp (K.Pure.eq (K.neq rfl rfl) (show _ = Value.bool false from congrArg Value.bool (decide_eq_false (by omega)))) ?_
  refine qp (K.pick_f rfl) ?_
  iterate 2 refine qm ?_
  refine K.seq_call (K.call_g cal_41 (fun F w hF hw => (by have hX := (K.Rd.own (e := K.eI) (xs := (prfL r)) hw (hF _ (K.m1)) hq1 (fun _ => rfl) (by decide)); exact c41 (q := q1) hX (by omega) hpb))) rfl ?_
  refine zN ?_
  refine qm ?_
  refine qp (K.len_sl sl_22 rfl) ?_
  refine qm ?_
  refine qp (K.len_sl sl_26 rfl) ?_
  refine qp (K.sub_i64 rfl rfl (by omega)) ?_
  refine qp (K.Pure.eq (K.neq rfl rfl) (show _ = Value.bool false from congrArg Value.bool (decide_eq_false (by omega)))) ?_
  refine qp (K.pick_f rfl) ?_
  refine sn ?_
  refine K.cond_false rfl ?_
  refine K.skip ?_
  refine K.norm_then ?_
  refine sr ?_
  iterate 2 refine qm ?_
  refine K.seq_loud (K.call_f cal_40 (fun F w hF hw => c40 (hR.pass hw) (hY.pass hw) hyb hyl g)) rfl ?_
  rintro ⟨Q3, q3⟩ hq3
  refine zN ?_
  refine qa ?_
  refine sn ?_
  refine sr ?_
  refine qa ?_
  refine sn ?_
  refine K.seq ?_
  refine sr ?_
  refine qa ?_
  refine sn ?_
  refine K.block ?_
  refine K.loopW [10, 11] [4, 12, 67, 68, 69, 70, 71, 72, 73, 74, 75, 76, 77, 78, 79, 80, 81, 82, 83, 84, 85, 86, 87, 88, 89, 90, 91, 92, 93, 94, 95, 96, 97, 98, 99, 100, 101, 102, 103, 104, 105, 106, 107, 108, 109, 110, 111, 112, 113, 114, 115, 116, 117, 118, 119, 120, 121, 122, 123, 124, 125, 126, 127, 128, 129, 130, 131, 132, 133, 134, 135, 136, 137, 138, 139, 140, 141, 142, 143, 144, 145, 146, 147, 148, 149, 150, 151, 152, 153, 154] (fun vi L => ∃ i : Nat, vi = [.int .i64 (nmF (prfL r) i - 1), .int .i64 (i : Int)] ∧ L = [K.row (.slice Q3 (anyS r (turnS ys)).length q3) 3 1 (anyS r (turnS ys)).length ((anyS r (turnS ys)).flatMap K.eI), K.row (.slice Q2 (fewL r).length q2) 3 1 (fewL r).length ((fewL r).flatMap K.eI), K.row (.slice Q1 (prfL r).length q1) 3 1 (prfL r).length ((prfL r).flatMap K.eI)] ∧ i ≤ r.length) (fun vi => r.length - (intOf (K.nth vi 1)).toNat) ?_ ?_
  · exact ⟨0, rfl, rfl, Nat.zero_le _⟩
  intro vi vr L hJ
  obtain ⟨i, rfl, rfl, hin⟩ := hJ
  try dsimp only [setd, setn, ev, nth, over, cl, eI, eP, eT, eR, setM, setF, List.map, List.append, List.drop, List.take]
  refine K.seq ?_
  refine sr ?_
  iterate 2 refine qm ?_
  refine qp (K.len_sl sl_26 rfl) ?_
  refine qp (K.lss rfl rfl) ?_
  refine sn ?_
  refine K.cond rfl (fun ht70 => ?_) (fun ht70 => ?_)
  · try replace ht70 := of_decide_eq_true ht70
    have hi : i < r.length := by omega
    have hbi := hpb i (by omega)
    have hnb := nm_bd hpb i (by omega)
    have hpi := hpl.b i (by omega)
    refine K.skip ?_
    refine K.norm_then ?_
    refine K.seq ?_
    refine K.block ?_
    refine K.seq ?_
    refine sr ?_
    iterate 2 refine qm ?_
    refine K.seq_ix (M := [K.row (.slice Q1 (prfL r).length q1) 3 1 (prfL r).length ((prfL r).flatMap K.eI)]) _ (K.Sl.own (w0 := w) (t := 3) (c := q1) (e := K.eI) hq1 (fun _ => rfl)) sl_26 rfl rfl rfl (by omega) rfl ?_
    intro p75 hp75
    refine zN ?_
    refine K.seq_sil (K.load1 one_3 rfl (hp75.at1 (K.m2))) rfl ?_
    refine zN ?_
    refine qp (K.Pure.eq (K.lss rfl rfl) (show _ = Value.bool false from congrArg Value.bool (decide_eq_false (by omega)))) ?_
    iterate 3 refine qm ?_
    refine K.seq_ix (M := [K.row (.slice Q1 (prfL r).length q1) 3 1 (prfL r).length ((prfL r).flatMap K.eI)]) _ (K.Sl.own (w0 := w) (t := 3) (c := q1) (e := K.eI) hq1 (fun _ => rfl)) sl_26 rfl rfl rfl (by omega) rfl ?_
    intro p81 hp81
    refine zN ?_
    refine K.seq_sil (K.load1 one_3 rfl (hp81.at1 (K.m2))) rfl ?_
    refine zN ?_
    refine qm ?_
    refine qp (K.add_i64 rfl rfl (by omega)) ?_
    refine qp (K.Pure.eq (K.gtr rfl rfl) (show _ = Value.bool false from congrArg Value.bool (decide_eq_false (by omega)))) ?_
    refine qp (K.pick_f rfl) ?_
    refine sn ?_
    refine K.cond_false rfl ?_
    refine K.skip ?_
    refine K.norm_then ?_
    refine sr ?_
    iterate 3 refine qm ?_
    refine K.seq_ix (M := [K.row (.slice Q1 (prfL r).length q1) 3 1 (prfL r).length ((prfL r).flatMap K.eI)]) _ (K.Sl.own (w0 := w) (t := 3) (c := q1) (e := K.eI) hq1 (fun _ => rfl)) sl_26 rfl rfl rfl (by omega) rfl ?_
    intro p90 hp90
    refine zN ?_
    refine K.seq_sil (K.load1 one_3 rfl (hp90.at1 (K.m2))) rfl ?_
    refine zN ?_
    refine qp (K.Pure.eq (K.max_int rfl rfl) (show _ = Value.int .i64 (nmF (prfL r) (i + 1) - 1) from congrArg (Value.int .i64) (by rw [nmF]; omega))) ?_
    refine qa ?_
    refine sn ?_
    refine K.seq ?_
    refine K.seq ?_
    refine K.joinW [109] [93, 94, 95, 96, 97, 98, 99, 100, 101, 102, 103, 104, 105, 106, 107, 108] (fun vi L => vi = [.bool false] ∧ L = [K.row (.slice Q3 (anyS r (turnS ys)).length q3) 3 1 (anyS r (turnS ys)).length ((anyS r (turnS ys)).flatMap K.eI), K.row (.slice Q2 (fewL r).length q2) 3 1 (fewL r).length ((fewL r).flatMap K.eI), K.row (.slice Q1 (prfL r).length q1) 3 1 (prfL r).length ((prfL r).flatMap K.eI)]) ?_ ?_
    · refine K.draw_L [] Tryd_mixed ?_
      refine K.d_pure 0 rfl (K.move) (by kernel_rfl) rfl ?_
      refine zn ?_
      refine K.d_pure 1 rfl (K.move) (by kernel_rfl) rfl ?_
      refine zn ?_
      refine K.d_ix (M := [K.row (.slice Q1 (prfL r).length q1) 3 1 (prfL r).length ((prfL r).flatMap K.eI)]) 2 _ rfl (K.Sl.own (w0 := w) (t := 3) (c := q1) (e := K.eI) hq1 (fun _ => rfl)) sl_26 rfl rfl rfl (by omega) (by kernel_rfl) rfl ?_
      intro p95 hp95
      refine zN ?_
      refine K.d_mem 3 rfl (K.load1 one_3 rfl (hp95.at1 (K.m2))) (fun _ h => h) (by kernel_rfl) (by kernel_rfl) rfl ?_
      refine zN ?_
      refine K.d_pure 4 rfl (K.lss rfl rfl) (by kernel_rfl) rfl ?_
      refine zn ?_
      refine K.d_pure 5 rfl (K.move) (by kernel_rfl) rfl ?_
      refine zn ?_
      refine K.dsplit 98 rfl (fun hg98 => ?_) (fun hg98 => ?_)
      · try replace hg98 := of_decide_eq_true hg98
        refine K.d_pure 6 rfl (K.move) (by kernel_rfl) rfl ?_
        refine zn ?_
        refine K.d_pure 7 rfl (K.move) (by kernel_rfl) rfl ?_
        refine zn ?_
        refine K.d_ix (M := [K.row (.slice Q3 (anyS r (turnS ys)).length q3) 3 1 (anyS r (turnS ys)).length ((anyS r (turnS ys)).flatMap K.eI)]) 8 _ rfl (K.Sl.own (w0 := w) (t := 3) (c := q3) (e := K.eI) hq3 (fun _ => rfl)) sl_26 rfl rfl rfl (by omega) (by kernel_rfl) rfl ?_
        intro p101 hp101
        refine zN ?_
        refine K.d_mem 9 rfl (K.load1 one_3 rfl (hp101.at1 (K.m0))) (fun _ h => h) (by kernel_rfl) (by kernel_rfl) rfl ?_
        refine zN ?_
        refine K.d_pure 10 rfl (K.move) (by kernel_rfl) rfl ?_
        refine zn ?_
        refine K.d_pure 11 rfl (K.move) (by kernel_rfl) rfl ?_
        refine zn ?_
        refine K.d_ix (M := []) 12 _ rfl hR.sl sl_22 rfl rfl rfl (by omega) (by kernel_rfl) rfl ?_
        intro p105 hp105
        refine zN ?_
        refine K.d_pure 13 rfl (K.fieldAddr fo_44_3 rfl) (by kernel_rfl) rfl ?_
        refine zn ?_
        refine K.d_mem 14 rfl (K.load1 one_3 rfl ((K.PtrL.fld hp105 (k := 3)).any)) (fun _ h => h) (by kernel_rfl) (by kernel_rfl) rfl ?_
        refine zN ?_
        refine K.d_pure 15 rfl (K.Pure.eq (K.eql rfl rfl) (show _ = Value.bool false from congrArg Value.bool (decide_eq_false (fun e => by have h2 := hpl.a i (by omega); rw [keep_out g hRn hi e] at h2; rcases h2 with h2 | h2; cases h2.2; omega)))) (by kernel_rfl) rfl ?_
        refine zn ?_
        refine K.d_pure 16 rfl (K.pick_t rfl) (by kernel_rfl) rfl ?_
        refine zn ?_
        refine K.d_done (by kernel_rfl) ?_
        exact K.join_here (L' := [K.row (.slice Q3 (anyS r (turnS ys)).length q3) 3 1 (anyS r (turnS ys)).length ((anyS r (turnS ys)).flatMap K.eI), K.row (.slice Q2 (fewL r).length q2) 3 1 (fewL r).length ((fewL r).flatMap K.eI), K.row (.slice Q1 (prfL r).length q1) 3 1 (prfL r).length ((prfL r).flatMap K.eI)]) [.bool false] ⟨rfl, rfl⟩ (fun w h => h) (by kernel_rfl)
      try replace hg98 := of_decide_eq_false hg98
      refine K.d_skip 6 rfl (by kernel_rfl) rfl ?_
      refine zN ?_
      refine K.d_skip 7 rfl (by kernel_rfl) rfl ?_
      refine zN ?_
      refine K.d_skip 8 rfl (by kernel_rfl) rfl ?_
      refine zN ?_
      refine K.d_skip 9 rfl (by kernel_rfl) rfl ?_
      refine zN ?_
      refine K.d_skip 10 rfl (by kernel_rfl) rfl ?_
      refine zN ?_
      refine K.d_skip 11 rfl (by kernel_rfl) rfl ?_
      refine zN ?_
      refine K.d_skip 12 rfl (by kernel_rfl) rfl ?_
      refine zN ?_
      refine K.d_skip 13 rfl (by kernel_rfl) rfl ?_
      refine zN ?_
      refine K.d_skip 14 rfl (by kernel_rfl) rfl ?_
      refine zN ?_
      refine K.d_skip 15 rfl (by kernel_rfl) rfl ?_
      refine zN ?_
      refine K.d_pure 16 rfl (K.pick_f rfl) (by kernel_rfl) rfl ?_
      refine zn ?_
      refine K.d_done (by kernel_rfl) ?_
      exact K.join_here (L' := [K.row (.slice Q3 (anyS r (turnS ys)).length q3) 3 1 (anyS r (turnS ys)).length ((anyS r (turnS ys)).flatMap K.eI), K.row (.slice Q2 (fewL r).length q2) 3 1 (fewL r).length ((fewL r).flatMap K.eI), K.row (.slice Q1 (prfL r).length q1) 3 1 (prfL r).length ((prfL r).flatMap K.eI)]) [.bool false] ⟨rfl, rfl⟩ (fun w h => h) (by kernel_rfl)
    intro vi vr L hJ
    obtain ⟨rfl, rfl⟩ := hJ
    try dsimp only [setd, setn, ev, nth, over, cl, eI, eP, eT, eR, setM, setF, List.map, List.append, List.drop, List.take]
    refine K.norm_then ?_
    refine K.cond_false rfl ?_
    refine K.skip ?_
    refine K.norm_then ?_
    refine sr ?_
    refine qa ?_
    refine sn ?_
    refine K.block ?_
    refine K.loopW [12] [4, 110, 111, 112, 113, 114, 115, 116, 117, 118, 119, 120, 121, 122, 123, 124, 125, 126, 127, 128, 129, 130, 131, 132, 133, 134, 135, 136, 137, 138, 139, 140, 141, 142, 143, 144, 145, 146, 147, 148, 149, 150, 151, 152, 153, 154] (fun vi L => ∃ k : Nat, vi = [.int .i64 (k : Int)] ∧ L = [K.row (.slice Q3 (anyS r (turnS ys)).length q3) 3 1 (anyS r (turnS ys)).length ((anyS r (turnS ys)).flatMap K.eI), K.row (.slice Q2 (fewL r).length q2) 3 1 (fewL r).length ((fewL r).flatMap K.eI), K.row (.slice Q1 (prfL r).length q1) 3 1 (prfL r).length ((prfL r).flatMap K.eI)] ∧ k ≤ i) (fun vi => i - (intOf (K.nth vi 0)).toNat) ?_ ?_
    · exact ⟨0, rfl, rfl, Nat.zero_le _⟩
    intro vi vr L hJ
    obtain ⟨k, rfl, rfl, hkn⟩ := hJ
    try dsimp only [setd, setn, ev, nth, over, cl, eI, eP, eT, eR, setM, setF, List.map, List.append, List.drop, List.take]
    refine K.seq ?_
    refine sr ?_
    iterate 2 refine qm ?_
    refine qp (K.lss rfl rfl) ?_
    refine sn ?_
    refine K.cond rfl (fun ht112 => ?_) (fun ht112 => ?_)
    · try replace ht112 := of_decide_eq_true ht112
      have hk : k < i := by omega
      refine K.skip ?_
      refine K.norm_then ?_
      refine K.seq ?_
      refine K.block ?_
      refine K.seq ?_
      refine K.joinW [154] [115, 116, 117, 118, 119, 120, 121, 122, 123, 124, 125, 126, 127, 128, 129, 130, 131, 132, 133, 134, 135, 136, 137, 138, 139, 140, 141, 142, 143, 144, 145, 146, 147, 148, 149, 150, 151, 152, 153] (fun vi L => vi = [.bool false] ∧ L = [K.row (.slice Q3 (anyS r (turnS ys)).length q3) 3 1 (anyS r (turnS ys)).length ((anyS r (turnS ys)).flatMap K.eI), K.row (.slice Q2 (fewL r).length q2) 3 1 (fewL r).length ((fewL r).flatMap K.eI), K.row (.slice Q1 (prfL r).length q1) 3 1 (prfL r).length ((prfL r).flatMap K.eI)]) ?_ ?_
      · refine K.draw_L [] Tryd_mixed ?_
        refine K.d_pure 0 rfl (K.move) (by kernel_rfl) rfl ?_
        refine zn ?_
        refine K.d_pure 1 rfl (K.move) (by kernel_rfl) rfl ?_
        refine zn ?_
        refine K.d_ix (M := [K.row (.slice Q1 (prfL r).length q1) 3 1 (prfL r).length ((prfL r).flatMap K.eI)]) 2 _ rfl (K.Sl.own (w0 := w) (t := 3) (c := q1) (e := K.eI) hq1 (fun _ => rfl)) sl_26 rfl rfl rfl (by omega) (by kernel_rfl) rfl ?_
        intro p117 hp117
        refine zN ?_
        refine K.d_mem 3 rfl (K.load1 one_3 rfl (hp117.at1 (K.m2))) (fun _ h => h) (by kernel_rfl) (by kernel_rfl) rfl ?_
        refine zN ?_
        refine K.d_pure 4 rfl (K.geq rfl rfl) (by kernel_rfl) rfl ?_
        refine zn ?_
        refine K.d_pure 5 rfl (K.move) (by kernel_rfl) rfl ?_
        refine zn ?_
        refine K.dsplit 120 rfl (fun hg120 => ?_) (fun hg120 => ?_)
        · try replace hg120 := of_decide_eq_true hg120
          refine K.d_pure 6 rfl (K.move) (by kernel_rfl) rfl ?_
          refine zn ?_
          refine K.d_pure 7 rfl (K.move) (by kernel_rfl) rfl ?_
          refine zn ?_
          refine K.d_ix (M := [K.row (.slice Q1 (prfL r).length q1) 3 1 (prfL r).length ((prfL r).flatMap K.eI)]) 8 _ rfl (K.Sl.own (w0 := w) (t := 3) (c := q1) (e := K.eI) hq1 (fun _ => rfl)) sl_26 rfl rfl rfl (by omega) (by kernel_rfl) rfl ?_
          intro p123 hp123
          refine zN ?_
          refine K.d_mem 9 rfl (K.load1 one_3 rfl (hp123.at1 (K.m2))) (fun _ h => h) (by kernel_rfl) (by kernel_rfl) rfl ?_
          refine zN ?_
          refine K.d_pure 10 rfl (K.move) (by kernel_rfl) rfl ?_
          refine zn ?_
          refine K.d_pure 11 rfl (K.move) (by kernel_rfl) rfl ?_
          refine zn ?_
          refine K.d_ix (M := [K.row (.slice Q1 (prfL r).length q1) 3 1 (prfL r).length ((prfL r).flatMap K.eI)]) 12 _ rfl (K.Sl.own (w0 := w) (t := 3) (c := q1) (e := K.eI) hq1 (fun _ => rfl)) sl_26 rfl rfl rfl (by omega) (by kernel_rfl) rfl ?_
          intro p127 hp127
          refine zN ?_
          refine K.d_mem 13 rfl (K.load1 one_3 rfl (hp127.at1 (K.m2))) (fun _ h => h) (by kernel_rfl) (by kernel_rfl) rfl ?_
          refine zN ?_
          refine K.d_pure 14 rfl (K.eql rfl rfl) (by kernel_rfl) rfl ?_
          refine zn ?_
          refine K.d_pure 15 rfl (K.pick_t rfl) (by kernel_rfl) rfl ?_
          refine zn ?_
          refine K.d_pure 16 rfl (K.move) (by kernel_rfl) rfl ?_
          refine zn ?_
          refine K.dsplit 131 rfl (fun hg131 => ?_) (fun hg131 => ?_)
          · try replace hg131 := of_decide_eq_true hg131
            refine K.d_pure 17 rfl (K.move) (by kernel_rfl) rfl ?_
            refine zn ?_
            refine K.d_pure 18 rfl (K.move) (by kernel_rfl) rfl ?_
            refine zn ?_
            refine K.d_ix (M := [K.row (.slice Q3 (anyS r (turnS ys)).length q3) 3 1 (anyS r (turnS ys)).length ((anyS r (turnS ys)).flatMap K.eI)]) 19 _ rfl (K.Sl.own (w0 := w) (t := 3) (c := q3) (e := K.eI) hq3 (fun _ => rfl)) sl_26 rfl rfl rfl (by omega) (by kernel_rfl) rfl ?_
            intro p134 hp134
            refine zN ?_
            refine K.d_mem 20 rfl (K.load1 one_3 rfl (hp134.at1 (K.m0))) (fun _ h => h) (by kernel_rfl) (by kernel_rfl) rfl ?_
            refine zN ?_
            refine K.d_pure 21 rfl (K.move) (by kernel_rfl) rfl ?_
            refine zn ?_
            refine K.d_pure 22 rfl (K.move) (by kernel_rfl) rfl ?_
            refine zn ?_
            refine K.d_ix (M := []) 23 _ rfl hR.sl sl_22 rfl rfl rfl (by omega) (by kernel_rfl) rfl ?_
            intro p138 hp138
            refine zN ?_
            refine K.d_pure 24 rfl (K.fieldAddr fo_44_3 rfl) (by kernel_rfl) rfl ?_
            refine zn ?_
            refine K.d_mem 25 rfl (K.load1 one_3 rfl ((K.PtrL.fld hp138 (k := 3)).any)) (fun _ h => h) (by kernel_rfl) (by kernel_rfl) rfl ?_
            refine zN ?_
            refine K.d_pure 26 rfl (K.eql rfl rfl) (by kernel_rfl) rfl ?_
            refine zn ?_
            refine K.d_pure 27 rfl (K.pick_t rfl) (by kernel_rfl) rfl ?_
            refine zn ?_
            refine K.d_pure 28 rfl (K.move) (by kernel_rfl) rfl ?_
            refine zn ?_
            refine K.dsplit 143 rfl (fun hg143 => ?_) (fun hg143 => ?_)
            · try replace hg143 := of_decide_eq_true hg143
              refine K.d_pure 29 rfl (K.move) (by kernel_rfl) rfl ?_
              refine zn ?_
              refine K.d_pure 30 rfl (K.move) (by kernel_rfl) rfl ?_
              refine zn ?_
              refine K.d_ix (M := [K.row (.slice Q3 (anyS r (turnS ys)).length q3) 3 1 (anyS r (turnS ys)).length ((anyS r (turnS ys)).flatMap K.eI)]) 31 _ rfl (K.Sl.own (w0 := w) (t := 3) (c := q3) (e := K.eI) hq3 (fun _ => rfl)) sl_26 rfl rfl rfl (by omega) (by kernel_rfl) rfl ?_
              intro p146 hp146
              refine zN ?_
              refine K.d_mem 32 rfl (K.load1 one_3 rfl (hp146.at1 (K.m0))) (fun _ h => h) (by kernel_rfl) (by kernel_rfl) rfl ?_
              refine zN ?_
              refine K.d_pure 33 rfl (K.move) (by kernel_rfl) rfl ?_
              refine zn ?_
              refine K.d_pure 34 rfl (K.move) (by kernel_rfl) rfl ?_
              refine zn ?_
              refine K.d_ix (M := []) 35 _ rfl hR.sl sl_22 rfl rfl rfl (by omega) (by kernel_rfl) rfl ?_
              intro p150 hp150
              refine zN ?_
              refine K.d_pure 36 rfl (K.fieldAddr fo_44_3 rfl) (by kernel_rfl) rfl ?_
              refine zn ?_
              refine K.d_mem 37 rfl (K.load1 one_3 rfl ((K.PtrL.fld hp150 (k := 3)).any)) (fun _ h => h) (by kernel_rfl) (by kernel_rfl) rfl ?_
              refine zN ?_
              refine K.d_pure 38 rfl (K.Pure.eq (K.eql rfl rfl) (show _ = Value.bool false from congrArg Value.bool (decide_eq_false (fun e2 => by have h1 := hpl.c i k (by omega) hk (by omega) hg131; rw [keep_con g hRn hi (by omega) hg143 e2] at h1; cases h1)))) (by kernel_rfl) rfl ?_
              refine zn ?_
              refine K.d_pure 39 rfl (K.pick_t rfl) (by kernel_rfl) rfl ?_
              refine zn ?_
              refine K.d_done (by kernel_rfl) ?_
              exact K.join_here (L' := [K.row (.slice Q3 (anyS r (turnS ys)).length q3) 3 1 (anyS r (turnS ys)).length ((anyS r (turnS ys)).flatMap K.eI), K.row (.slice Q2 (fewL r).length q2) 3 1 (fewL r).length ((fewL r).flatMap K.eI), K.row (.slice Q1 (prfL r).length q1) 3 1 (prfL r).length ((prfL r).flatMap K.eI)]) [.bool false] ⟨rfl, rfl⟩ (fun w h => h) (by kernel_rfl)
            try replace hg143 := of_decide_eq_false hg143
            refine K.d_skip 29 rfl (by kernel_rfl) rfl ?_
            refine zN ?_
            refine K.d_skip 30 rfl (by kernel_rfl) rfl ?_
            refine zN ?_
            refine K.d_skip 31 rfl (by kernel_rfl) rfl ?_
            refine zN ?_
            refine K.d_skip 32 rfl (by kernel_rfl) rfl ?_
            refine zN ?_
            refine K.d_skip 33 rfl (by kernel_rfl) rfl ?_
            refine zN ?_
            refine K.d_skip 34 rfl (by kernel_rfl) rfl ?_
            refine zN ?_
            refine K.d_skip 35 rfl (by kernel_rfl) rfl ?_
            refine zN ?_
            refine K.d_skip 36 rfl (by kernel_rfl) rfl ?_
            refine zN ?_
            refine K.d_skip 37 rfl (by kernel_rfl) rfl ?_
            refine zN ?_
            refine K.d_skip 38 rfl (by kernel_rfl) rfl ?_
            refine zN ?_
            refine K.d_pure 39 rfl (K.pick_f rfl) (by kernel_rfl) rfl ?_
            refine zn ?_
            refine K.d_done (by kernel_rfl) ?_
            exact K.join_here (L' := [K.row (.slice Q3 (anyS r (turnS ys)).length q3) 3 1 (anyS r (turnS ys)).length ((anyS r (turnS ys)).flatMap K.eI), K.row (.slice Q2 (fewL r).length q2) 3 1 (fewL r).length ((fewL r).flatMap K.eI), K.row (.slice Q1 (prfL r).length q1) 3 1 (prfL r).length ((prfL r).flatMap K.eI)]) [.bool false] ⟨rfl, rfl⟩ (fun w h => h) (by kernel_rfl)
          try replace hg131 := of_decide_eq_false hg131
          refine K.d_skip 17 rfl (by kernel_rfl) rfl ?_
          refine zN ?_
          refine K.d_skip 18 rfl (by kernel_rfl) rfl ?_
          refine zN ?_
          refine K.d_skip 19 rfl (by kernel_rfl) rfl ?_
          refine zN ?_
          refine K.d_skip 20 rfl (by kernel_rfl) rfl ?_
          refine zN ?_
          refine K.d_skip 21 rfl (by kernel_rfl) rfl ?_
          refine zN ?_
          refine K.d_skip 22 rfl (by kernel_rfl) rfl ?_
          refine zN ?_
          refine K.d_skip 23 rfl (by kernel_rfl) rfl ?_
          refine zN ?_
          refine K.d_skip 24 rfl (by kernel_rfl) rfl ?_
          refine zN ?_
          refine K.d_skip 25 rfl (by kernel_rfl) rfl ?_
          refine zN ?_
          refine K.d_skip 26 rfl (by kernel_rfl) rfl ?_
          refine zN ?_
          refine K.d_pure 27 rfl (K.pick_f rfl) (by kernel_rfl) rfl ?_
          refine zn ?_
          refine K.d_pure 28 rfl (K.move) (by kernel_rfl) rfl ?_
          refine zn ?_
          refine K.d_skip 29 rfl (by kernel_rfl) rfl ?_
          refine zN ?_
          refine K.d_skip 30 rfl (by kernel_rfl) rfl ?_
          refine zN ?_
          refine K.d_skip 31 rfl (by kernel_rfl) rfl ?_
          refine zN ?_
          refine K.d_skip 32 rfl (by kernel_rfl) rfl ?_
          refine zN ?_
          refine K.d_skip 33 rfl (by kernel_rfl) rfl ?_
          refine zN ?_
          refine K.d_skip 34 rfl (by kernel_rfl) rfl ?_
          refine zN ?_
          refine K.d_skip 35 rfl (by kernel_rfl) rfl ?_
          refine zN ?_
          refine K.d_skip 36 rfl (by kernel_rfl) rfl ?_
          refine zN ?_
          refine K.d_skip 37 rfl (by kernel_rfl) rfl ?_
          refine zN ?_
          refine K.d_skip 38 rfl (by kernel_rfl) rfl ?_
          refine zN ?_
          refine K.d_pure 39 rfl (K.pick_f rfl) (by kernel_rfl) rfl ?_
          refine zn ?_
          refine K.d_done (by kernel_rfl) ?_
          exact K.join_here (L' := [K.row (.slice Q3 (anyS r (turnS ys)).length q3) 3 1 (anyS r (turnS ys)).length ((anyS r (turnS ys)).flatMap K.eI), K.row (.slice Q2 (fewL r).length q2) 3 1 (fewL r).length ((fewL r).flatMap K.eI), K.row (.slice Q1 (prfL r).length q1) 3 1 (prfL r).length ((prfL r).flatMap K.eI)]) [.bool false] ⟨rfl, rfl⟩ (fun w h => h) (by kernel_rfl)
        try replace hg120 := of_decide_eq_false hg120
        refine K.d_skip 6 rfl (by kernel_rfl) rfl ?_
        refine zN ?_
        refine K.d_skip 7 rfl (by kernel_rfl) rfl ?_
        refine zN ?_
        refine K.d_skip 8 rfl (by kernel_rfl) rfl ?_
        refine zN ?_
        refine K.d_skip 9 rfl (by kernel_rfl) rfl ?_
        refine zN ?_
        refine K.d_skip 10 rfl (by kernel_rfl) rfl ?_
        refine zN ?_
        refine K.d_skip 11 rfl (by kernel_rfl) rfl ?_
        refine zN ?_
        refine K.d_skip 12 rfl (by kernel_rfl) rfl ?_
        refine zN ?_
        refine K.d_skip 13 rfl (by kernel_rfl) rfl ?_
        refine zN ?_
        refine K.d_skip 14 rfl (by kernel_rfl) rfl ?_
        refine zN ?_
        refine K.d_pure 15 rfl (K.pick_f rfl) (by kernel_rfl) rfl ?_
        refine zn ?_
        refine K.d_pure 16 rfl (K.move) (by kernel_rfl) rfl ?_
        refine zn ?_
        refine K.d_skip 17 rfl (by kernel_rfl) rfl ?_
        refine zN ?_
        refine K.d_skip 18 rfl (by kernel_rfl) rfl ?_
        refine zN ?_
        refine K.d_skip 19 rfl (by kernel_rfl) rfl ?_
        refine zN ?_
        refine K.d_skip 20 rfl (by kernel_rfl) rfl ?_
        refine zN ?_
        refine K.d_skip 21 rfl (by kernel_rfl) rfl ?_
        refine zN ?_
        refine K.d_skip 22 rfl (by kernel_rfl) rfl ?_
        refine zN ?_
        refine K.d_skip 23 rfl (by kernel_rfl) rfl ?_
        refine zN ?_
        refine K.d_skip 24 rfl (by kernel_rfl) rfl ?_
        refine zN ?_
        refine K.d_skip 25 rfl (by kernel_rfl) rfl ?_
        refine zN ?_
        refine K.d_skip 26 rfl (by kernel_rfl) rfl ?_
        refine zN ?_
        refine K.d_pure 27 rfl (K.pick_f rfl) (by kernel_rfl) rfl ?_
        refine zn ?_
        refine K.d_pure 28 rfl (K.move) (by kernel_rfl) rfl ?_
        refine zn ?_
        refine K.d_skip 29 rfl (by kernel_rfl) rfl ?_
        refine zN ?_
        refine K.d_skip 30 rfl (by kernel_rfl) rfl ?_
        refine zN ?_
        refine K.d_skip 31 rfl (by kernel_rfl) rfl ?_
        refine zN ?_
        refine K.d_skip 32 rfl (by kernel_rfl) rfl ?_
        refine zN ?_
        refine K.d_skip 33 rfl (by kernel_rfl) rfl ?_
        refine zN ?_
        refine K.d_skip 34 rfl (by kernel_rfl) rfl ?_
        refine zN ?_
        refine K.d_skip 35 rfl (by kernel_rfl) rfl ?_
        refine zN ?_
        refine K.d_skip 36 rfl (by kernel_rfl) rfl ?_
        refine zN ?_
        refine K.d_skip 37 rfl (by kernel_rfl) rfl ?_
        refine zN ?_
        refine K.d_skip 38 rfl (by kernel_rfl) rfl ?_
        refine zN ?_
        refine K.d_pure 39 rfl (K.pick_f rfl) (by kernel_rfl) rfl ?_
        refine zn ?_
        refine K.d_done (by kernel_rfl) ?_
        exact K.join_here (L' := [K.row (.slice Q3 (anyS r (turnS ys)).length q3) 3 1 (anyS r (turnS ys)).length ((anyS r (turnS ys)).flatMap K.eI), K.row (.slice Q2 (fewL r).length q2) 3 1 (fewL r).length ((fewL r).flatMap K.eI), K.row (.slice Q1 (prfL r).length q1) 3 1 (prfL r).length ((prfL r).flatMap K.eI)]) [.bool false] ⟨rfl, rfl⟩ (fun w h => h) (by kernel_rfl)
      intro vi vr L hJ
      obtain ⟨rfl, rfl⟩ := hJ
      try dsimp only [setd, setn, ev, nth, over, cl, eI, eP, eT, eR, setM, setF, List.map, List.append, List.drop, List.take]
      refine K.norm_then ?_
      refine K.cond_false rfl ?_
      refine K.skip ?_
      refine K.norm_block ?_
      refine K.norm_then ?_
      refine K.region_lit ?_
      refine qm ?_
      refine qp (K.add_i64 rfl rfl (by omega)) ?_
      refine qa ?_
      refine K.seq_nil ?_
      exact K.round_endW (L'' := [K.row (.slice Q3 (anyS r (turnS ys)).length q3) 3 1 (anyS r (turnS ys)).length ((anyS r (turnS ys)).flatMap K.eI), K.row (.slice Q2 (fewL r).length q2) 3 1 (fewL r).length ((fewL r).flatMap K.eI), K.row (.slice Q1 (prfL r).length q1) 3 1 (prfL r).length ((prfL r).flatMap K.eI)]) [.int .i64 ((k : Int) + 1)] ⟨k + 1, rfl, rfl, by omega⟩ (by simp [K.nth, intOf]; omega) (List.Sublist.refl _) (by kernel_rfl)
    try replace ht112 := of_decide_eq_false ht112
    refine K.exit ?_
    refine K.exit_then ?_
    refine K.exit_then ?_
    refine K.exit_here ?_
    refine K.norm_block ?_
    refine K.norm_then ?_
    refine K.region_lit ?_
    refine qm ?_
    refine qp (K.add_i64 rfl rfl (by omega)) ?_
    refine qa ?_
    refine K.seq_nil ?_
    exact K.round_endW (L'' := [K.row (.slice Q3 (anyS r (turnS ys)).length q3) 3 1 (anyS r (turnS ys)).length ((anyS r (turnS ys)).flatMap K.eI), K.row (.slice Q2 (fewL r).length q2) 3 1 (fewL r).length ((fewL r).flatMap K.eI), K.row (.slice Q1 (prfL r).length q1) 3 1 (prfL r).length ((prfL r).flatMap K.eI)]) [.int .i64 (nmF (prfL r) (i + 1) - 1), .int .i64 ((i : Int) + 1)] ⟨i + 1, rfl, rfl, by omega⟩ (by simp [K.nth, intOf]; omega) (List.Sublist.refl _) (by kernel_rfl)
  try replace ht70 := of_decide_eq_false ht70
  refine K.exit ?_
  refine K.exit_then ?_
  refine K.exit_then ?_
  refine K.exit_here ?_
  refine K.norm_then ?_
  refine sr ?_
  refine K.seq_call (K.call_g cal_25 (fun F w hF hw => c25 (hT.pass hw))) rfl ?_
  refine zN ?_
  refine qa ?_
  refine sn ?_
  refine K.ret ?_
  refine K.end_ret (fun w _ => K.res_tmp rfl w) ?_
  exact K.gives rfl

theorem c7 {r : List RvT} {A : Option Addr} {c : Nat} {Y : Option Addr} {cy : Nat} {ys : List Int} {w : World} (hR : K.Rd w A 4 eR r) (hn : r.length ≤ 17592186043904) (hT : Tab w) (hY : K.Rd w Y 1 eH ys) (hyb : ∀ x ∈ ys, 0 ≤ x ∧ x ≤ 65535) (hyl : ys.length ≤ 140737488351232) : Calls Tryd.prog 7 [.slice A r.length c, .slice Y ys.length cy].toArray w (K.Gives (.bool true) w) := by
  by_cases hc : (chk r).2.2 = 0
  · exact g7 hR hn hT hY hyb hyl hc
  · exact e7 hR hn hT hY hyb hyl hc


end Go.Proofs.YtoemnobfnnjopaaDoor
