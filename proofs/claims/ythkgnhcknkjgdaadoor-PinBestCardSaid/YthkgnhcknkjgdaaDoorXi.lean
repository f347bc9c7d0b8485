/-
  Walks of the program's functions, printed by program: what each returns.
  Conditions stand in each theorem.
-/
import Derived.WalkArith
import Derived.Laws.Closers25b
import Derived.Test.YthkgnhcknkjgdaaDoorXh
set_option linter.unusedSimpArgs false
set_option linter.unusedVariables false
namespace Go.Proofs.YthkgnhcknkjgdaaDoor
open Go.RowKit Go
open Go.K (setd setn ev nth over cl eI eP eT setM setF)
attribute [local irreducible] K.blk K.row

set_option maxRecDepth 100000 in
theorem e31 {m : Mod} {A B C : Option Addr} {c d e : Nat} {eye : Int} {w : World} (hH : K.Rd w A 1 K.eI m.hs) (hP : K.Rd w B 5 eN m.ps) (hS : K.Rd w C 4 eS m.ss) (hn : m.hs.length ≤ 4611686018427387904) (hm : m.ps.length ≤ 4611686018427387904) (hk : m.ss.length ≤ 4611686018427387904) (hc : (chk m).2.2 ≠ 0) :
    Calls Tryd.prog 31 [.agg #[.int .i64 m.W, .int .i64 m.D, .slice A m.hs.length c, .slice B m.ps.length d, .slice C m.ss.length e], .int .i64 eye].toArray w (K.Ret (fun r : Option Addr × Nat => (bestR m eye).2.2.length = 0 ∨ ∃ b, r.1 = some ⟨b, 0, none⟩) (fun r => .tuple #[.int .i64 (bestR m eye).1, .int .i64 (bestR m eye).2.1, .slice r.1 (bestR m eye).2.2.length r.2, .int .i64 (bestE m eye)]) (fun r => [K.row (.slice r.1 (bestR m eye).2.2.length r.2) 3 1 (bestR m eye).2.2.length ((bestR m eye).2.2.flatMap K.eI)]) w) := by
  have he : bestE m eye = (chk m).2.2 := by unfold bestE; rw [if_pos hc]
  refine K.enter (args := [.agg #[.int .i64 m.W, .int .i64 m.D, .slice A m.hs.length c, .slice B m.ps.length d, .slice C m.ss.length e], .int .i64 eye]) Tryd.func31 rfl (n := 70) rfl ?_
  simp only [List.replicate, List.cons_append, List.nil_append]
  refine sr ?_
  refine K.seq_new (K.box) rfl ?_
  intro b2
  refine zN ?_
  iterate 4 refine qa ?_
  refine sn ?_
  refine sr ?_
  refine K.seq_sil (K.loadA_own ag_26 rfl (K.m0) rfl) rfl ?_
  refine zN ?_
  refine K.seq_call (K.call_g cal_17 (fun F w hF hw => c17 (hH.pass hw) (hP.pass hw) (hS.pass hw) hn hm hk)) rfl ?_
  refine zN ?_
  refine qm ?_
  refine qx ?_
  refine qx ?_
  refine qx ?_
  iterate 3 refine qa ?_
  refine sn ?_
  refine K.seq ?_
  refine sr ?_
  refine qm ?_
  refine qp (K.Pure.eq (K.eql rfl rfl) (show _ = Value.bool false from congrArg Value.bool (by simp [hc]))) ?_
  refine qm ?_
  iterate 3 refine qs ?_
  refine qp (K.pick_f rfl) ?_
  refine sn ?_
  refine K.cond_false rfl ?_
  refine K.skip ?_
  refine K.norm_then ?_
  refine K.seq ?_
  refine sr ?_
  refine qm ?_
  refine qp (K.Pure.eq (K.neq rfl rfl) (show _ = Value.bool true from congrArg Value.bool (by simp [hc]))) ?_
  refine sn ?_
  refine K.cond_true rfl ?_
  refine sr ?_
  refine qm ?_
  iterate 4 refine qa ?_
  refine sn ?_
  refine K.ret ?_
  refine K.ret_then ?_
  refine K.end_ret (fun w _ => K.res_t4 rfl w) ?_
  have hr : bestR m eye = (0, 0, []) := by unfold bestR; rw [if_neg (by omega)]
  rw [hr]
  exact K.nil_row (e := 3) (size := 1) (K.rets_v (none, 0) (.inl rfl) (by rw [he]; rfl) rfl (List.Sublist.cons_cons _ (List.nil_sublist _)))

set_option maxRecDepth 100000 in
theorem f31 {m : Mod} {A B C : Option Addr} {c d e : Nat} {eye : Int} {w : World} (hH : K.Rd w A 1 K.eI m.hs) (hP : K.Rd w B 5 eN m.ps) (hS : K.Rd w C 4 eS m.ss) (hn : m.hs.length ≤ 4611686018427387904) (hm : m.ps.length ≤ 4611686018427387904) (hk : m.ss.length ≤ 4611686018427387904) (hc : (chk m).2.2 = 0) (hey : ¬ (0 ≤ eye ∧ eye ≤ 2000)) :
    Calls Tryd.prog 31 [.agg #[.int .i64 m.W, .int .i64 m.D, .slice A m.hs.length c, .slice B m.ps.length d, .slice C m.ss.length e], .int .i64 eye].toArray w (K.Ret (fun r : Option Addr × Nat => (bestR m eye).2.2.length = 0 ∨ ∃ b, r.1 = some ⟨b, 0, none⟩) (fun r => .tuple #[.int .i64 (bestR m eye).1, .int .i64 (bestR m eye).2.1, .slice r.1 (bestR m eye).2.2.length r.2, .int .i64 (bestE m eye)]) (fun r => [K.row (.slice r.1 (bestR m eye).2.2.length r.2) 3 1 (bestR m eye).2.2.length ((bestR m eye).2.2.flatMap K.eI)]) w) := by
  have he : bestE m eye = 7 := by unfold bestE; rw [if_neg (by omega), if_pos hey]
  refine K.enter (args := [.agg #[.int .i64 m.W, .int .i64 m.D, .slice A m.hs.length c, .slice B m.ps.length d, .slice C m.ss.length e], .int .i64 eye]) Tryd.func31 rfl (n := 70) rfl ?_
  simp only [List.replicate, List.cons_append, List.nil_append]
  refine sr ?_
  refine K.seq_new (K.box) rfl ?_
  intro b2
  refine zN ?_
  iterate 4 refine qa ?_
  refine sn ?_
  refine sr ?_
  refine K.seq_sil (K.loadA_own ag_26 rfl (K.m0) rfl) rfl ?_
  refine zN ?_
  refine K.seq_call (K.call_g cal_17 (fun F w hF hw => c17 (hH.pass hw) (hP.pass hw) (hS.pass hw) hn hm hk)) rfl ?_
  refine zN ?_
  refine qm ?_
  refine qx ?_
  refine qx ?_
  refine qx ?_
  iterate 3 refine qa ?_
  refine sn ?_
  refine K.seq ?_
  refine sr ?_
  refine qm ?_
  refine qp (K.Pure.eq (K.eql rfl rfl) (show _ = Value.bool true from congrArg Value.bool (by simp [hc]))) ?_
  iterate 2 refine qm ?_
  refine K.seq_call (K.call_g cal_57 (fun F w hF hw => c57 w)) rfl ?_
  refine zN ?_
  first | refine K.seq_pure (K.Pure.eq (K.not_d rfl) (show _ = Value.bool true from congrArg Value.bool (by simp; omega))) rfl ?_ | refine K.seq_pure (K.Pure.eq (K.not_ rfl) (show _ = Value.bool true from congrArg Value.bool (by simp; omega))) rfl ?_
  refine zN ?_
  refine qp (K.pick_t rfl) ?_
  refine sn ?_
  refine K.cond_true rfl ?_
  refine K.region_lit ?_
  refine qa ?_
  refine sn ?_
  refine K.seq ?_
  refine sr ?_
  refine qm ?_
  refine qp (K.Pure.eq (K.neq rfl rfl) (show _ = Value.bool true from congrArg Value.bool (by decide))) ?_
  refine sn ?_
  refine K.cond_true rfl ?_
  refine sr ?_
  refine qm ?_
  iterate 4 refine qa ?_
  refine sn ?_
  refine K.ret ?_
  refine K.ret_then ?_
  refine K.end_ret (fun w _ => K.res_t4 rfl w) ?_
  have hr : bestR m eye = (0, 0, []) := by unfold bestR; rw [if_neg (by omega)]
  rw [hr]
  exact K.nil_row (e := 3) (size := 1) (K.rets_v (none, 0) (.inl rfl) (by rw [he]; rfl) rfl (List.Sublist.cons_cons _ (List.nil_sublist _)))

set_option maxRecDepth 100000 in
set_option maxHeartbeats 1000000 in
theorem g31 {m : Mod} {A B C : Option Addr} {c d e : Nat} {eye : Int} {w : World} (hH : K.Rd w A 1 K.eI m.hs) (hP : K.Rd w B 5 eN m.ps) (hS : K.Rd w C 4 eS m.ss) (hn : m.hs.length ≤ 4611686018427387904) (hm : m.ps.length ≤ 4611686018427387904) (hk : m.ss.length ≤ 4611686018427387904) (hc : (chk m).2.2 = 0) (hey : 0 ≤ eye ∧ eye ≤ 2000) :
    Calls Tryd.prog 31 [.agg #[.int .i64 m.W, .int .i64 m.D, .slice A m.hs.length c, .slice B m.ps.length d, .slice C m.ss.length e], .int .i64 eye].toArray w (K.Ret (fun r : Option Addr × Nat => (bestR m eye).2.2.length = 0 ∨ ∃ b, r.1 = some ⟨b, 0, none⟩) (fun r => .tuple #[.int .i64 (bestR m eye).1, .int .i64 (bestR m eye).2.1, .slice r.1 (bestR m eye).2.2.length r.2, .int .i64 (bestE m eye)]) (fun r => [K.row (.slice r.1 (bestR m eye).2.2.length r.2) 3 1 (bestR m eye).2.2.length ((bestR m eye).2.2.flatMap K.eI)]) w) := by
  have g : Good m := chk_good hc
  have hgw := g.w
  have hgd := g.d
  have hgn := g.n
  have he : bestE m eye = 0 := by unfold bestE; rw [if_neg (by omega), if_neg (by omega)]
  have hr : bestR m eye = ((bestA m eye).1, (bestA m eye).2.1, (bestA m eye).2.2.1) := by unfold bestR; rw [if_pos he]
  rw [hr, he]
  refine K.enter (args := [.agg #[.int .i64 m.W, .int .i64 m.D, .slice A m.hs.length c, .slice B m.ps.length d, .slice C m.ss.length e], .int .i64 eye]) Tryd.func31 rfl (n := 70) rfl ?_
  simp only [List.replicate, List.cons_append, List.nil_append]
  refine sr ?_
  refine K.seq_new (K.box) rfl ?_
  intro b2
  refine zN ?_
  iterate 4 refine qa ?_
  refine sn ?_
  refine sr ?_
  refine K.seq_sil (K.loadA_own ag_26 rfl (K.m0) rfl) rfl ?_
  refine zN ?_
  refine K.seq_call (K.call_g cal_17 (fun F w hF hw => c17 (hH.pass hw) (hP.pass hw) (hS.pass hw) hn hm hk)) rfl ?_
  refine zN ?_
  refine qm ?_
  refine qx ?_
  refine qx ?_
  refine qx ?_
  iterate 3 refine qa ?_
  refine sn ?_
  refine K.seq ?_
  refine sr ?_
  refine qm ?_
  refine qp (K.Pure.eq (K.eql rfl rfl) (show _ = Value.bool true from congrArg Value.bool (by simp [hc]))) ?_
  iterate 2 refine qm ?_
  refine K.seq_call (K.call_g cal_57 (fun F w hF hw => c57 w)) rfl ?_
  refine zN ?_
  first | refine K.seq_pure (K.Pure.eq (K.not_d rfl) (show _ = Value.bool false from congrArg Value.bool (by simp; omega))) rfl ?_ | refine K.seq_pure (K.Pure.eq (K.not_ rfl) (show _ = Value.bool false from congrArg Value.bool (by simp; omega))) rfl ?_
  refine zN ?_
  refine qp (K.pick_t rfl) ?_
  refine sn ?_
  refine K.cond_false rfl ?_
  refine K.skip ?_
  refine K.norm_then ?_
  refine K.seq ?_
  refine sr ?_
  refine qm ?_
  refine qp (K.Pure.eq (K.neq rfl rfl) (show _ = Value.bool false from congrArg Value.bool (by simp [hc]))) ?_
  refine sn ?_
  refine K.cond_false rfl ?_
  refine K.skip ?_
  refine K.norm_then ?_
  refine sr ?_
  iterate 2 refine qa ?_
  refine sn ?_
  refine K.seq ?_
  refine K.draw_L [] Tryd_mixed ?_
  refine K.d_mem 0 rfl (K.loadA_own ag_26 rfl (K.m0) rfl) (fun _ h => h) (by kernel_rfl) (by kernel_rfl) rfl ?_
  refine zN ?_
  refine K.d_mem 1 rfl (K.loadA_own ag_26 rfl (K.m0) rfl) (fun _ h => h) (by kernel_rfl) (by kernel_rfl) rfl ?_
  refine zN ?_
  refine K.d_pure 3 rfl (K.move) (by kernel_rfl) rfl ?_
  refine zn ?_
  refine K.d_loud 2 rfl (K.call_f cal_43 (fun F w hF hw => c43 (hP.pass hw) (by omega))) (fun _ h => h) (by kernel_rfl) rfl ?_
  rintro ⟨Q0, q0⟩ hq0
  refine zN ?_
  refine K.d_loud 4 rfl (K.call_f cal_71 (fun F w hF hw => (by have hh := (K.Rd.own (e := K.eI) (xs := (ownS m)) hw (hF _ (K.m0)) hq0 (fun _ => rfl) (by decide)); exact c71 (l := ownS m) (x := -1) (y := -1) (eye := eye) (hH.pass hw) (hP.pass hw) hh own_len g.lb g (by omega) (by omega) (by omega)))) (fun _ h => K.tl h) (by kernel_rfl) rfl ?_
  rintro ⟨Q1, q1⟩ hq1
  refine zN ?_
  refine K.d_pure 5 rfl (K.assign) (by kernel_rfl) rfl ?_
  refine zn ?_
  refine K.d_done (by kernel_rfl) ?_
  refine K.norm_then ?_
  refine K.seq ?_
  refine K.seq ?_
  refine K.weak (List.Sublist.cons_cons _ (List.Sublist.cons _ (List.Sublist.cons_cons _ (List.Sublist.slnil)))) ?_
  refine K.region_lit ?_
  refine qa ?_
  refine sn ?_
  refine K.block ?_
  refine K.loopW [11, 12, 13, 14] [15, 16, 38, 39, 40, 41, 42, 43, 44, 45, 46, 47, 48, 49, 50, 51, 52, 53, 54, 55, 56, 57, 58, 59, 60, 61, 62, 63, 64, 65, 66, 67, 68] (fun vi L => ∃ (b : Nat) (bx bY : Int) (bl : List Int) (Q1 : Option Addr) (q1 : Nat), vi = [.int .i64 bx, .int .i64 bY, .slice Q1 bl.length q1, .int .i64 ((b : Int) - 1)] ∧ L = [K.row (.slice Q1 bl.length q1) 3 1 bl.length (bl.flatMap K.eI), K.blk b2 26 [.int .i64 m.W, .int .i64 m.D, .slice A m.hs.length c, .slice B m.ps.length d, .slice C m.ss.length e]] ∧ (b : Int) ≤ m.D + 2 ∧ BInv m eye b 0 (bx, bY, bl, (bl.length : Int))) (fun vi => (m.D + 2 - intOf (K.nth vi 3)).toNat) ?_ ?_
  · exact ⟨0, -1, -1, fromL m (-1) (-1) eye, Q1, q1, rfl, rfl, by omega, .inl ⟨rfl, rfl, rfl⟩⟩
  intro vi vr L hJ
  obtain ⟨b, bx, bY, bl, Q1, q1, rfl, rfl, hbn, hB0⟩ := hJ
  try dsimp only [setd, setn, ev, nth, over, cl, eI, eP, eT, eN, eS, setM, setF, List.map, List.append, List.drop, List.take]
  refine K.seq ?_
  refine sr ?_
  refine qm ?_
  refine qp (K.fieldAddr_lit fo_26_1 rfl) ?_
  refine K.seq_sil (K.load1_own one_3 rfl (K.m1) rfl) rfl ?_
  refine zN ?_
  refine qp (K.leq rfl rfl) ?_
  refine sn ?_
  refine K.cond rfl (fun ht41 => ?_) (fun ht41 => ?_)
  · try replace ht41 := of_decide_eq_true ht41
    have hbD : (b : Int) < m.D + 2 := by omega
    refine K.skip ?_
    refine K.norm_then ?_
    refine K.seq ?_
    refine K.block ?_
    refine sr ?_
    refine qa ?_
    refine sn ?_
    refine K.block ?_
    refine K.loopW [11, 12, 13, 15] [16, 44, 45, 46, 47, 48, 49, 50, 51, 52, 53, 54, 55, 56, 57, 58, 59, 60, 61, 62, 63, 64, 65, 66, 67, 68] (fun vi L => ∃ (a : Nat) (bx bY : Int) (bl : List Int) (Q1 : Option Addr) (q1 : Nat), vi = [.int .i64 bx, .int .i64 bY, .slice Q1 bl.length q1, .int .i64 ((a : Int) - 1)] ∧ L = [K.row (.slice Q1 bl.length q1) 3 1 bl.length (bl.flatMap K.eI), K.blk b2 26 [.int .i64 m.W, .int .i64 m.D, .slice A m.hs.length c, .slice B m.ps.length d, .slice C m.ss.length e]] ∧ (a : Int) ≤ m.W + 2 ∧ BInv m eye b a (bx, bY, bl, (bl.length : Int))) (fun vi => (m.W + 2 - intOf (K.nth vi 3)).toNat) ?_ ?_
    · exact ⟨0, bx, bY, bl, Q1, q1, rfl, rfl, by omega, hB0⟩
    intro vi vr L hJ
    obtain ⟨a, bx, bY, bl, Q1, q1, rfl, rfl, han, hB⟩ := hJ
    try dsimp only [setd, setn, ev, nth, over, cl, eI, eP, eT, eN, eS, setM, setF, List.map, List.append, List.drop, List.take]
    refine K.seq ?_
    refine sr ?_
    refine qm ?_
    refine qp (K.fieldAddr_lit fo_26_0 rfl) ?_
    refine K.seq_sil (K.load1_own one_3 rfl (K.m1) rfl) rfl ?_
    refine zN ?_
    refine qp (K.leq rfl rfl) ?_
    refine sn ?_
    refine K.cond rfl (fun ht47 => ?_) (fun ht47 => ?_)
    · try replace ht47 := of_decide_eq_true ht47
      have haW : (a : Int) < m.W + 2 := by omega
      refine K.skip ?_
      refine K.norm_then ?_
      refine K.seq ?_
      refine K.block ?_
      refine K.seq ?_
      refine sr ?_
      refine K.seq_sil (K.loadA_own ag_26 rfl (K.m1) rfl) rfl ?_
      refine zN ?_
      iterate 2 refine qm ?_
      refine K.seq_call (K.call_g cal_81 (fun F w hF hw => c81 g.w g.d)) rfl ?_
      refine zN ?_
      refine sn ?_
      refine K.cond rfl (fun ht53 => ?_) (fun ht53 => ?_)
      · try replace ht53 := of_decide_eq_true ht53
        refine K.exit ?_
        refine K.exit_then ?_
        refine K.exit_here ?_
        refine K.norm_then ?_
        refine K.region_lit ?_
        refine qm ?_
        refine qp (K.add_i64 rfl rfl (by omega)) ?_
        refine qa ?_
        refine K.seq_nil ?_
        have hin := binv_step hB
        rw [bstep_on ht53] at hin
        exact K.round_endW (L'' := [K.row (.slice Q1 bl.length q1) 3 1 bl.length (bl.flatMap K.eI), K.blk b2 26 [.int .i64 m.W, .int .i64 m.D, .slice A m.hs.length c, .slice B m.ps.length d, .slice C m.ss.length e]]) [.int .i64 bx, .int .i64 bY, .slice Q1 bl.length q1, .int .i64 (((a : Int) - 1) + 1)] ⟨a + 1, bx, bY, bl, Q1, q1, by rw [show (((a + 1 : Nat) : Int) - 1) = ((a : Int) - 1) + 1 by omega], rfl, by omega, hin⟩ (by simp [K.nth, intOf]; omega) (List.Sublist.refl _) (by kernel_rfl)
      try replace ht53 := of_decide_eq_false ht53
      refine K.skip ?_
      refine K.norm_then ?_
      refine K.seq ?_
      refine K.draw_L [] Tryd_mixed ?_
      refine K.d_mem 0 rfl (K.loadA_own ag_26 rfl (K.m1) rfl) (fun _ h => h) (by kernel_rfl) (by kernel_rfl) rfl ?_
      refine zN ?_
      refine K.d_mem 1 rfl (K.loadA_own ag_26 rfl (K.m1) rfl) (fun _ h => h) (by kernel_rfl) (by kernel_rfl) rfl ?_
      refine zN ?_
      refine K.d_pure 3 rfl (K.move) (by kernel_rfl) rfl ?_
      refine zn ?_
      refine K.d_pure 4 rfl (K.move) (by kernel_rfl) rfl ?_
      refine zn ?_
      refine K.d_pure 5 rfl (K.move) (by kernel_rfl) rfl ?_
      refine zn ?_
      refine K.d_loud 2 rfl (K.call_f cal_43 (fun F w hF hw => c43 (hP.pass hw) (by omega))) (fun _ h => h) (by kernel_rfl) rfl ?_
      rintro ⟨Q3, q3⟩ hq3
      refine zN ?_
      refine K.d_loud 6 rfl (K.call_f cal_71 (fun F w hF hw => (by have hh := (K.Rd.own (e := K.eI) (xs := (ownS m)) hw (hF _ (K.m0)) hq3 (fun _ => rfl) (by decide)); exact c71 (l := ownS m) (x := ((a : Int) - 1)) (y := ((b : Int) - 1)) (eye := eye) (hH.pass hw) (hP.pass hw) hh own_len g.lb g (by omega) (by omega) (by omega)))) (fun _ h => K.tl h) (by kernel_rfl) rfl ?_
      rintro ⟨Q2, q2⟩ hq2
      refine zN ?_
      refine K.d_pure 7 rfl (K.assign) (by kernel_rfl) rfl ?_
      refine zn ?_
      refine K.d_done (by kernel_rfl) ?_
      refine K.norm_then ?_
      refine sr ?_
      refine qm ?_
      refine qp (K.len_sl sl_22 rfl) ?_
      refine qm ?_
      refine qp (K.len_sl sl_22 rfl) ?_
      refine qp (K.gtr rfl rfl) ?_
      refine sn ?_
      refine K.cond rfl (fun ht65 => ?_) (fun ht65 => ?_)
      · try replace ht65 := of_decide_eq_true ht65
        refine K.region_lit ?_
        iterate 3 refine qm ?_
        iterate 3 refine qa ?_
        refine K.seq_nil ?_
        refine K.norm_block ?_
        refine K.norm_then ?_
        refine K.region_lit ?_
        refine qm ?_
        refine qp (K.add_i64 rfl rfl (by omega)) ?_
        refine qa ?_
        refine K.seq_nil ?_
        have hin := binv_step hB
        rw [bstep_gt ht53 ht65] at hin
        exact K.round_endW (L'' := [K.row (.slice Q2 (fromL m ((a : Int) - 1) ((b : Int) - 1) eye).length q2) 3 1 (fromL m ((a : Int) - 1) ((b : Int) - 1) eye).length ((fromL m ((a : Int) - 1) ((b : Int) - 1) eye).flatMap K.eI), K.blk b2 26 [.int .i64 m.W, .int .i64 m.D, .slice A m.hs.length c, .slice B m.ps.length d, .slice C m.ss.length e]]) [.int .i64 ((a : Int) - 1), .int .i64 ((b : Int) - 1), .slice Q2 (fromL m ((a : Int) - 1) ((b : Int) - 1) eye).length q2, .int .i64 (((a : Int) - 1) + 1)] ⟨a + 1, ((a : Int) - 1), ((b : Int) - 1), (fromL m ((a : Int) - 1) ((b : Int) - 1) eye), Q2, q2, by rw [show (((a + 1 : Nat) : Int) - 1) = ((a : Int) - 1) + 1 by omega], rfl, by omega, hin⟩ (by simp [K.nth, intOf]; omega) (List.Sublist.cons_cons _ (List.Sublist.cons _ (List.Sublist.cons _ (List.Sublist.refl _)))) (by kernel_rfl)
      try replace ht65 := of_decide_eq_false ht65
      refine K.skip ?_
      refine K.norm_block ?_
      refine K.norm_then ?_
      refine K.region_lit ?_
      refine qm ?_
      refine qp (K.add_i64 rfl rfl (by omega)) ?_
      refine qa ?_
      refine K.seq_nil ?_
      have hin := binv_step hB
      rw [bstep_le ht53 ht65] at hin
      exact K.round_endW (L'' := [K.row (.slice Q1 bl.length q1) 3 1 bl.length (bl.flatMap K.eI), K.blk b2 26 [.int .i64 m.W, .int .i64 m.D, .slice A m.hs.length c, .slice B m.ps.length d, .slice C m.ss.length e]]) [.int .i64 bx, .int .i64 bY, .slice Q1 bl.length q1, .int .i64 (((a : Int) - 1) + 1)] ⟨a + 1, bx, bY, bl, Q1, q1, by rw [show (((a + 1 : Nat) : Int) - 1) = ((a : Int) - 1) + 1 by omega], rfl, by omega, hin⟩ (by simp [K.nth, intOf]; omega) (List.Sublist.cons _ (List.Sublist.cons _ (List.Sublist.refl _))) (by kernel_rfl)
    try replace ht47 := of_decide_eq_false ht47
    refine K.exit ?_
    refine K.exit_then ?_
    refine K.exit_then ?_
    refine K.exit_here ?_
    refine K.norm_block ?_
    refine K.norm_then ?_
    refine K.region_lit ?_
    refine qm ?_
    refine qp (K.add_i64 rfl rfl (by omega)) ?_
    refine qa ?_
    refine K.seq_nil ?_
    have hout := binv_row (by omega) (show BInv m eye b (m.W + 2).toNat (bx, bY, bl, (bl.length : Int)) by rw [show (m.W + 2).toNat = a by omega]; exact hB)
    exact K.round_endW (L'' := [K.row (.slice Q1 bl.length q1) 3 1 bl.length (bl.flatMap K.eI), K.blk b2 26 [.int .i64 m.W, .int .i64 m.D, .slice A m.hs.length c, .slice B m.ps.length d, .slice C m.ss.length e]]) [.int .i64 bx, .int .i64 bY, .slice Q1 bl.length q1, .int .i64 (((b : Int) - 1) + 1)] ⟨b + 1, bx, bY, bl, Q1, q1, by rw [show (((b + 1 : Nat) : Int) - 1) = ((b : Int) - 1) + 1 by omega], rfl, by omega, hout⟩ (by simp [K.nth, intOf]; omega) (by repeat (first | exact List.Sublist.refl _ | apply List.Sublist.cons)) (by kernel_rfl)
  try replace ht41 := of_decide_eq_false ht41
  refine K.exit ?_
  refine K.exit_then ?_
  refine K.exit_then ?_
  refine K.exit_here ?_
  refine K.norm_then ?_
  refine sr ?_
  iterate 3 refine qm ?_
  iterate 4 refine qa ?_
  refine sn ?_
  refine K.ret ?_
  refine K.end_ret (fun w _ => K.res_t4 rfl w) ?_
  have hfin := binv_end (by omega) (show BInv m eye (m.D + 2).toNat 0 (bx, bY, bl, (bl.length : Int)) by rw [show (m.D + 2).toNat = b by omega]; exact hB0)
  rw [← hfin]
  exact K.use_row K.m0 (fun hQ => K.rets_v (Q1, q1) hQ rfl rfl (List.Sublist.cons_cons _ (List.nil_sublist _)))

theorem c31 {m : Mod} {A B C : Option Addr} {c d e : Nat} {eye : Int} {w : World} (hH : K.Rd w A 1 K.eI m.hs) (hP : K.Rd w B 5 eN m.ps) (hS : K.Rd w C 4 eS m.ss) (hn : m.hs.length ≤ 4611686018427387904) (hm : m.ps.length ≤ 4611686018427387904) (hk : m.ss.length ≤ 4611686018427387904) : Calls Tryd.prog 31 [.agg #[.int .i64 m.W, .int .i64 m.D, .slice A m.hs.length c, .slice B m.ps.length d, .slice C m.ss.length e], .int .i64 eye].toArray w (K.Ret (fun r : Option Addr × Nat => (bestR m eye).2.2.length = 0 ∨ ∃ b, r.1 = some ⟨b, 0, none⟩) (fun r => .tuple #[.int .i64 (bestR m eye).1, .int .i64 (bestR m eye).2.1, .slice r.1 (bestR m eye).2.2.length r.2, .int .i64 (bestE m eye)]) (fun r => [K.row (.slice r.1 (bestR m eye).2.2.length r.2) 3 1 (bestR m eye).2.2.length ((bestR m eye).2.2.flatMap K.eI)]) w) := by
  by_cases hc : (chk m).2.2 = 0
  · by_cases hey : 0 ≤ eye ∧ eye ≤ 2000
    · exact g31 hH hP hS hn hm hk hc hey
    · exact f31 hH hP hS hn hm hk hc hey
  · exact e31 hH hP hS hn hm hk hc
theorem best_len6 {m : Mod} {eye : Int} : (bestR m eye).2.2.length ≤ 1000000 := by
  unfold bestR
  split
  · rename_i h
    have hc : (chk m).2.2 = 0 := by
      unfold bestE at h
      split at h
      · rename_i h1; exact absurd h h1
      · rename_i h1; exact Decidable.not_not.1 h1
    have := (outK_ok (m := m) (eye := eye) (m.D + 2).toNat).1
    have := (chk_good hc).n
    show (outK m eye (m.D + 2).toNat).2.2.1.length ≤ 1000000
    omega
  · simp
theorem fewS_len {p : Nat → Bool} {n : Nat} : ∀ k z, fewF p n k = some z → z.length ≤ n
  | 0, z, h => by cases h
  | k + 1, z, h => by
    rw [fewF] at h
    cases e : fewF p n k with
    | none =>
      rw [e] at h; simp only at h
      split at h
      · cases h; exact pts_len
      · cases h
    | some l =>
      rw [e] at h; simp only at h
      have := fewS_len k l e
      split at h
      · cases h; exact this
      · split at h
        · cases h; exact pts_len
        · cases h; exact this
theorem few_len6 {m : Mod} : (fewL m).length ≤ 1000000 := by
  unfold fewL
  split
  · simp
  · rename_i h
    have g := chk_good (Decidable.not_not.1 h)
    have := g.k
    cases e : fewM m with
    | none => simp
    | some z => have := fewS_len _ _ e; simp only [Option.getD_some]; omega
theorem off_len6 {m : Mod} : (offL m).length ≤ 1000000 := by
  unfold offL
  split
  · simp
  · rename_i h
    have g := chk_good (Decidable.not_not.1 h)
    have := g.n
    cases e : offM m with
    | none => simp
    | some z => have := fewS_len _ _ e; simp only [Option.getD_some]; omega
/-- An inner row, read. -/
theorem inn1 {A : Option Addr} {c : Nat} {xs : List Int} {F : Nat → Prop} {Fr : List K.Chunk} {w0 w : World} (hw : K.St w0 Fr w) (hm : K.inn F [.slice A xs.length c] [xs] ∈ Fr) : K.Rd w A 1 K.eI xs := K.Rd.inn (i := 0) (zs := [xs]) (vs := [.slice A xs.length c]) hw hm (by simp) rfl


set_option maxRecDepth 100000 in
set_option maxHeartbeats 1000000 in
theorem c5 {m : Mod} {A B C : Option Addr} {c d e : Nat} {eye : Int} {w : World} (hH : K.Rd w A 1 K.eI m.hs) (hP : K.Rd w B 5 eN m.ps) (hS : K.Rd w C 4 eS m.ss) (hn : m.hs.length ≤ 4611686018427387904) (hm : m.ps.length ≤ 4611686018427387904) (hk : m.ss.length ≤ 4611686018427387904) (hcd : m.ps.length ≤ d) (hT : Tab w) :
    Calls Tryd.prog 5 [.agg #[.int .i64 m.W, .int .i64 m.D, .slice A m.hs.length c, .slice B m.ps.length d, .slice C m.ss.length e], .int .i64 eye].toArray w (K.Gives (.bool true) w) := by
  have hl1 := @best_len6 m eye
  have hl2 := @few_len6 m
  have hl3 := @off_len6 m
  refine K.enter (args := [.agg #[.int .i64 m.W, .int .i64 m.D, .slice A m.hs.length c, .slice B m.ps.length d, .slice C m.ss.length e], .int .i64 eye]) Tryd.func5 rfl (n := 86) rfl ?_
  simp only [List.replicate, List.cons_append, List.nil_append]
  refine sr ?_
  refine K.seq_new (K.box) rfl ?_
  intro b2
  refine zN ?_
  refine qa ?_
  refine sn ?_
  refine sr ?_
  refine K.seq_sil (K.loadA_own ag_26 rfl (K.m0) rfl) rfl ?_
  refine zN ?_
  refine qm ?_
  refine K.seq_loud (K.call_f cal_30 (fun F w hF hw => c30 (hH.pass hw) (hP.pass hw) (hS.pass hw) hn hm hk hcd (hT.pass hw))) rfl ?_
  rintro ⟨A1, a1⟩ hq1
  refine zN ?_
  refine qm ?_
  refine qx ?_
  refine qx ?_
  refine qx ?_
  refine qx ?_
  iterate 4 refine qa ?_
  refine sn ?_
  refine sr ?_
  refine K.seq_sil (K.loadA_own ag_26 rfl (K.m1) rfl) rfl ?_
  refine zN ?_
  refine qm ?_
  refine K.seq_loud (K.call_f cal_31 (fun F w hF hw => c31 (hH.pass hw) (hP.pass hw) (hS.pass hw) hn hm hk)) rfl ?_
  rintro ⟨A2, a2⟩ hq2
  refine zN ?_
  refine qm ?_
  refine qx ?_
  refine qx ?_
  refine qx ?_
  refine qx ?_
  iterate 4 refine qa ?_
  refine sn ?_
  refine K.seq ?_
  refine sr ?_
  iterate 2 refine qm ?_
  refine qp (K.Pure.eq (K.neq rfl rfl) (show _ = Value.bool false from congrArg Value.bool (by simp))) ?_
  iterate 3 refine qm ?_
  refine qp (K.Pure.eq (K.neq rfl rfl) (show _ = Value.bool false from congrArg Value.bool (by simp))) ?_
  refine qp (K.pick_f rfl) ?_
  iterate 3 refine qm ?_
  refine K.seq_call (K.call_g cal_20 (fun F w hF hw => (by have hA := (K.Rd.own (e := K.eI) (xs := (bestR m eye).2.2) hw (hF _ (K.m1)) hq1 (fun _ => rfl) (by decide)); have hB := (K.Rd.own (e := K.eI) (xs := (bestR m eye).2.2) hw (hF _ (K.m0)) hq2 (fun _ => rfl) (by decide)); exact c20t (xs := (bestR m eye).2.2) hA hB hl1))) rfl ?_
  refine zN ?_
  first | refine K.seq_pure (K.Pure.eq (K.not_d rfl) (show _ = Value.bool false from rfl)) rfl ?_ | refine K.seq_pure (K.Pure.eq (K.not_ rfl) (show _ = Value.bool false from rfl)) rfl ?_
  refine zN ?_
  refine qp (K.pick_f rfl) ?_
  iterate 3 refine qm ?_
  refine qp (K.Pure.eq (K.neq rfl rfl) (show _ = Value.bool false from congrArg Value.bool (by simp))) ?_
  refine qp (K.pick_f rfl) ?_
  refine sn ?_
  refine K.cond_false rfl ?_
  refine K.skip ?_
  refine K.norm_then ?_
  refine sr ?_
  refine K.seq_sil (K.loadA_own ag_26 rfl (K.m2) rfl) rfl ?_
  refine zN ?_
  refine K.seq_loud (K.call_f cal_32 (fun F w hF hw => c32 (hH.pass hw) (hP.pass hw) (hS.pass hw) hn hm hk hcd (hT.pass hw))) rfl ?_
  rintro ⟨A3, a3⟩ hq3
  refine zN ?_
  refine qm ?_
  refine qx ?_
  refine qx ?_
  iterate 2 refine qa ?_
  refine sn ?_
  refine sr ?_
  refine K.seq_sil (K.loadA_own ag_26 rfl (K.m3) rfl) rfl ?_
  refine zN ?_
  refine K.seq_loud (K.call_f cal_33 (fun F w hF hw => c33 (hH.pass hw) (hP.pass hw) (hS.pass hw) hn hm hk)) rfl ?_
  rintro ⟨A4, a4, F4⟩ _
  refine zN ?_
  refine qm ?_
  refine qx ?_
  refine qx ?_
  iterate 2 refine qa ?_
  refine sn ?_
  refine K.seq ?_
  refine sr ?_
  iterate 2 refine qm ?_
  refine K.seq_call (K.call_g cal_20 (fun F w hF hw => (by have hA := (K.Rd.own (e := K.eI) (xs := (fewL m)) hw (hF _ (K.m1)) hq3 (fun _ => rfl) (by decide)); have hB := inn1 hw (hF _ (K.m0)); exact c20t (xs := (fewL m)) hA hB hl2))) rfl ?_
  refine zN ?_
  first | refine K.seq_pure (K.Pure.eq (K.not_d rfl) (show _ = Value.bool false from rfl)) rfl ?_ | refine K.seq_pure (K.Pure.eq (K.not_ rfl) (show _ = Value.bool false from rfl)) rfl ?_
  refine zN ?_
  iterate 3 refine qm ?_
  refine qp (K.Pure.eq (K.neq rfl rfl) (show _ = Value.bool false from congrArg Value.bool (by simp))) ?_
  refine qp (K.pick_f rfl) ?_
  refine sn ?_
  refine K.cond_false rfl ?_
  refine K.skip ?_
  refine K.norm_then ?_
  refine sr ?_
  refine K.seq_sil (K.loadA_own ag_26 rfl (K.m4) rfl) rfl ?_
  refine zN ?_
  refine K.seq_loud (K.call_f cal_34 (fun F w hF hw => c34 (hH.pass hw) (hP.pass hw) (hS.pass hw) hn hm hk hcd (hT.pass hw))) rfl ?_
  rintro ⟨A5, a5⟩ hq5
  refine zN ?_
  refine qm ?_
  refine qx ?_
  refine qx ?_
  iterate 2 refine qa ?_
  refine sn ?_
  refine sr ?_
  refine K.seq_sil (K.loadA_own ag_26 rfl (K.m5) rfl) rfl ?_
  refine zN ?_
  refine K.seq_loud (K.call_f cal_35 (fun F w hF hw => c35 (hH.pass hw) (hP.pass hw) (hS.pass hw) hn hm hk)) rfl ?_
  rintro ⟨A6, a6, F6⟩ _
  refine zN ?_
  refine qm ?_
  refine qx ?_
  refine qx ?_
  iterate 2 refine qa ?_
  refine sn ?_
  refine sr ?_
  iterate 2 refine qm ?_
  refine K.seq_call (K.call_g cal_20 (fun F w hF hw => (by have hA := (K.Rd.own (e := K.eI) (xs := (offL m)) hw (hF _ (K.m1)) hq5 (fun _ => rfl) (by decide)); have hB := inn1 hw (hF _ (K.m0)); exact c20t (xs := (offL m)) hA hB hl3))) rfl ?_
  refine zN ?_
  iterate 3 refine qm ?_
  refine qp (K.Pure.eq (K.eql rfl rfl) (show _ = Value.bool true from congrArg Value.bool (by simp))) ?_
  refine qp (K.pick_t rfl) ?_
  refine qm ?_
  refine K.seq_call (K.call_g cal_25 (fun F w hF hw => c25 (hT.pass hw))) rfl ?_
  refine zN ?_
  refine qp (K.pick_t rfl) ?_
  refine qa ?_
  refine sn ?_
  refine K.ret ?_
  refine K.end_ret (fun w _ => K.res_tmp rfl w) ?_
  exact K.gives rfl

end Go.Proofs.YthkgnhcknkjgdaaDoor
