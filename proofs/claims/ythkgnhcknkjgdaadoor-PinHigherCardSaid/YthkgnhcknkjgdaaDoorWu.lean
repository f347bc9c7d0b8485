/-
  Walks of the program's functions, printed by program: what each returns.
  Conditions stand in each theorem.
-/
import Derived.WalkArith
import Derived.Laws.Closers25b
import Derived.Test.YthkgnhcknkjgdaaDoorWt
set_option linter.unusedSimpArgs false
set_option linter.unusedVariables false
namespace Go.Proofs.YthkgnhcknkjgdaaDoor
open Go.RowKit Go
open Go.K (setd setn ev nth over cl eI eP eT setM setF)
attribute [local irreducible] K.blk K.row
theorem bs23 (s : ByteArray) (a b c d : Int) : K.Bs Tryd.prog 23 1 [(0, .agg #[.string s, .int .i64 a, .int .i64 b, .int .i64 c, .int .i64 d])] 54 [.string s, .int .i64 a, .int .i64 b, .int .i64 c, .int .i64 d] := fun w => by kernel_rfl
theorem eN_len (x : PinT) : (eN x).length = 5 := rfl

set_option maxRecDepth 100000 in
theorem e30 {m : Mod} {A B C : Option Addr} {c d e : Nat} {eye : Int} {w : World} (hH : K.Rd w A 1 K.eI m.hs) (hP : K.Rd w B 5 eN m.ps) (hS : K.Rd w C 4 eS m.ss) (hn : m.hs.length ≤ 4611686018427387904) (hm : m.ps.length ≤ 4611686018427387904) (hk : m.ss.length ≤ 4611686018427387904) (hcd : m.ps.length ≤ d) (hc : (chk m).2.2 ≠ 0) :
    Calls Tryd.prog 30 [.agg #[.int .i64 m.W, .int .i64 m.D, .slice A m.hs.length c, .slice B m.ps.length d, .slice C m.ss.length e], .int .i64 eye].toArray w (K.Ret (fun r : Option Addr × Nat => (bestR m eye).2.2.length = 0 ∨ ∃ b, r.1 = some ⟨b, 0, none⟩) (fun r => .tuple #[.int .i64 (bestR m eye).1, .int .i64 (bestR m eye).2.1, .slice r.1 (bestR m eye).2.2.length r.2, .int .i64 (bestE m eye)]) (fun r => [K.row (.slice r.1 (bestR m eye).2.2.length r.2) 3 1 (bestR m eye).2.2.length ((bestR m eye).2.2.flatMap K.eI)]) w) := by
  have he : bestE m eye = (chk m).2.2 := by unfold bestE; rw [if_pos hc]
  refine K.enter (args := [.agg #[.int .i64 m.W, .int .i64 m.D, .slice A m.hs.length c, .slice B m.ps.length d, .slice C m.ss.length e], .int .i64 eye]) Tryd.func30 rfl (n := 72) rfl ?_
  simp only [List.replicate, List.cons_append, List.nil_append]
  refine sr ?_
  refine K.seq_new (K.box) rfl ?_
  intro b2
  refine zN ?_
  iterate 4 refine qa ?_
  refine sn ?_
  refine sr ?_
  refine K.seq_sil (K.loadA_own ag_26 rfl (K.m0) rfl) rfl ?_
  refine zN ?_
  refine K.seq_call (K.call_g cal_67 (fun F w hF hw => e67 (hH.pass hw) (hP.pass hw) (hS.pass hw) hn hm hk hcd hc)) rfl ?_
  refine zN ?_
  refine qm ?_
  refine qx ?_
  refine qx ?_
  iterate 2 refine qa ?_
  refine sn ?_
  refine K.seq ?_
  refine K.block ?_
  refine sr ?_
  refine qm ?_
  refine qp (K.neq rfl rfl) ?_
  refine qa ?_
  refine sn ?_
  refine K.cond_true (by exact congrArg Value.bool (decide_eq_true hc)) ?_
  refine sr ?_
  refine qm ?_
  iterate 4 refine qa ?_
  refine sn ?_
  refine K.ret ?_
  refine K.ret_block ?_
  refine K.ret_then ?_
  refine K.end_ret (fun w _ => K.res_t4 rfl w) ?_
  have hr : bestR m eye = (0, 0, []) := by unfold bestR; rw [if_neg (by omega)]
  rw [hr]
  exact K.nil_row (e := 3) (size := 1) (K.rets_v (none, 0) (.inl rfl) (by rw [he]; rfl) rfl (List.Sublist.cons_cons _ (List.nil_sublist _)))

set_option maxRecDepth 100000 in
theorem f30 {m : Mod} {A B C : Option Addr} {c d e : Nat} {eye : Int} {w : World} (hH : K.Rd w A 1 K.eI m.hs) (hP : K.Rd w B 5 eN m.ps) (hS : K.Rd w C 4 eS m.ss) (hn : m.hs.length ≤ 4611686018427387904) (hm : m.ps.length ≤ 4611686018427387904) (hk : m.ss.length ≤ 4611686018427387904) (hcd : m.ps.length ≤ d) (hc : (chk m).2.2 = 0) (hey : ¬ (0 ≤ eye ∧ eye ≤ 2000)) :
    Calls Tryd.prog 30 [.agg #[.int .i64 m.W, .int .i64 m.D, .slice A m.hs.length c, .slice B m.ps.length d, .slice C m.ss.length e], .int .i64 eye].toArray w (K.Ret (fun r : Option Addr × Nat => (bestR m eye).2.2.length = 0 ∨ ∃ b, r.1 = some ⟨b, 0, none⟩) (fun r => .tuple #[.int .i64 (bestR m eye).1, .int .i64 (bestR m eye).2.1, .slice r.1 (bestR m eye).2.2.length r.2, .int .i64 (bestE m eye)]) (fun r => [K.row (.slice r.1 (bestR m eye).2.2.length r.2) 3 1 (bestR m eye).2.2.length ((bestR m eye).2.2.flatMap K.eI)]) w) := by
  have he : bestE m eye = 7 := by unfold bestE; rw [if_neg (by omega), if_pos hey]
  refine K.enter (args := [.agg #[.int .i64 m.W, .int .i64 m.D, .slice A m.hs.length c, .slice B m.ps.length d, .slice C m.ss.length e], .int .i64 eye]) Tryd.func30 rfl (n := 72) rfl ?_
  simp only [List.replicate, List.cons_append, List.nil_append]
  refine sr ?_
  refine K.seq_new (K.box) rfl ?_
  intro b2
  refine zN ?_
  iterate 4 refine qa ?_
  refine sn ?_
  refine sr ?_
  refine K.seq_sil (K.loadA_own ag_26 rfl (K.m0) rfl) rfl ?_
  refine zN ?_
  refine K.seq_loud (K.call_f cal_67 (fun F w hF hw => g67 (hH.pass hw) (hP.pass hw) (hS.pass hw) hn hm hk hcd (chk_e0 hc))) rfl ?_
  rintro q _
  refine zN ?_
  refine qm ?_
  refine qx ?_
  refine qx ?_
  iterate 2 refine qa ?_
  refine sn ?_
  refine K.seq ?_
  refine K.block ?_
  refine sr ?_
  refine qm ?_
  refine qp (K.neq rfl rfl) ?_
  refine qa ?_
  refine sn ?_
  refine K.cond_false (by rfl) ?_
  refine sr ?_
  refine qm ?_
  refine K.seq_new (K.buildSlice (bs1 _)) rfl ?_
  intro b26
  refine zN ?_
  refine K.seq_call (K.call_g cal_50 (fun F w hF hw => c50_1 hw (hF _ (K.m0)))) rfl ?_
  refine zN ?_
  refine qa ?_
  refine sn ?_
  refine K.cond_true (by exact congrArg Value.bool (decide_eq_true hey)) ?_
  refine sr ?_
  iterate 4 refine qa ?_
  refine sn ?_
  refine K.ret ?_
  refine K.ret_block ?_
  refine K.ret_then ?_
  refine K.end_ret (fun w _ => K.res_t4 rfl w) ?_
  have hr : bestR m eye = (0, 0, []) := by unfold bestR; rw [if_neg (by omega)]
  rw [hr]
  exact K.nil_row (e := 3) (size := 1) (K.rets_v (none, 0) (.inl rfl) (by rw [he]; rfl) rfl (List.Sublist.cons_cons _ (List.nil_sublist _)))

set_option maxRecDepth 100000 in
set_option maxHeartbeats 1000000 in
theorem g30 {m : Mod} {A B C : Option Addr} {c d e : Nat} {eye : Int} {w : World} (hH : K.Rd w A 1 K.eI m.hs) (hP : K.Rd w B 5 eN m.ps) (hS : K.Rd w C 4 eS m.ss) (hn : m.hs.length ≤ 4611686018427387904) (hm : m.ps.length ≤ 4611686018427387904) (hk : m.ss.length ≤ 4611686018427387904) (hcd : m.ps.length ≤ d) (hT : Tab w) (hc : (chk m).2.2 = 0) (hey : 0 ≤ eye ∧ eye ≤ 2000) :
    Calls Tryd.prog 30 [.agg #[.int .i64 m.W, .int .i64 m.D, .slice A m.hs.length c, .slice B m.ps.length d, .slice C m.ss.length e], .int .i64 eye].toArray w (K.Ret (fun r : Option Addr × Nat => (bestR m eye).2.2.length = 0 ∨ ∃ b, r.1 = some ⟨b, 0, none⟩) (fun r => .tuple #[.int .i64 (bestR m eye).1, .int .i64 (bestR m eye).2.1, .slice r.1 (bestR m eye).2.2.length r.2, .int .i64 (bestE m eye)]) (fun r => [K.row (.slice r.1 (bestR m eye).2.2.length r.2) 3 1 (bestR m eye).2.2.length ((bestR m eye).2.2.flatMap K.eI)]) w) := by
  have g : Good m := chk_good hc
  have hgw := g.w
  have hgd := g.d
  have hgn := g.n
  have he : bestE m eye = 0 := by unfold bestE; rw [if_neg (by omega), if_neg (by omega)]
  have hr : bestR m eye = ((bestA m eye).1, (bestA m eye).2.1, (bestA m eye).2.2.1) := by unfold bestR; rw [if_pos he]
  rw [hr, he]
  refine K.enter (args := [.agg #[.int .i64 m.W, .int .i64 m.D, .slice A m.hs.length c, .slice B m.ps.length d, .slice C m.ss.length e], .int .i64 eye]) Tryd.func30 rfl (n := 72) rfl ?_
  simp only [List.replicate, List.cons_append, List.nil_append]
  refine sr ?_
  refine K.seq_new (K.box) rfl ?_
  intro b2
  refine zN ?_
  iterate 4 refine qa ?_
  refine sn ?_
  refine sr ?_
  refine K.seq_sil (K.loadA_own ag_26 rfl (K.m0) rfl) rfl ?_
  refine zN ?_
  refine K.seq_loud (K.call_f cal_67 (fun F w hF hw => g67 (hH.pass hw) (hP.pass hw) (hS.pass hw) hn hm hk hcd (chk_e0 hc))) rfl ?_
  rintro q _
  refine zN ?_
  refine qm ?_
  refine qx ?_
  refine qx ?_
  iterate 2 refine qa ?_
  refine sn ?_
  refine K.seq ?_
  refine K.block ?_
  refine sr ?_
  refine qm ?_
  refine qp (K.neq rfl rfl) ?_
  refine qa ?_
  refine sn ?_
  refine K.cond_false (by rfl) ?_
  refine sr ?_
  refine qm ?_
  refine K.seq_new (K.buildSlice (bs1 _)) rfl ?_
  intro b26
  refine zN ?_
  refine K.seq_call (K.call_g cal_50 (fun F w hF hw => c50_1 hw (hF _ (K.m0)))) rfl ?_
  refine zN ?_
  refine qa ?_
  refine sn ?_
  refine K.cond_false (by exact congrArg Value.bool (decide_eq_false (by omega))) ?_
  refine K.skip ?_
  refine K.norm_block ?_
  refine K.norm_then ?_
  refine sr ?_
  refine K.nil_row (e := 3) (size := 1) ?_
  refine qa ?_
  refine sn ?_
  refine K.seq ?_
  refine K.seq ?_
  refine K.weak (List.Sublist.cons_cons _ (List.Sublist.cons _ (List.Sublist.cons_cons _ (List.Sublist.cons_cons _ (List.Sublist.slnil))))) ?_
  refine K.region_lit ?_
  refine qp (K.fieldAddr_lit fo_26_1 rfl) ?_
  refine K.seq_sil (K.load1_own one_3 rfl (K.m2) rfl) rfl ?_
  refine zN ?_
  refine qp (K.add_i64 rfl rfl (by omega)) ?_
  refine qm ?_
  refine sn ?_
  refine K.block ?_
  refine K.loopW [4, 5, 6, 9, 31] [10, 11, 12, 13, 14, 32, 33, 34, 35, 36, 37, 38, 39, 40, 41, 42, 43, 44, 45, 46, 47, 48, 49, 50, 51, 52, 53, 54, 55, 56, 57, 58, 59, 60, 61, 62, 63, 64, 65, 66, 67, 68, 69, 70] (fun vi L => ∃ (b : Nat) (Q1 : Option Addr) (q1 : Nat), vi = [.int .i64 (outK m eye b).1, .int .i64 (outK m eye b).2.1, .slice Q1 (outK m eye b).2.2.1.length q1, .int .i64 (outK m eye b).2.2.2, .int .i64 (b : Int)] ∧ L = [K.row (.slice Q1 (outK m eye b).2.2.1.length q1) 3 1 (outK m eye b).2.2.1.length ((outK m eye b).2.2.1.flatMap K.eI), K.blk q 101 (mdl m A B C c d e), K.blk b2 26 [.int .i64 m.W, .int .i64 m.D, .slice A m.hs.length c, .slice B m.ps.length d, .slice C m.ss.length e]] ∧ (b : Int) ≤ m.D + 2) (fun vi => (m.D + 2).toNat - (intOf (K.nth vi 4)).toNat) ?_ ?_
  · exact ⟨0, none, 0, rfl, rfl, by omega⟩
  intro vi vr L hJ
  obtain ⟨b, Q1, q1, rfl, rfl, hbn⟩ := hJ
  have hok := outK_ok (m := m) (eye := eye) b
  try dsimp only [setd, setn, ev, nth, over, cl, eI, eP, eT, eN, eS, setM, setF, List.map, List.append, List.drop, List.take]
  refine sr ?_
  refine qp (K.lss rfl rfl) ?_
  refine sn ?_
  refine K.seq ?_
  refine K.cond rfl (fun ht32 => ?_) (fun ht32 => ?_)
  · try replace ht32 := of_decide_eq_true ht32
    have hbD : (b : Int) < m.D + 2 := by omega
    refine K.skip ?_
    refine K.norm_then ?_
    refine K.seq ?_
    refine K.block ?_
    refine sr ?_
    refine qm ?_
    refine qa ?_
    refine sn ?_
    refine sr ?_
    refine qp (K.fieldAddr_lit fo_26_0 rfl) ?_
    refine K.seq_sil (K.load1_own one_3 rfl (K.m2) rfl) rfl ?_
    refine zN ?_
    refine qp (K.add_i64 rfl rfl (by omega)) ?_
    refine qm ?_
    refine sn ?_
    refine K.block ?_
    refine K.loopW [4, 5, 6, 9, 37] [11, 12, 13, 14, 38, 39, 40, 41, 42, 43, 44, 45, 46, 47, 48, 49, 50, 51, 52, 53, 54, 55, 56, 57, 58, 59, 60, 61, 62, 63, 64, 65, 66, 67, 68, 69] (fun vi L => ∃ (a : Nat) (Q1 : Option Addr) (q1 : Nat), vi = [.int .i64 (inK m eye b (outK m eye b) a).1, .int .i64 (inK m eye b (outK m eye b) a).2.1, .slice Q1 (inK m eye b (outK m eye b) a).2.2.1.length q1, .int .i64 (inK m eye b (outK m eye b) a).2.2.2, .int .i64 (a : Int)] ∧ L = [K.row (.slice Q1 (inK m eye b (outK m eye b) a).2.2.1.length q1) 3 1 (inK m eye b (outK m eye b) a).2.2.1.length ((inK m eye b (outK m eye b) a).2.2.1.flatMap K.eI), K.blk q 101 (mdl m A B C c d e), K.blk b2 26 [.int .i64 m.W, .int .i64 m.D, .slice A m.hs.length c, .slice B m.ps.length d, .slice C m.ss.length e]] ∧ (a : Int) ≤ m.W + 2) (fun vi => (m.W + 2).toNat - (intOf (K.nth vi 4)).toNat) ?_ ?_
    · exact ⟨0, Q1, q1, rfl, rfl, by omega⟩
    intro vi vr L hJ
    obtain ⟨a, Q1, q1, rfl, rfl, han⟩ := hJ
    have hok2 := inK_ok (eye := eye) (b := b) hok a
    unfold AccOK at hok2
    try dsimp only [setd, setn, ev, nth, over, cl, eI, eP, eT, eN, eS, setM, setF, List.map, List.append, List.drop, List.take]
    refine sr ?_
    refine qp (K.lss rfl rfl) ?_
    refine sn ?_
    refine K.seq ?_
    refine K.cond rfl (fun ht38 => ?_) (fun ht38 => ?_)
    · try replace ht38 := of_decide_eq_true ht38
      have haW : (a : Int) < m.W + 2 := by omega
      refine K.skip ?_
      refine K.norm_then ?_
      refine K.seq ?_
      refine K.block ?_
      refine sr ?_
      refine qm ?_
      refine qa ?_
      refine sn ?_
      refine sr ?_
      refine qm ?_
      refine qp (K.sub_i64 rfl rfl (by omega)) ?_
      refine qm ?_
      refine qp (K.sub_i64 rfl rfl (by omega)) ?_
      refine K.seq_pure (K.build (bl80 _ _)) rfl ?_
      refine zN ?_
      refine K.seq_new (K.alloc zr_80) rfl ?_
      intro b12
      refine zN ?_
      refine K.seq_st (K.store_all sz_80 rfl rfl rfl rfl (K.rp0)) rfl ?_
      refine zN ?_
      refine sn ?_
      refine K.seq ?_
      refine sr ?_
      refine K.seq_sil (K.loadA_own ag_26 rfl (K.m3) rfl) rfl ?_
      refine zN ?_
      refine K.seq_sil (K.loadA_own ag_80 rfl (K.m0) rfl) rfl ?_
      refine zN ?_
      refine K.seq_call (K.call_g cal_56 (fun F w hF hw => c56 g.w g.d)) rfl ?_
      refine zN ?_
      refine sn ?_
      refine K.cond rfl (fun ht47 => ?_) (fun ht47 => ?_)
      · try replace ht47 := of_decide_eq_true ht47
        refine K.exit ?_
        refine K.exit_then ?_
        refine K.exit_here ?_
        refine K.norm_then ?_
        refine K.region_lit ?_
        refine qp (K.add_i64 rfl rfl (by omega)) ?_
        refine qm ?_
        refine K.seq_nil ?_
        have hin : inK m eye b (outK m eye b) (a + 1) = inK m eye b (outK m eye b) a := bstep_on ht47
        exact K.round_endW (L'' := [K.row (.slice Q1 (inK m eye b (outK m eye b) a).2.2.1.length q1) 3 1 (inK m eye b (outK m eye b) a).2.2.1.length ((inK m eye b (outK m eye b) a).2.2.1.flatMap K.eI), K.blk q 101 (mdl m A B C c d e), K.blk b2 26 [.int .i64 m.W, .int .i64 m.D, .slice A m.hs.length c, .slice B m.ps.length d, .slice C m.ss.length e]]) [.int .i64 (inK m eye b (outK m eye b) a).1, .int .i64 (inK m eye b (outK m eye b) a).2.1, .slice Q1 (inK m eye b (outK m eye b) a).2.2.1.length q1, .int .i64 (inK m eye b (outK m eye b) a).2.2.2, .int .i64 ((a : Int) + 1)] ⟨a + 1, Q1, q1, by rw [hin]; rfl, by rw [hin], by omega⟩ (by simp [K.nth, intOf]; omega) (by repeat (first | exact List.Sublist.refl _ | apply List.Sublist.cons)) (by kernel_rfl)
      try replace ht47 := of_decide_eq_false ht47
      refine K.skip ?_
      refine K.norm_then ?_
      refine K.seq ?_
      refine K.draw_L [] Tryd_mixed ?_
      refine K.d_pure 0 rfl (K.move) (by kernel_rfl) rfl ?_
      refine zn ?_
      refine K.d_pure 1 rfl (K.move) (by kernel_rfl) rfl ?_
      refine zn ?_
      refine K.d_pure 2 rfl (K.nilCheck rfl) (by kernel_rfl) rfl ?_
      refine zn ?_
      refine K.d_pure 3 rfl (K.fieldAddr_lit fo_101_1 rfl) (by kernel_rfl) rfl ?_
      refine zn ?_
      refine K.d_mem 4 rfl (K.loadA_own ag_98 rfl (K.m2) rfl) (fun _ h => h) (by kernel_rfl) (by kernel_rfl) rfl ?_
      refine zN ?_
      refine K.d_mem 5 rfl (K.loadA_own ag_80 rfl (K.m0) rfl) (fun _ h => h) (by kernel_rfl) (by kernel_rfl) rfl ?_
      refine zN ?_
      refine K.d_pure 6 rfl (K.move) (by kernel_rfl) rfl ?_
      refine zn ?_
      refine K.d_call 7 rfl (K.call_g cal_69 (fun F w hF hw => c69 (l := ownS m) (K.PtrL.now hw (hF _ (K.m2))) (K.blk_lt hw (hF _ (K.m2))) (hP.pass hw) g g.lb (by omega) (by omega) (by omega))) (fun _ h => h) (by kernel_rfl) rfl ?_
      refine zN ?_
      refine K.d_pure 8 rfl (K.assign) (by kernel_rfl) rfl ?_
      refine zn ?_
      refine K.d_done (by kernel_rfl) ?_
      refine K.norm_then ?_
      refine sr ?_
      refine qm ?_
      refine K.seq_pure (K.Pure.eq (K.conv_int ik_3 ik_124 rfl) (show _ = Value.int .u64 (setN (seesB m (ownS m) ((a : Int) - 1) ((b : Int) - 1) eye) m.ps.length) from by rw [IntWalk.u64_in _ (by have := setN_63 (p := seesB m (ownS m) ((a : Int) - 1) ((b : Int) - 1) eye) g.n; omega)])) rfl ?_
      refine zN ?_
      refine K.seq_call (K.call_g cal_80 (fun F w hF hw => (by have hh := c80 (x := (setN (seesB m (ownS m) ((a : Int) - 1) ((b : Int) - 1) eye) m.ps.length)) (setN_63 g.n) w; rw [bits_set g.n] at hh; exact hh))) rfl ?_
      refine zN ?_
      refine qa ?_
      refine sn ?_
      refine sr ?_
      iterate 2 refine qm ?_
      refine qp (K.gtr rfl rfl) ?_
      refine sn ?_
      refine K.cond rfl (fun ht61 => ?_) (fun ht61 => ?_)
      · try replace ht61 := of_decide_eq_true ht61
        refine K.draw_L [] Tryd_mixed ?_
        refine K.d_pure 0 rfl (K.fieldAddr_lit fo_80_0 rfl) (by kernel_rfl) rfl ?_
        refine zn ?_
        refine K.d_mem 1 rfl (K.load1_own one_3 rfl (K.m0) rfl) (fun _ h => h) (by kernel_rfl) (by kernel_rfl) rfl ?_
        refine zN ?_
        refine K.d_pure 2 rfl (K.fieldAddr_lit fo_80_1 rfl) (by kernel_rfl) rfl ?_
        refine zn ?_
        refine K.d_mem 3 rfl (K.load1_own one_3 rfl (K.m0) rfl) (fun _ h => h) (by kernel_rfl) (by kernel_rfl) rfl ?_
        refine zN ?_
        refine K.d_pure 4 rfl (K.move) (by kernel_rfl) rfl ?_
        refine zn ?_
        refine K.d_pure 6 rfl (K.move) (by kernel_rfl) rfl ?_
        refine zn ?_
        refine K.d_loud 5 rfl (K.call_f cal_68 (fun F w hF hw => (by have hh := c68 (hT.pass hw) (s := (setN (seesB m (ownS m) ((a : Int) - 1) ((b : Int) - 1) eye) m.ps.length)) (setN_63 g.n); rw [bits_set g.n] at hh; exact hh))) (fun _ h => h) (by kernel_rfl) rfl ?_
        rintro ⟨Q2, q2⟩ hq2
        refine zN ?_
        refine K.d_pure 7 rfl (K.assign) (by kernel_rfl) rfl ?_
        refine zn ?_
        refine K.d_pure 8 rfl (K.assign) (by kernel_rfl) rfl ?_
        refine zn ?_
        refine K.d_pure 9 rfl (K.assign) (by kernel_rfl) rfl ?_
        refine zn ?_
        refine K.d_pure 10 rfl (K.assign) (by kernel_rfl) rfl ?_
        refine zn ?_
        refine K.d_done (by kernel_rfl) ?_
        refine K.norm_block ?_
        refine K.norm_then ?_
        refine K.region_lit ?_
        refine qp (K.add_i64 rfl rfl (by omega)) ?_
        refine qm ?_
        refine K.seq_nil ?_
        have hin : inK m eye b (outK m eye b) (a + 1) = (((a : Int) - 1), ((b : Int) - 1), (fromL m ((a : Int) - 1) ((b : Int) - 1) eye), ((fromL m ((a : Int) - 1) ((b : Int) - 1) eye).length : Int)) := bstep_gt ht47 ht61
        exact K.round_endW (L'' := [K.row (.slice Q2 (fromL m ((a : Int) - 1) ((b : Int) - 1) eye).length q2) 3 1 (fromL m ((a : Int) - 1) ((b : Int) - 1) eye).length ((fromL m ((a : Int) - 1) ((b : Int) - 1) eye).flatMap K.eI), K.blk q 101 (mdl m A B C c d e), K.blk b2 26 [.int .i64 m.W, .int .i64 m.D, .slice A m.hs.length c, .slice B m.ps.length d, .slice C m.ss.length e]]) [.int .i64 ((a : Int) - 1), .int .i64 ((b : Int) - 1), .slice Q2 (fromL m ((a : Int) - 1) ((b : Int) - 1) eye).length q2, .int .i64 ((fromL m ((a : Int) - 1) ((b : Int) - 1) eye).length : Int), .int .i64 ((a : Int) + 1)] ⟨a + 1, Q2, q2, by rw [hin]; rfl, by rw [hin], by omega⟩ (by simp [K.nth, intOf]; omega) (List.Sublist.cons_cons _ (by repeat (first | exact List.Sublist.refl _ | apply List.Sublist.cons))) (by kernel_rfl)
      try replace ht61 := of_decide_eq_false ht61
      refine K.skip ?_
      refine K.norm_block ?_
      refine K.norm_then ?_
      refine K.region_lit ?_
      refine qp (K.add_i64 rfl rfl (by omega)) ?_
      refine qm ?_
      refine K.seq_nil ?_
      have hin : inK m eye b (outK m eye b) (a + 1) = inK m eye b (outK m eye b) a := bstep_le ht47 ht61
      exact K.round_endW (L'' := [K.row (.slice Q1 (inK m eye b (outK m eye b) a).2.2.1.length q1) 3 1 (inK m eye b (outK m eye b) a).2.2.1.length ((inK m eye b (outK m eye b) a).2.2.1.flatMap K.eI), K.blk q 101 (mdl m A B C c d e), K.blk b2 26 [.int .i64 m.W, .int .i64 m.D, .slice A m.hs.length c, .slice B m.ps.length d, .slice C m.ss.length e]]) [.int .i64 (inK m eye b (outK m eye b) a).1, .int .i64 (inK m eye b (outK m eye b) a).2.1, .slice Q1 (inK m eye b (outK m eye b) a).2.2.1.length q1, .int .i64 (inK m eye b (outK m eye b) a).2.2.2, .int .i64 ((a : Int) + 1)] ⟨a + 1, Q1, q1, by rw [hin]; rfl, by rw [hin], by omega⟩ (by simp [K.nth, intOf]; omega) (by repeat (first | exact List.Sublist.refl _ | apply List.Sublist.cons)) (by kernel_rfl)
    try replace ht38 := of_decide_eq_false ht38
    refine K.exit ?_
    refine K.exit_then ?_
    refine K.exit_then ?_
    refine K.exit_here ?_
    refine K.norm_block ?_
    refine K.norm_then ?_
    refine K.region_lit ?_
    refine qp (K.add_i64 rfl rfl (by omega)) ?_
    refine qm ?_
    refine K.seq_nil ?_
    have hout : outK m eye (b + 1) = inK m eye b (outK m eye b) a := by rw [outK, show (m.W + 2).toNat = a by omega]
    exact K.round_endW (L'' := [K.row (.slice Q1 (inK m eye b (outK m eye b) a).2.2.1.length q1) 3 1 (inK m eye b (outK m eye b) a).2.2.1.length ((inK m eye b (outK m eye b) a).2.2.1.flatMap K.eI), K.blk q 101 (mdl m A B C c d e), K.blk b2 26 [.int .i64 m.W, .int .i64 m.D, .slice A m.hs.length c, .slice B m.ps.length d, .slice C m.ss.length e]]) [.int .i64 (inK m eye b (outK m eye b) a).1, .int .i64 (inK m eye b (outK m eye b) a).2.1, .slice Q1 (inK m eye b (outK m eye b) a).2.2.1.length q1, .int .i64 (inK m eye b (outK m eye b) a).2.2.2, .int .i64 ((b : Int) + 1)] ⟨b + 1, Q1, q1, by rw [hout]; rfl, by rw [hout], by omega⟩ (by simp [K.nth, intOf]; omega) (by repeat (first | exact List.Sublist.refl _ | apply List.Sublist.cons)) (by kernel_rfl)
  try replace ht32 := of_decide_eq_false ht32
  refine K.exit ?_
  refine K.exit_then ?_
  refine K.exit_then ?_
  refine K.exit_here ?_
  refine K.norm_then ?_
  refine sr ?_
  iterate 3 refine qm ?_
  iterate 4 refine qa ?_
  refine sn ?_
  refine K.ret ?_
  refine K.end_ret (fun w _ => K.res_t4 rfl w) ?_
  have e0 : b = (m.D + 2).toNat := by omega
  subst e0
  exact K.use_row K.m0 (fun hQ => K.rets_v (Q1, q1) hQ rfl rfl (List.Sublist.cons_cons _ (List.nil_sublist _)))

theorem c30 {m : Mod} {A B C : Option Addr} {c d e : Nat} {eye : Int} {w : World} (hH : K.Rd w A 1 K.eI m.hs) (hP : K.Rd w B 5 eN m.ps) (hS : K.Rd w C 4 eS m.ss) (hn : m.hs.length ≤ 4611686018427387904) (hm : m.ps.length ≤ 4611686018427387904) (hk : m.ss.length ≤ 4611686018427387904) (hcd : m.ps.length ≤ d) (hT : Tab w) : Calls Tryd.prog 30 [.agg #[.int .i64 m.W, .int .i64 m.D, .slice A m.hs.length c, .slice B m.ps.length d, .slice C m.ss.length e], .int .i64 eye].toArray w (K.Ret (fun r : Option Addr × Nat => (bestR m eye).2.2.length = 0 ∨ ∃ b, r.1 = some ⟨b, 0, none⟩) (fun r => .tuple #[.int .i64 (bestR m eye).1, .int .i64 (bestR m eye).2.1, .slice r.1 (bestR m eye).2.2.length r.2, .int .i64 (bestE m eye)]) (fun r => [K.row (.slice r.1 (bestR m eye).2.2.length r.2) 3 1 (bestR m eye).2.2.length ((bestR m eye).2.2.flatMap K.eI)]) w) := by
  by_cases hc : (chk m).2.2 = 0
  · by_cases hey : 0 ≤ eye ∧ eye ≤ 2000
    · exact g30 hH hP hS hn hm hk hcd hT hc hey
    · exact f30 hH hP hS hn hm hk hcd hc hey
  · exact e30 hH hP hS hn hm hk hcd hc


end Go.Proofs.YthkgnhcknkjgdaaDoor
