/-
  Walks of the program's functions, printed by program: what each returns.
  Conditions stand in each theorem.
-/
import Derived.WalkArith
import Derived.Laws.Closers25b
import Derived.Test.YthkgnhcknkjgdaaDoorS7
import Derived.Test.YthkgnhcknkjgdaaDoorK9
import Derived.Test.YthkgnhcknkjgdaaDoorWx
set_option linter.unusedSimpArgs false
set_option linter.unusedVariables false
namespace Go.Proofs.YthkgnhcknkjgdaaDoor
open Go.RowKit Go
open Go.K (setd setn ev nth over cl eI eP eT setM setF)
attribute [local irreducible] K.blk K.row
theorem bl61 (a b : Int) : K.Bl Tryd.prog 61 [(0, .int .i64 a), (1, .int .i64 b)] (.agg #[.int .i64 a, .int .i64 b]) := fun w => by kernel_rfl
theorem bl63 (x y a b : Int) : K.Bl Tryd.prog 63 [(0, .int .i64 x), (1, .int .i64 y), (2, .agg #[.int .i64 a, .int .i64 b])] (.agg #[.int .i64 x, .int .i64 y, .int .i64 a, .int .i64 b]) := fun w => by kernel_rfl
theorem bs2S (x y a b u v c d : Int) : K.Bs Tryd.prog 24 2 [(0, .agg #[.int .i64 x, .int .i64 y, .int .i64 a, .int .i64 b]), (1, .agg #[.int .i64 u, .int .i64 v, .int .i64 c, .int .i64 d])] 63 [.int .i64 x, .int .i64 y, .int .i64 a, .int .i64 b, .int .i64 u, .int .i64 v, .int .i64 c, .int .i64 d] := fun w => by kernel_rfl

set_option maxRecDepth 100000 in
theorem e11 {m : Mod} {A B C : Option Addr} {c d e : Nat} {e0 x0 x1 n : Int} {w : World} (hH : K.Rd w A 1 K.eI m.hs) (hP : K.Rd w B 5 eN m.ps) (hS : K.Rd w C 4 eS m.ss) (hn : m.hs.length ≤ 4611686018427387904) (hm : m.ps.length ≤ 4611686018427387904) (hk : m.ss.length ≤ 4611686018427387904) (hcd : m.ps.length ≤ d) (hT : Tab w) (he0 : 0 ≤ e0 ∧ e0 ≤ 65535) (hx0 : 0 ≤ x0 ∧ x0 ≤ 255) (hx1 : 0 ≤ x1 ∧ x1 ≤ 255) (hne : e0 % 2001 = n) (hc : (chk m).2.2 ≠ 0) :
    Calls Tryd.prog 11 [.agg #[.int .i64 m.W, .int .i64 m.D, .slice A m.hs.length c, .slice B m.ps.length d, .slice C m.ss.length e], .int .u16 e0, .agg #[.int .u8 x0, .int .u8 x1]].toArray w (K.Gives (.bool true) w) := by
  have hn2 : 0 ≤ n ∧ n ≤ 2000 := by omega
  have hbE : bestE m n = (chk m).2.2 := by unfold bestE; rw [if_pos hc]
  have hbR : bestR m n = (0, 0, []) := by unfold bestR; rw [if_neg (by rw [hbE]; exact hc)]
  refine K.enter (args := [.agg #[.int .i64 m.W, .int .i64 m.D, .slice A m.hs.length c, .slice B m.ps.length d, .slice C m.ss.length e], .int .u16 e0, .agg #[.int .u8 x0, .int .u8 x1]]) Tryd.func11 rfl (n := 194) rfl ?_
  simp only [List.replicate, List.cons_append, List.nil_append]
  refine sr ?_
  refine K.seq_new (K.box) rfl ?_
  intro b3
  refine zN ?_
  refine K.seq_new (K.box) rfl ?_
  intro b5
  refine zN ?_
  refine qa ?_
  refine sn ?_
  refine sr ?_
  refine qm ?_
  refine K.seq_pure (K.Pure.eq (K.conv_int ik_57 ik_3 rfl) (show _ = Value.int .i64 e0 from by rw [IntWalk.i64_in _ (by omega)])) rfl ?_
  refine zN ?_
  refine qp (K.Pure.eq (K.rem_i64 rfl rfl (by omega) (by omega)) (show _ = Value.int .i64 n from by rw [hne])) ?_
  refine qa ?_
  refine sn ?_
  refine sr ?_
  refine K.seq_sil (K.loadA_own ag_26 rfl (K.m1) rfl) rfl ?_
  refine zN ?_
  refine qm ?_
  refine K.seq_loud (K.call_f cal_30 (fun F w hF hw => (by have hh := c30 (c := c) (d := d) (e := e) (eye := n) (hH.pass hw) (hP.pass hw) (hS.pass hw) hn hm hk hcd (hT.pass hw); rw [hbR, hbE] at hh; exact hh))) rfl ?_
  rintro ⟨A1, a1⟩ hq1
  refine zN ?_
  refine qm ?_
  refine qx ?_
  refine qx ?_
  refine qx ?_
  refine qx ?_
  iterate 4 refine qa ?_
  refine sn ?_
  refine K.seq ?_
  refine sr ?_
  refine K.seq_sil (K.loadA_own ag_26 rfl (K.m2) rfl) rfl ?_
  refine zN ?_
  refine K.seq_call (K.call_g cal_37 (fun F w hF hw => c37 (hH.pass hw) (hP.pass hw) (hS.pass hw) hn hm hk)) rfl ?_
  refine zN ?_
  first | refine K.seq_pure (K.Pure.eq (K.not_d rfl) (show _ = Value.bool true from congrArg Value.bool (by simp [hc]))) rfl ?_ | refine K.seq_pure (K.Pure.eq (K.not_ rfl) (show _ = Value.bool true from congrArg Value.bool (by simp [hc]))) rfl ?_
  refine zN ?_
  refine sn ?_
  refine K.cond_true rfl ?_
  refine sr ?_
  refine qm ?_
  refine qp (K.Pure.eq (K.neq rfl rfl) (show _ = Value.bool true from congrArg Value.bool (by simp [hc]))) ?_
  iterate 2 refine qm ?_
  refine qp (K.len_sl sl_22 rfl) ?_
  refine qp (K.Pure.eq (K.eql rfl rfl) (show _ = Value.bool true from congrArg Value.bool (by simp))) ?_
  refine qp (K.pick_t rfl) ?_
  refine qm ?_
  refine K.seq_call (K.call_g cal_25 (fun F w hF hw => c25 (hT.pass hw))) rfl ?_
  refine zN ?_
  refine qp (K.pick_t rfl) ?_
  refine qa ?_
  refine sn ?_
  refine K.ret ?_
  refine K.ret_then ?_
  refine K.end_ret (fun w _ => K.res_tmp rfl w) ?_
  exact K.gives rfl

set_option maxRecDepth 100000 in
set_option maxHeartbeats 2000000 in
theorem g11 {m : Mod} {A B C : Option Addr} {c d e : Nat} {e0 x0 x1 n a b0 : Int} {w : World} (hH : K.Rd w A 1 K.eI m.hs) (hP : K.Rd w B 5 eN m.ps) (hS : K.Rd w C 4 eS m.ss) (hn : m.hs.length ≤ 4611686018427387904) (hm : m.ps.length ≤ 4611686018427387904) (hk : m.ss.length ≤ 4611686018427387904) (hcd : m.ps.length ≤ d) (hT : Tab w) (he0 : 0 ≤ e0 ∧ e0 ≤ 65535) (hx0 : 0 ≤ x0 ∧ x0 ≤ 255) (hx1 : 0 ≤ x1 ∧ x1 ≤ 255) (hne : e0 % 2001 = n) (hae : x0 % (m.W + 2) = a + 1) (hbe : x1 % (m.D + 2) = b0 + 1) (hc : (chk m).2.2 = 0) :
    Calls Tryd.prog 11 [.agg #[.int .i64 m.W, .int .i64 m.D, .slice A m.hs.length c, .slice B m.ps.length d, .slice C m.ss.length e], .int .u16 e0, .agg #[.int .u8 x0, .int .u8 x1]].toArray w (K.Gives (.bool true) w) := by
  have hv := hc
  have g := chk_good hc
  have hgw := g.w
  have hgd := g.d
  have hn2 : 0 ≤ n ∧ n ≤ 2000 := by omega
  have hbE : bestE m n = 0 := by unfold bestE; rw [if_neg (by omega), if_neg (by omega)]
  obtain ⟨hbs, hbest⟩ := best_spec (m := m) (eye := n) (by omega) (by omega)
  obtain ⟨bx, bY, bl, hbR, hbl, hbx, hby, hbn, hbest⟩ : ∃ (bx bY : Int) (bl : List Int), bestR m n = (bx, bY, bl) ∧ bl = fromL m bx bY n ∧ (-1 ≤ bx ∧ bx ≤ m.W) ∧ (-1 ≤ bY ∧ bY ≤ m.D) ∧ ¬ ((0 ≤ bx ∧ bx ≤ m.W - 1) ∧ (0 ≤ bY ∧ bY ≤ m.D - 1)) ∧ ∀ x y, (-1 ≤ x ∧ x ≤ m.W) → (-1 ≤ y ∧ y ≤ m.D) → ¬ onF m.W m.D x y → (fromL m x y n).length ≤ bl.length ∧ ((fromL m x y n).length = bl.length → bY < y ∨ bY = y ∧ bx ≤ x) :=
    ⟨_, _, _, by unfold bestR; rw [if_pos hbE], hbs.1, hbs.2.1, hbs.2.2.1, hbs.2.2.2, hbest⟩
  have hbll : bl.length ≤ 1000000 := by have := fromL_len (m := m) (x := bx) (y := bY) (eye := n); have := g.n; rw [hbl]; omega
  have ha := Int.emod_nonneg x0 (b := m.W + 2) (by omega)
  have ha' := Int.emod_lt_of_pos x0 (b := m.W + 2) (by omega)
  have hb := Int.emod_nonneg x1 (b := m.D + 2) (by omega)
  have hb' := Int.emod_lt_of_pos x1 (b := m.D + 2) (by omega)
  refine K.enter (args := [.agg #[.int .i64 m.W, .int .i64 m.D, .slice A m.hs.length c, .slice B m.ps.length d, .slice C m.ss.length e], .int .u16 e0, .agg #[.int .u8 x0, .int .u8 x1]]) Tryd.func11 rfl (n := 194) rfl ?_
  simp only [List.replicate, List.cons_append, List.nil_append]
  refine sr ?_
  refine K.seq_new (K.box) rfl ?_
  intro b3
  refine zN ?_
  refine K.seq_new (K.box) rfl ?_
  intro b5
  refine zN ?_
  refine qa ?_
  refine sn ?_
  refine sr ?_
  refine qm ?_
  refine K.seq_pure (K.Pure.eq (K.conv_int ik_57 ik_3 rfl) (show _ = Value.int .i64 e0 from by rw [IntWalk.i64_in _ (by omega)])) rfl ?_
  refine zN ?_
  refine qp (K.Pure.eq (K.rem_i64 rfl rfl (by omega) (by omega)) (show _ = Value.int .i64 n from by rw [hne])) ?_
  refine qa ?_
  refine sn ?_
  refine sr ?_
  refine K.seq_sil (K.loadA_own ag_26 rfl (K.m1) rfl) rfl ?_
  refine zN ?_
  refine qm ?_
  refine K.seq_loud (K.call_f cal_30 (fun F w hF hw => (by have hh := c30 (c := c) (d := d) (e := e) (eye := n) (hH.pass hw) (hP.pass hw) (hS.pass hw) hn hm hk hcd (hT.pass hw); rw [hbR, hbE] at hh; exact hh))) rfl ?_
  rintro ⟨A1, a1⟩ hq1
  refine zN ?_
  refine qm ?_
  refine qx ?_
  refine qx ?_
  refine qx ?_
  refine qx ?_
  iterate 4 refine qa ?_
  refine sn ?_
  refine K.seq ?_
  refine sr ?_
  refine K.seq_sil (K.loadA_own ag_26 rfl (K.m2) rfl) rfl ?_
  refine zN ?_
  refine K.seq_call (K.call_g cal_37 (fun F w hF hw => c37 (hH.pass hw) (hP.pass hw) (hS.pass hw) hn hm hk)) rfl ?_
  refine zN ?_
  first | refine K.seq_pure (K.Pure.eq (K.not_d rfl) (show _ = Value.bool false from congrArg Value.bool (by simp [hv]))) rfl ?_ | refine K.seq_pure (K.Pure.eq (K.not_ rfl) (show _ = Value.bool false from congrArg Value.bool (by simp [hv]))) rfl ?_
  refine zN ?_
  refine sn ?_
  refine K.cond_false rfl ?_
  refine K.skip ?_
  refine K.norm_then ?_
  refine K.seq ?_
  refine K.draw_L [] Tryd_mixed ?_
  refine K.d_pure 0 rfl (K.indexAddr_ar ar_56 rfl rfl (by omega) (by omega)) (by kernel_rfl) rfl ?_
  refine zN ?_
  refine K.d_mem 1 rfl (K.load1_own one_5 rfl (K.m1) rfl) (fun _ h => h) (by kernel_rfl) (by kernel_rfl) rfl ?_
  refine zN ?_
  refine K.d_pure 2 rfl (K.Pure.eq (K.conv_int ik_5 ik_3 rfl) (show _ = Value.int .i64 x0 from by rw [IntWalk.i64_in _ (by omega)])) (by kernel_rfl) rfl ?_
  refine zN ?_
  refine K.d_pure 3 rfl (K.fieldAddr_lit fo_26_0 rfl) (by kernel_rfl) rfl ?_
  refine zn ?_
  refine K.d_mem 4 rfl (K.load1_own one_3 rfl (K.m2) rfl) (fun _ h => h) (by kernel_rfl) (by kernel_rfl) rfl ?_
  refine zN ?_
  refine K.d_pure 5 rfl (K.add_i64 rfl rfl (by omega)) (by kernel_rfl) rfl ?_
  refine zn ?_
  refine K.d_pure 6 rfl (K.Pure.eq (K.rem_i64 rfl rfl (by omega) (by omega)) (show _ = Value.int .i64 (a + 1) from by rw [hae])) (by kernel_rfl) rfl ?_
  refine zn ?_
  refine K.d_pure 7 rfl (K.Pure.eq (K.sub_i64 rfl rfl (by omega)) (show _ = Value.int .i64 a from congrArg (Value.int .i64) (by omega))) (by kernel_rfl) rfl ?_
  refine zn ?_
  refine K.d_pure 8 rfl (K.indexAddr_ar ar_56 rfl rfl (by omega) (by omega)) (by kernel_rfl) rfl ?_
  refine zN ?_
  refine K.d_mem 9 rfl (K.load1_own one_5 rfl (K.m1) rfl) (fun _ h => h) (by kernel_rfl) (by kernel_rfl) rfl ?_
  refine zN ?_
  refine K.d_pure 10 rfl (K.Pure.eq (K.conv_int ik_5 ik_3 rfl) (show _ = Value.int .i64 x1 from by rw [IntWalk.i64_in _ (by omega)])) (by kernel_rfl) rfl ?_
  refine zN ?_
  refine K.d_pure 11 rfl (K.fieldAddr_lit fo_26_1 rfl) (by kernel_rfl) rfl ?_
  refine zn ?_
  refine K.d_mem 12 rfl (K.load1_own one_3 rfl (K.m2) rfl) (fun _ h => h) (by kernel_rfl) (by kernel_rfl) rfl ?_
  refine zN ?_
  refine K.d_pure 13 rfl (K.add_i64 rfl rfl (by omega)) (by kernel_rfl) rfl ?_
  refine zn ?_
  refine K.d_pure 14 rfl (K.Pure.eq (K.rem_i64 rfl rfl (by omega) (by omega)) (show _ = Value.int .i64 (b0 + 1) from by rw [hbe])) (by kernel_rfl) rfl ?_
  refine zn ?_
  refine K.d_pure 15 rfl (K.Pure.eq (K.sub_i64 rfl rfl (by omega)) (show _ = Value.int .i64 b0 from congrArg (Value.int .i64) (by omega))) (by kernel_rfl) rfl ?_
  refine zn ?_
  refine K.d_pure 16 rfl (K.assign) (by kernel_rfl) rfl ?_
  refine zn ?_
  refine K.d_pure 17 rfl (K.assign) (by kernel_rfl) rfl ?_
  refine zn ?_
  refine K.d_done (by kernel_rfl) ?_
  refine K.norm_then ?_
  refine K.seqJ [13] [63, 64, 65, 66, 67, 68, 69, 70, 71, 72, 73, 74, 75, 76, 77, 78, 79, 80] (fun vi L => ∃ b : Int, vi = [.int .i64 b] ∧ L = [K.row (.slice A1 bl.length a1) 3 1 bl.length (bl.flatMap K.eI), K.blk b5 56 [.int .u8 x0, .int .u8 x1], K.blk b3 26 [.int .i64 m.W, .int .i64 m.D, .slice A m.hs.length c, .slice B m.ps.length d, .slice C m.ss.length e]] ∧ (-1 ≤ b ∧ b ≤ m.D) ∧ ¬ ((0 ≤ a ∧ a ≤ m.W - 1) ∧ (0 ≤ b ∧ b ≤ m.D - 1))) ?_ ?_
  · refine sr ?_
    refine qm ?_
    refine qp (K.geq rfl rfl) ?_
    refine qm ?_
    refine K.split 65 rfl (fun hg65 => ?_) (fun hg65 => ?_)
    · try replace hg65 := of_decide_eq_true hg65
      refine qm ?_
      refine qp (K.fieldAddr_lit fo_26_0 rfl) ?_
      refine K.seq_sil (K.load1_own one_3 rfl (K.m2) rfl) rfl ?_
      refine zN ?_
      refine qp (K.lss rfl rfl) ?_
      refine qp (K.pick_t rfl) ?_
      refine qm ?_
      refine K.split 71 rfl (fun hg71 => ?_) (fun hg71 => ?_)
      · try replace hg71 := of_decide_eq_true hg71
        refine qm ?_
        refine qp (K.geq rfl rfl) ?_
        refine qp (K.pick_t rfl) ?_
        refine qm ?_
        refine K.split 75 rfl (fun hg75 => ?_) (fun hg75 => ?_)
        · try replace hg75 := of_decide_eq_true hg75
          refine qm ?_
          refine qp (K.fieldAddr_lit fo_26_1 rfl) ?_
          refine K.seq_sil (K.load1_own one_3 rfl (K.m2) rfl) rfl ?_
          refine zN ?_
          refine qp (K.lss rfl rfl) ?_
          refine qp (K.pick_t rfl) ?_
          refine sn ?_
          refine K.cond rfl (fun ht80 => ?_) (fun ht80 => ?_)
          · try replace ht80 := of_decide_eq_true ht80
            refine K.region_lit ?_
            refine qa ?_
            refine K.seq_nil ?_
            exact K.join_here (L' := [K.row (.slice A1 bl.length a1) 3 1 bl.length (bl.flatMap K.eI), K.blk b5 56 [.int .u8 x0, .int .u8 x1], K.blk b3 26 [.int .i64 m.W, .int .i64 m.D, .slice A m.hs.length c, .slice B m.ps.length d, .slice C m.ss.length e]]) [.int .i64 (-1)] ⟨(-1), rfl, rfl, by omega, by omega⟩ (fun w h => h) (by kernel_rfl)
          try replace ht80 := of_decide_eq_false ht80
          refine K.skip ?_
          exact K.join_here (L' := [K.row (.slice A1 bl.length a1) 3 1 bl.length (bl.flatMap K.eI), K.blk b5 56 [.int .u8 x0, .int .u8 x1], K.blk b3 26 [.int .i64 m.W, .int .i64 m.D, .slice A m.hs.length c, .slice B m.ps.length d, .slice C m.ss.length e]]) [.int .i64 b0] ⟨b0, rfl, rfl, by omega, by omega⟩ (fun w h => h) (by kernel_rfl)
        try replace hg75 := of_decide_eq_false hg75
        iterate 4 refine qs ?_
        refine qp (K.pick_f rfl) ?_
        refine sn ?_
        refine K.cond_false rfl ?_
        refine K.skip ?_
        exact K.join_here (L' := [K.row (.slice A1 bl.length a1) 3 1 bl.length (bl.flatMap K.eI), K.blk b5 56 [.int .u8 x0, .int .u8 x1], K.blk b3 26 [.int .i64 m.W, .int .i64 m.D, .slice A m.hs.length c, .slice B m.ps.length d, .slice C m.ss.length e]]) [.int .i64 b0] ⟨b0, rfl, rfl, by omega, by omega⟩ (fun w h => h) (by kernel_rfl)
      try replace hg71 := of_decide_eq_false hg71
      iterate 2 refine qs ?_
      refine qp (K.pick_f rfl) ?_
      refine qm ?_
      iterate 4 refine qs ?_
      refine qp (K.pick_f rfl) ?_
      refine sn ?_
      refine K.cond_false rfl ?_
      refine K.skip ?_
      exact K.join_here (L' := [K.row (.slice A1 bl.length a1) 3 1 bl.length (bl.flatMap K.eI), K.blk b5 56 [.int .u8 x0, .int .u8 x1], K.blk b3 26 [.int .i64 m.W, .int .i64 m.D, .slice A m.hs.length c, .slice B m.ps.length d, .slice C m.ss.length e]]) [.int .i64 b0] ⟨b0, rfl, rfl, by omega, by omega⟩ (fun w h => h) (by kernel_rfl)
    try replace hg65 := of_decide_eq_false hg65
    iterate 4 refine qs ?_
    refine qp (K.pick_f rfl) ?_
    refine qm ?_
    iterate 2 refine qs ?_
    refine qp (K.pick_f rfl) ?_
    refine qm ?_
    iterate 4 refine qs ?_
    refine qp (K.pick_f rfl) ?_
    refine sn ?_
    refine K.cond_false rfl ?_
    refine K.skip ?_
    exact K.join_here (L' := [K.row (.slice A1 bl.length a1) 3 1 bl.length (bl.flatMap K.eI), K.blk b5 56 [.int .u8 x0, .int .u8 x1], K.blk b3 26 [.int .i64 m.W, .int .i64 m.D, .slice A m.hs.length c, .slice B m.ps.length d, .slice C m.ss.length e]]) [.int .i64 b0] ⟨b0, rfl, rfl, by omega, by omega⟩ (fun w h => h) (by kernel_rfl)
  intro vi vr L hJ
  obtain ⟨b, rfl, rfl, hbb, hbf⟩ := hJ
  have hk1 := two_chk (x := bx) (y := bY) hc hn2 (a := a) (b := b) (by omega) hbb hbf hbx hby hbn
  have h2s := two_sure hk1
  have h20 : sureL (twoM m a b bx bY n) 0 = fromL m a b n ∧ seenE (twoM m a b bx bY n) 0 = 0 := ⟨h2s.1.2, h2s.1.1⟩
  have h21 : sureL (twoM m a b bx bY n) 1 = bl ∧ seenE (twoM m a b bx bY n) 1 = 0 := ⟨h2s.2.2.trans hbl.symm, h2s.2.1⟩
  have hbb2 := hbest a b (by omega) hbb hbf
  try dsimp only [setd, setn, ev, nth, over, cl, eI, eP, eT, eN, eS, setM, setF, List.map, List.append, List.drop, List.take]
  refine sr ?_
  refine K.seq_sil (K.loadA_own ag_26 rfl (K.m2) rfl) rfl ?_
  refine zN ?_
  refine K.seq_new (K.alloc zr_26) rfl ?_
  intro b14
  refine zN ?_
  refine K.seq_st (K.store_all sz_26 rfl rfl rfl rfl (K.rp0)) rfl ?_
  refine zN ?_
  refine sn ?_
  refine sr ?_
  iterate 4 refine qm ?_
  refine K.seq_pure (K.build (bl61 _ _)) rfl ?_
  refine zN ?_
  refine K.seq_pure (K.build (bl63 _ _ _ _)) rfl ?_
  refine zN ?_
  iterate 4 refine qm ?_
  refine K.seq_pure (K.build (bl61 _ _)) rfl ?_
  refine zN ?_
  refine K.seq_pure (K.build (bl63 _ _ _ _)) rfl ?_
  refine zN ?_
  refine K.seq_new (K.buildSlice (bs2S _ _ _ _ _ _ _ _)) rfl ?_
  intro b94
  refine zN ?_
  refine qp (K.fieldAddr_lit fo_26_4 rfl) ?_
  refine K.seq_st (K.store sz_24 rfl rfl rfl rfl (K.rp1)) rfl ?_
  refine zN ?_
  refine sn ?_
  refine sr ?_
  refine K.seq_sil (K.loadA_own ag_26 rfl (K.m1) rfl) rfl ?_
  refine zN ?_
  refine K.seq_loud (K.call_f cal_21 (fun F w hF hw => (by have hh := c21 (m := (twoM m a b bx bY n)) (A := A) (B := B) (C := some ⟨b94, 0, none⟩) (c := c) (d := d) (e := 2) (s := 0) (hH.pass hw) (hP.pass hw) (K.Rd.lit (e := eS) (size := 4) (xs := (twoM m a b bx bY n).ss) hw (hF _ (K.m0)) (fun _ => rfl) (by decide) rfl) hn hm (Nat.le_of_ble_eq_true rfl) hcd (hT.pass hw); rw [h20.1, h20.2] at hh; exact hh))) rfl ?_
  rintro ⟨⟨A2, a2⟩, ⟨A3, a3⟩⟩ ⟨hq2, hq3⟩
  refine zN ?_
  refine qm ?_
  refine qx ?_
  refine qx ?_
  refine qx ?_
  iterate 3 refine qa ?_
  refine sn ?_
  refine sr ?_
  refine K.seq_sil (K.loadA_own ag_26 rfl (K.m3) rfl) rfl ?_
  refine zN ?_
  refine K.seq_loud (K.call_f cal_21 (fun F w hF hw => (by have hh := c21 (m := (twoM m a b bx bY n)) (A := A) (B := B) (C := some ⟨b94, 0, none⟩) (c := c) (d := d) (e := 2) (s := 1) (hH.pass hw) (hP.pass hw) (K.Rd.lit (e := eS) (size := 4) (xs := (twoM m a b bx bY n).ss) hw (hF _ (K.m2)) (fun _ => rfl) (by decide) rfl) hn hm (Nat.le_of_ble_eq_true rfl) hcd (hT.pass hw); rw [h21.1, h21.2] at hh; exact hh))) rfl ?_
  rintro ⟨⟨A4, a4⟩, ⟨A5, a5⟩⟩ ⟨hq4, hq5⟩
  refine zN ?_
  refine qm ?_
  refine qx ?_
  refine qx ?_
  refine qx ?_
  iterate 3 refine qa ?_
  refine sn ?_
  refine K.seqJ [21] [108, 109, 110, 111, 112, 113, 114, 115, 116, 117, 118, 119, 120, 121, 122, 123, 124, 125, 126, 127, 128, 129, 130, 131, 132, 133, 134, 135, 136, 137, 138, 139, 140, 141, 142, 143, 144, 145] (fun vi L => vi = [.bool true] ∧ L = [K.row (.slice A5 (mayL (twoM m a b bx bY n) 1).length a5) 3 1 (mayL (twoM m a b bx bY n) 1).length ((mayL (twoM m a b bx bY n) 1).flatMap K.eI), K.row (.slice A4 bl.length a4) 3 1 bl.length (bl.flatMap K.eI), K.row (.slice A3 (mayL (twoM m a b bx bY n) 0).length a3) 3 1 (mayL (twoM m a b bx bY n) 0).length ((mayL (twoM m a b bx bY n) 0).flatMap K.eI), K.row (.slice A2 (fromL m a b n).length a2) 3 1 (fromL m a b n).length ((fromL m a b n).flatMap K.eI), K.blk b94 63 [.int .i64 a, .int .i64 b, .int .i64 n, .int .i64 n, .int .i64 bx, .int .i64 bY, .int .i64 n, .int .i64 n], K.blk b14 26 [.int .i64 m.W, .int .i64 m.D, .slice A m.hs.length c, .slice B m.ps.length d, .slice (some ⟨b94, 0, none⟩) 2 2], K.row (.slice A1 bl.length a1) 3 1 bl.length (bl.flatMap K.eI), K.blk b5 56 [.int .u8 x0, .int .u8 x1], K.blk b3 26 [.int .i64 m.W, .int .i64 m.D, .slice A m.hs.length c, .slice B m.ps.length d, .slice C m.ss.length e]]) ?_ ?_
  · refine K.region_lit ?_
    refine qm ?_
    refine qp (K.Pure.eq (K.geq rfl rfl) (show _ = Value.bool true from congrArg Value.bool (decide_eq_true (by omega)))) ?_
    iterate 2 refine qm ?_
    refine qp (K.fieldAddr_lit fo_26_0 rfl) ?_
    refine K.seq_sil (K.load1_own one_3 rfl (K.m8) rfl) rfl ?_
    refine zN ?_
    refine qp (K.Pure.eq (K.leq rfl rfl) (show _ = Value.bool true from congrArg Value.bool (decide_eq_true (by omega)))) ?_
    refine qp (K.pick_t rfl) ?_
    iterate 2 refine qm ?_
    refine qp (K.Pure.eq (K.geq rfl rfl) (show _ = Value.bool true from congrArg Value.bool (decide_eq_true (by omega)))) ?_
    refine qp (K.pick_t rfl) ?_
    iterate 2 refine qm ?_
    refine qp (K.fieldAddr_lit fo_26_1 rfl) ?_
    refine K.seq_sil (K.load1_own one_3 rfl (K.m8) rfl) rfl ?_
    refine zN ?_
    refine qp (K.Pure.eq (K.leq rfl rfl) (show _ = Value.bool true from congrArg Value.bool (decide_eq_true (by omega)))) ?_
    refine qp (K.pick_t rfl) ?_
    iterate 2 refine qm ?_
    refine qp (K.lss rfl rfl) ?_
    refine qm ?_
    refine K.split 129 rfl (fun hg129 => ?_) (fun hg129 => ?_)
    · try replace hg129 := of_decide_eq_true hg129
      iterate 4 refine qs ?_
      refine qp (K.pick_t rfl) ?_
      refine qm ?_
      iterate 2 refine qs ?_
      refine qp (K.pick_t rfl) ?_
      refine qm ?_
      iterate 4 refine qs ?_
      refine qp (K.pick_t rfl) ?_
      refine qp (K.pick_t rfl) ?_
      refine qa ?_
      refine K.seq_nil ?_
      exact K.join_here (L' := [K.row (.slice A5 (mayL (twoM m a b bx bY n) 1).length a5) 3 1 (mayL (twoM m a b bx bY n) 1).length ((mayL (twoM m a b bx bY n) 1).flatMap K.eI), K.row (.slice A4 bl.length a4) 3 1 bl.length (bl.flatMap K.eI), K.row (.slice A3 (mayL (twoM m a b bx bY n) 0).length a3) 3 1 (mayL (twoM m a b bx bY n) 0).length ((mayL (twoM m a b bx bY n) 0).flatMap K.eI), K.row (.slice A2 (fromL m a b n).length a2) 3 1 (fromL m a b n).length ((fromL m a b n).flatMap K.eI), K.blk b94 63 [.int .i64 a, .int .i64 b, .int .i64 n, .int .i64 n, .int .i64 bx, .int .i64 bY, .int .i64 n, .int .i64 n], K.blk b14 26 [.int .i64 m.W, .int .i64 m.D, .slice A m.hs.length c, .slice B m.ps.length d, .slice (some ⟨b94, 0, none⟩) 2 2], K.row (.slice A1 bl.length a1) 3 1 bl.length (bl.flatMap K.eI), K.blk b5 56 [.int .u8 x0, .int .u8 x1], K.blk b3 26 [.int .i64 m.W, .int .i64 m.D, .slice A m.hs.length c, .slice B m.ps.length d, .slice C m.ss.length e]]) [.bool true] ⟨rfl, rfl⟩ (fun w h => h) (by kernel_rfl)
    try replace hg129 := of_decide_eq_false hg129
    refine qm ?_
    refine qp (K.fieldAddr_lit fo_26_0 rfl) ?_
    refine K.seq_sil (K.load1_own one_3 rfl (K.m8) rfl) rfl ?_
    refine zN ?_
    refine qp (K.eql rfl rfl) ?_
    refine qp (K.pick_f rfl) ?_
    refine qm ?_
    refine K.split 135 rfl (fun hg135 => ?_) (fun hg135 => ?_)
    · try replace hg135 := of_decide_eq_true hg135
      iterate 2 refine qs ?_
      refine qp (K.pick_t rfl) ?_
      refine qm ?_
      iterate 4 refine qs ?_
      refine qp (K.pick_t rfl) ?_
      refine qp (K.pick_t rfl) ?_
      refine qa ?_
      refine K.seq_nil ?_
      exact K.join_here (L' := [K.row (.slice A5 (mayL (twoM m a b bx bY n) 1).length a5) 3 1 (mayL (twoM m a b bx bY n) 1).length ((mayL (twoM m a b bx bY n) 1).flatMap K.eI), K.row (.slice A4 bl.length a4) 3 1 bl.length (bl.flatMap K.eI), K.row (.slice A3 (mayL (twoM m a b bx bY n) 0).length a3) 3 1 (mayL (twoM m a b bx bY n) 0).length ((mayL (twoM m a b bx bY n) 0).flatMap K.eI), K.row (.slice A2 (fromL m a b n).length a2) 3 1 (fromL m a b n).length ((fromL m a b n).flatMap K.eI), K.blk b94 63 [.int .i64 a, .int .i64 b, .int .i64 n, .int .i64 n, .int .i64 bx, .int .i64 bY, .int .i64 n, .int .i64 n], K.blk b14 26 [.int .i64 m.W, .int .i64 m.D, .slice A m.hs.length c, .slice B m.ps.length d, .slice (some ⟨b94, 0, none⟩) 2 2], K.row (.slice A1 bl.length a1) 3 1 bl.length (bl.flatMap K.eI), K.blk b5 56 [.int .u8 x0, .int .u8 x1], K.blk b3 26 [.int .i64 m.W, .int .i64 m.D, .slice A m.hs.length c, .slice B m.ps.length d, .slice C m.ss.length e]]) [.bool true] ⟨rfl, rfl⟩ (fun w h => h) (by kernel_rfl)
    try replace hg135 := of_decide_eq_false hg135
    refine qm ?_
    refine qp (K.lss rfl rfl) ?_
    refine qp (K.pick_f rfl) ?_
    refine qm ?_
    refine K.split 139 rfl (fun hg139 => ?_) (fun hg139 => ?_)
    · try replace hg139 := of_decide_eq_true hg139
      iterate 4 refine qs ?_
      refine qp (K.pick_t rfl) ?_
      refine qp (K.pick_t rfl) ?_
      refine qa ?_
      refine K.seq_nil ?_
      exact K.join_here (L' := [K.row (.slice A5 (mayL (twoM m a b bx bY n) 1).length a5) 3 1 (mayL (twoM m a b bx bY n) 1).length ((mayL (twoM m a b bx bY n) 1).flatMap K.eI), K.row (.slice A4 bl.length a4) 3 1 bl.length (bl.flatMap K.eI), K.row (.slice A3 (mayL (twoM m a b bx bY n) 0).length a3) 3 1 (mayL (twoM m a b bx bY n) 0).length ((mayL (twoM m a b bx bY n) 0).flatMap K.eI), K.row (.slice A2 (fromL m a b n).length a2) 3 1 (fromL m a b n).length ((fromL m a b n).flatMap K.eI), K.blk b94 63 [.int .i64 a, .int .i64 b, .int .i64 n, .int .i64 n, .int .i64 bx, .int .i64 bY, .int .i64 n, .int .i64 n], K.blk b14 26 [.int .i64 m.W, .int .i64 m.D, .slice A m.hs.length c, .slice B m.ps.length d, .slice (some ⟨b94, 0, none⟩) 2 2], K.row (.slice A1 bl.length a1) 3 1 bl.length (bl.flatMap K.eI), K.blk b5 56 [.int .u8 x0, .int .u8 x1], K.blk b3 26 [.int .i64 m.W, .int .i64 m.D, .slice A m.hs.length c, .slice B m.ps.length d, .slice C m.ss.length e]]) [.bool true] ⟨rfl, rfl⟩ (fun w h => h) (by kernel_rfl)
    try replace hg139 := of_decide_eq_false hg139
    refine qm ?_
    refine qp (K.fieldAddr_lit fo_26_1 rfl) ?_
    refine K.seq_sil (K.load1_own one_3 rfl (K.m8) rfl) rfl ?_
    refine zN ?_
    refine qp (K.Pure.eq (K.eql rfl rfl) (show _ = Value.bool true from congrArg Value.bool (decide_eq_true (by omega)))) ?_
    refine qp (K.pick_f rfl) ?_
    refine qp (K.pick_t rfl) ?_
    refine qa ?_
    refine K.seq_nil ?_
    exact K.join_here (L' := [K.row (.slice A5 (mayL (twoM m a b bx bY n) 1).length a5) 3 1 (mayL (twoM m a b bx bY n) 1).length ((mayL (twoM m a b bx bY n) 1).flatMap K.eI), K.row (.slice A4 bl.length a4) 3 1 bl.length (bl.flatMap K.eI), K.row (.slice A3 (mayL (twoM m a b bx bY n) 0).length a3) 3 1 (mayL (twoM m a b bx bY n) 0).length ((mayL (twoM m a b bx bY n) 0).flatMap K.eI), K.row (.slice A2 (fromL m a b n).length a2) 3 1 (fromL m a b n).length ((fromL m a b n).flatMap K.eI), K.blk b94 63 [.int .i64 a, .int .i64 b, .int .i64 n, .int .i64 n, .int .i64 bx, .int .i64 bY, .int .i64 n, .int .i64 n], K.blk b14 26 [.int .i64 m.W, .int .i64 m.D, .slice A m.hs.length c, .slice B m.ps.length d, .slice (some ⟨b94, 0, none⟩) 2 2], K.row (.slice A1 bl.length a1) 3 1 bl.length (bl.flatMap K.eI), K.blk b5 56 [.int .u8 x0, .int .u8 x1], K.blk b3 26 [.int .i64 m.W, .int .i64 m.D, .slice A m.hs.length c, .slice B m.ps.length d, .slice C m.ss.length e]]) [.bool true] ⟨rfl, rfl⟩ (fun w h => h) (by kernel_rfl)
  intro vi vr L hJ
  obtain ⟨rfl, rfl⟩ := hJ
  try dsimp only [setd, setn, ev, nth, over, cl, eI, eP, eT, eN, eS, setM, setF, List.map, List.append, List.drop, List.take]
  refine K.seqJ [22] [146, 147, 148, 149, 150, 151, 152, 153, 154, 155, 156, 157, 158, 159, 160, 161, 162, 163, 164, 165] (fun vi L => vi = [.bool true] ∧ L = [K.row (.slice A5 (mayL (twoM m a b bx bY n) 1).length a5) 3 1 (mayL (twoM m a b bx bY n) 1).length ((mayL (twoM m a b bx bY n) 1).flatMap K.eI), K.row (.slice A4 bl.length a4) 3 1 bl.length (bl.flatMap K.eI), K.row (.slice A3 (mayL (twoM m a b bx bY n) 0).length a3) 3 1 (mayL (twoM m a b bx bY n) 0).length ((mayL (twoM m a b bx bY n) 0).flatMap K.eI), K.row (.slice A2 (fromL m a b n).length a2) 3 1 (fromL m a b n).length ((fromL m a b n).flatMap K.eI), K.blk b94 63 [.int .i64 a, .int .i64 b, .int .i64 n, .int .i64 n, .int .i64 bx, .int .i64 bY, .int .i64 n, .int .i64 n], K.blk b14 26 [.int .i64 m.W, .int .i64 m.D, .slice A m.hs.length c, .slice B m.ps.length d, .slice (some ⟨b94, 0, none⟩) 2 2], K.row (.slice A1 bl.length a1) 3 1 bl.length (bl.flatMap K.eI), K.blk b5 56 [.int .u8 x0, .int .u8 x1], K.blk b3 26 [.int .i64 m.W, .int .i64 m.D, .slice A m.hs.length c, .slice B m.ps.length d, .slice C m.ss.length e]]) ?_ ?_
  · refine K.region_lit ?_
    refine qm ?_
    refine qp (K.len_sl sl_22 rfl) ?_
    refine qm ?_
    refine qp (K.len_sl sl_22 rfl) ?_
    refine qp (K.lss rfl rfl) ?_
    refine qm ?_
    refine K.split 151 rfl (fun hg151 => ?_) (fun hg151 => ?_)
    · try replace hg151 := of_decide_eq_true hg151
      iterate 3 refine qs ?_
      refine qp (K.pick_t rfl) ?_
      refine qm ?_
      iterate 8 refine qs ?_
      refine qp (K.pick_t rfl) ?_
      refine qa ?_
      refine K.seq_nil ?_
      exact K.join_here (L' := [K.row (.slice A5 (mayL (twoM m a b bx bY n) 1).length a5) 3 1 (mayL (twoM m a b bx bY n) 1).length ((mayL (twoM m a b bx bY n) 1).flatMap K.eI), K.row (.slice A4 bl.length a4) 3 1 bl.length (bl.flatMap K.eI), K.row (.slice A3 (mayL (twoM m a b bx bY n) 0).length a3) 3 1 (mayL (twoM m a b bx bY n) 0).length ((mayL (twoM m a b bx bY n) 0).flatMap K.eI), K.row (.slice A2 (fromL m a b n).length a2) 3 1 (fromL m a b n).length ((fromL m a b n).flatMap K.eI), K.blk b94 63 [.int .i64 a, .int .i64 b, .int .i64 n, .int .i64 n, .int .i64 bx, .int .i64 bY, .int .i64 n, .int .i64 n], K.blk b14 26 [.int .i64 m.W, .int .i64 m.D, .slice A m.hs.length c, .slice B m.ps.length d, .slice (some ⟨b94, 0, none⟩) 2 2], K.row (.slice A1 bl.length a1) 3 1 bl.length (bl.flatMap K.eI), K.blk b5 56 [.int .u8 x0, .int .u8 x1], K.blk b3 26 [.int .i64 m.W, .int .i64 m.D, .slice A m.hs.length c, .slice B m.ps.length d, .slice C m.ss.length e]]) [.bool true] ⟨rfl, rfl⟩ (fun w h => h) (by kernel_rfl)
    try replace hg151 := of_decide_eq_false hg151
    iterate 2 refine qm ?_
    refine qp (K.gtr rfl rfl) ?_
    refine qp (K.pick_f rfl) ?_
    refine qm ?_
    refine K.split 156 rfl (fun hg156 => ?_) (fun hg156 => ?_)
    · try replace hg156 := of_decide_eq_true hg156
      iterate 8 refine qs ?_
      refine qp (K.pick_t rfl) ?_
      refine qa ?_
      refine K.seq_nil ?_
      exact K.join_here (L' := [K.row (.slice A5 (mayL (twoM m a b bx bY n) 1).length a5) 3 1 (mayL (twoM m a b bx bY n) 1).length ((mayL (twoM m a b bx bY n) 1).flatMap K.eI), K.row (.slice A4 bl.length a4) 3 1 bl.length (bl.flatMap K.eI), K.row (.slice A3 (mayL (twoM m a b bx bY n) 0).length a3) 3 1 (mayL (twoM m a b bx bY n) 0).length ((mayL (twoM m a b bx bY n) 0).flatMap K.eI), K.row (.slice A2 (fromL m a b n).length a2) 3 1 (fromL m a b n).length ((fromL m a b n).flatMap K.eI), K.blk b94 63 [.int .i64 a, .int .i64 b, .int .i64 n, .int .i64 n, .int .i64 bx, .int .i64 bY, .int .i64 n, .int .i64 n], K.blk b14 26 [.int .i64 m.W, .int .i64 m.D, .slice A m.hs.length c, .slice B m.ps.length d, .slice (some ⟨b94, 0, none⟩) 2 2], K.row (.slice A1 bl.length a1) 3 1 bl.length (bl.flatMap K.eI), K.blk b5 56 [.int .u8 x0, .int .u8 x1], K.blk b3 26 [.int .i64 m.W, .int .i64 m.D, .slice A m.hs.length c, .slice B m.ps.length d, .slice C m.ss.length e]]) [.bool true] ⟨rfl, rfl⟩ (fun w h => h) (by kernel_rfl)
    try replace hg156 := of_decide_eq_false hg156
    iterate 2 refine qm ?_
    refine qp (K.Pure.eq (K.eql rfl rfl) (show _ = Value.bool true from congrArg Value.bool (decide_eq_true (by omega)))) ?_
    iterate 3 refine qm ?_
    refine qp (K.Pure.eq (K.geq rfl rfl) (show _ = Value.bool true from congrArg Value.bool (decide_eq_true (by omega)))) ?_
    refine qp (K.pick_t rfl) ?_
    refine qp (K.pick_f rfl) ?_
    refine qa ?_
    refine K.seq_nil ?_
    exact K.join_here (L' := [K.row (.slice A5 (mayL (twoM m a b bx bY n) 1).length a5) 3 1 (mayL (twoM m a b bx bY n) 1).length ((mayL (twoM m a b bx bY n) 1).flatMap K.eI), K.row (.slice A4 bl.length a4) 3 1 bl.length (bl.flatMap K.eI), K.row (.slice A3 (mayL (twoM m a b bx bY n) 0).length a3) 3 1 (mayL (twoM m a b bx bY n) 0).length ((mayL (twoM m a b bx bY n) 0).flatMap K.eI), K.row (.slice A2 (fromL m a b n).length a2) 3 1 (fromL m a b n).length ((fromL m a b n).flatMap K.eI), K.blk b94 63 [.int .i64 a, .int .i64 b, .int .i64 n, .int .i64 n, .int .i64 bx, .int .i64 bY, .int .i64 n, .int .i64 n], K.blk b14 26 [.int .i64 m.W, .int .i64 m.D, .slice A m.hs.length c, .slice B m.ps.length d, .slice (some ⟨b94, 0, none⟩) 2 2], K.row (.slice A1 bl.length a1) 3 1 bl.length (bl.flatMap K.eI), K.blk b5 56 [.int .u8 x0, .int .u8 x1], K.blk b3 26 [.int .i64 m.W, .int .i64 m.D, .slice A m.hs.length c, .slice B m.ps.length d, .slice C m.ss.length e]]) [.bool true] ⟨rfl, rfl⟩ (fun w h => h) (by kernel_rfl)
  intro vi vr L hJ
  obtain ⟨rfl, rfl⟩ := hJ
  try dsimp only [setd, setn, ev, nth, over, cl, eI, eP, eT, eN, eS, setM, setF, List.map, List.append, List.drop, List.take]
  refine sr ?_
  refine qm ?_
  refine qp (K.Pure.eq (K.eql rfl rfl) (show _ = Value.bool true from congrArg Value.bool (by simp))) ?_
  iterate 2 refine qm ?_
  refine qp (K.Pure.eq (K.eql rfl rfl) (show _ = Value.bool true from congrArg Value.bool (by simp))) ?_
  refine qp (K.pick_t rfl) ?_
  iterate 2 refine qm ?_
  refine qp (K.Pure.eq (K.eql rfl rfl) (show _ = Value.bool true from congrArg Value.bool (by simp))) ?_
  refine qp (K.pick_t rfl) ?_
  iterate 2 refine qm ?_
  refine qp (K.pick_t rfl) ?_
  iterate 3 refine qm ?_
  refine K.seq_call (K.call_g cal_20 (fun F w hF hw => (by have hA := (K.Rd.own (e := K.eI) hw (hF _ (K.m1)) hq4 (fun _ => rfl) (by decide)); have hB := (K.Rd.own (e := K.eI) hw (hF _ (K.m6)) hq1 (fun _ => rfl) (by decide)); exact c20t (xs := bl) hA hB hbll))) rfl ?_
  refine zN ?_
  refine qp (K.pick_t rfl) ?_
  iterate 2 refine qm ?_
  refine qp (K.len_sl sl_22 rfl) ?_
  refine qm ?_
  refine qp (K.len_sl sl_22 rfl) ?_
  refine qp (K.Pure.eq (K.leq rfl rfl) (show _ = Value.bool true from congrArg Value.bool (decide_eq_true (by omega)))) ?_
  refine qp (K.pick_t rfl) ?_
  iterate 2 refine qm ?_
  refine qp (K.pick_t rfl) ?_
  refine qm ?_
  refine K.seq_call (K.call_g cal_25 (fun F w hF hw => c25 (hT.pass hw))) rfl ?_
  refine zN ?_
  refine qp (K.pick_t rfl) ?_
  refine qa ?_
  refine sn ?_
  refine K.ret ?_
  refine K.end_ret (fun w _ => K.res_tmp rfl w) ?_
  exact K.gives rfl

theorem c11 {m : Mod} {A B C : Option Addr} {c d e : Nat} {e0 x0 x1 : Int} {w : World} (hH : K.Rd w A 1 K.eI m.hs) (hP : K.Rd w B 5 eN m.ps) (hS : K.Rd w C 4 eS m.ss) (hn : m.hs.length ≤ 4611686018427387904) (hm : m.ps.length ≤ 4611686018427387904) (hk : m.ss.length ≤ 4611686018427387904) (hcd : m.ps.length ≤ d) (hT : Tab w) (he0 : 0 ≤ e0 ∧ e0 ≤ 65535) (hx0 : 0 ≤ x0 ∧ x0 ≤ 255) (hx1 : 0 ≤ x1 ∧ x1 ≤ 255) : Calls Tryd.prog 11 [.agg #[.int .i64 m.W, .int .i64 m.D, .slice A m.hs.length c, .slice B m.ps.length d, .slice C m.ss.length e], .int .u16 e0, .agg #[.int .u8 x0, .int .u8 x1]].toArray w (K.Gives (.bool true) w) := by
  by_cases hc : (chk m).2.2 = 0
  · exact g11 (a := x0 % (m.W + 2) - 1) (b0 := x1 % (m.D + 2) - 1) hH hP hS hn hm hk hcd hT he0 hx0 hx1 rfl (by omega) (by omega) hc
  · exact e11 hH hP hS hn hm hk hcd hT he0 hx0 hx1 rfl hc


end Go.Proofs.YthkgnhcknkjgdaaDoor
