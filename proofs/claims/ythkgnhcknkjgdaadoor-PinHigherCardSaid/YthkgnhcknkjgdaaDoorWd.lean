/-
  Walks of the program's functions, printed by program: what each returns.
  Conditions stand in each theorem.
-/
import Derived.WalkArith
import Derived.Laws.Closers25b
import Derived.Test.YthkgnhcknkjgdaaDoorWc
import Derived.Test.YthkgnhcknkjgdaaDoorK3
set_option linter.unusedSimpArgs false
set_option linter.unusedVariables false
namespace Go.Proofs.YthkgnhcknkjgdaaDoor
open Go.RowKit Go
open Go.K (setd setn ev nth over cl eI eP eT setM setF)
attribute [local irreducible] K.blk K.row

set_option maxRecDepth 100000 in
theorem c59 {m : Mod} {A B C : Option Addr} {c d e : Nat} {i : Nat} {w : World} (hW : 1 ≤ m.W ∧ m.W ≤ 8) (hD : 1 ≤ m.D ∧ m.D ≤ 8) (hP : K.Rd w B 5 eN m.ps) (hi : i < m.ps.length) (hm : m.ps.length ≤ 4611686018427387904) :
    Calls Tryd.prog 59 [.agg #[.int .i64 m.W, .int .i64 m.D, .slice A m.hs.length c, .slice B m.ps.length d, .slice C m.ss.length e], .int .i64 (i : Int)].toArray w (K.Gives (.int .i64 (pinR m.W m.D m.ps i)) w) := by
  refine K.enter (args := [.agg #[.int .i64 m.W, .int .i64 m.D, .slice A m.hs.length c, .slice B m.ps.length d, .slice C m.ss.length e], .int .i64 (i : Int)]) Tryd.func59 rfl (n := 54) rfl ?_
  simp only [List.replicate, List.cons_append, List.nil_append]
  refine sr ?_
  refine K.seq_new (K.box) rfl ?_
  intro b2
  refine zN ?_
  refine qa ?_
  refine sn ?_
  refine sr ?_
  refine qp (K.fieldAddr_lit fo_26_3 rfl) ?_
  refine K.seq_sil (K.load1_own one_23 rfl (K.m0) rfl) rfl ?_
  refine zN ?_
  refine qm ?_
  refine K.seq_ix (M := []) _ hP.sl sl_23 rfl rfl rfl (by omega) rfl ?_
  intro p10 hp10
  refine zN ?_
  refine K.seq_sil (K.loadA_p ag_54 rfl (hp10.any) rfl) rfl ?_
  refine zN ?_
  refine K.seq_new (K.alloc zr_54) rfl ?_
  intro b5
  refine zN ?_
  refine K.seq_st (K.store_all sz_54 rfl rfl rfl rfl (K.rp0)) rfl ?_
  refine zN ?_
  refine sn ?_
  refine K.seq ?_
  refine sr ?_
  refine K.seq_sil (K.loadA_own ag_26 rfl (K.m1) rfl) rfl ?_
  refine zN ?_
  refine qp (K.fieldAddr_lit fo_54_1 rfl) ?_
  refine K.seq_sil (K.load1_own one_3 rfl (K.m0) rfl) rfl ?_
  refine zN ?_
  refine qp (K.fieldAddr_lit fo_54_2 rfl) ?_
  refine K.seq_sil (K.load1_own one_3 rfl (K.m0) rfl) rfl ?_
  refine zN ?_
  refine K.seq_call (K.call_g cal_81 (fun F w hF hw => c81 hW hD)) rfl ?_
  refine zN ?_
  first | refine K.seq_pure (K.not_d rfl) rfl ?_ | refine K.seq_pure (K.not_ rfl) rfl ?_
  refine zN ?_
  refine sn ?_
  refine K.cond rfl (fun ht18 => ?_) (fun ht18 => ?_)
  · try replace ht18 := of_decide_eq_true ht18
    refine sr ?_
    refine qa ?_
    refine sn ?_
    refine K.ret ?_
    refine K.ret_then ?_
    refine K.end_ret (fun w _ => K.res_tmp rfl w) ?_
    exact K.gives_i rfl (pinR_4 ht18).symm
  try replace ht18 := of_decide_eq_false ht18
  have hF : onF m.W m.D (m.ps.getD i default).x (m.ps.getD i default).y := Decidable.not_not.1 ht18
  refine K.skip ?_
  refine K.norm_then ?_
  refine K.seq ?_
  refine sr ?_
  refine qa ?_
  refine sn ?_
  refine K.block ?_
  refine K.loopW [6] [4, 19, 20, 21, 22, 23, 24, 25, 26, 27, 28, 29, 30, 31, 32, 33, 34, 35, 36, 37, 38, 39, 40, 41, 42, 43] (fun vi L => ∃ k : Nat, vi = [.int .i64 (k : Int)] ∧ L = [K.blk b5 54 [.string (m.ps.getD i default).nm, .int .i64 (m.ps.getD i default).x, .int .i64 (m.ps.getD i default).y, .int .i64 (m.ps.getD i default).len, .int .i64 (m.ps.getD i default).most], K.blk b2 26 [.int .i64 m.W, .int .i64 m.D, .slice A m.hs.length c, .slice B m.ps.length d, .slice C m.ss.length e]] ∧ k ≤ i ∧ ∀ j, j < k → atP (m.ps.getD i default).x (m.ps.getD i default).y (m.ps.getD j default) = false) (fun vi => i - (intOf (K.nth vi 0)).toNat) ?_ ?_
  · exact ⟨0, rfl, rfl, Nat.zero_le _, fun j hj => absurd hj (Nat.not_lt_zero j)⟩
  intro vi vr L hJ
  obtain ⟨k, rfl, rfl, hkn, hall⟩ := hJ
  try dsimp only [setd, setn, ev, nth, over, cl, eI, eP, eT, eN, eS, setM, setF, List.map, List.append, List.drop, List.take]
  refine K.seq ?_
  refine sr ?_
  iterate 2 refine qm ?_
  refine qp (K.lss rfl rfl) ?_
  refine sn ?_
  refine K.cond rfl (fun ht21 => ?_) (fun ht21 => ?_)
  · try replace ht21 := of_decide_eq_true ht21
    have hk : k < i := by omega
    refine K.skip ?_
    refine K.norm_then ?_
    refine K.seq ?_
    refine K.block ?_
    refine K.seq ?_
    refine K.draw_L [] Tryd_mixed ?_
    refine K.d_pure 0 rfl (K.fieldAddr_lit fo_26_3 rfl) (by kernel_rfl) rfl ?_
    refine zn ?_
    refine K.d_mem 1 rfl (K.load1_own one_23 rfl (K.m1) rfl) (fun _ h => h) (by kernel_rfl) (by kernel_rfl) rfl ?_
    refine zN ?_
    refine K.d_pure 2 rfl (K.move) (by kernel_rfl) rfl ?_
    refine zn ?_
    refine K.d_ix (M := []) 3 _ rfl hP.sl sl_23 rfl rfl rfl (by omega) (by kernel_rfl) rfl ?_
    intro p27 hp27
    refine zN ?_
    refine K.d_pure 4 rfl (K.fieldAddr fo_54_1 rfl) (by kernel_rfl) rfl ?_
    refine zn ?_
    refine K.d_mem 5 rfl (K.load1 one_3 rfl ((K.PtrL.fld hp27 (k := 1)).any)) (fun _ h => h) (by kernel_rfl) (by kernel_rfl) rfl ?_
    refine zN ?_
    refine K.d_pure 6 rfl (K.fieldAddr_lit fo_54_1 rfl) (by kernel_rfl) rfl ?_
    refine zn ?_
    refine K.d_mem 7 rfl (K.load1_own one_3 rfl (K.m0) rfl) (fun _ h => h) (by kernel_rfl) (by kernel_rfl) rfl ?_
    refine zN ?_
    refine K.d_pure 8 rfl (K.eql rfl rfl) (by kernel_rfl) rfl ?_
    refine zn ?_
    refine K.d_pure 9 rfl (K.move) (by kernel_rfl) rfl ?_
    refine zn ?_
    refine K.dsplit 33 rfl (fun hg33 => ?_) (fun hg33 => ?_)
    · try replace hg33 := of_decide_eq_true hg33
      refine K.d_pure 10 rfl (K.fieldAddr_lit fo_26_3 rfl) (by kernel_rfl) rfl ?_
      refine zn ?_
      refine K.d_mem 11 rfl (K.load1_own one_23 rfl (K.m1) rfl) (fun _ h => h) (by kernel_rfl) (by kernel_rfl) rfl ?_
      refine zN ?_
      refine K.d_pure 12 rfl (K.move) (by kernel_rfl) rfl ?_
      refine zn ?_
      refine K.d_ix (M := []) 13 _ rfl hP.sl sl_23 rfl rfl rfl (by omega) (by kernel_rfl) rfl ?_
      intro p37 hp37
      refine zN ?_
      refine K.d_pure 14 rfl (K.fieldAddr fo_54_2 rfl) (by kernel_rfl) rfl ?_
      refine zn ?_
      refine K.d_mem 15 rfl (K.load1 one_3 rfl ((K.PtrL.fld hp37 (k := 2)).any)) (fun _ h => h) (by kernel_rfl) (by kernel_rfl) rfl ?_
      refine zN ?_
      refine K.d_pure 16 rfl (K.fieldAddr_lit fo_54_2 rfl) (by kernel_rfl) rfl ?_
      refine zn ?_
      refine K.d_mem 17 rfl (K.load1_own one_3 rfl (K.m0) rfl) (fun _ h => h) (by kernel_rfl) (by kernel_rfl) rfl ?_
      refine zN ?_
      refine K.d_pure 18 rfl (K.eql rfl rfl) (by kernel_rfl) rfl ?_
      refine zn ?_
      refine K.d_pure 19 rfl (K.pick_t rfl) (by kernel_rfl) rfl ?_
      refine zn ?_
      refine K.d_done (by kernel_rfl) ?_
      refine K.norm_then ?_
      refine K.cond rfl (fun ht43 => ?_) (fun ht43 => ?_)
      · try replace ht43 := of_decide_eq_true ht43
        refine sr ?_
        refine qa ?_
        refine sn ?_
        refine K.ret ?_
        refine K.ret_block ?_
        refine K.ret_then ?_
        refine K.ret_then ?_
        refine K.ret_block ?_
        refine K.ret_then ?_
        refine K.end_ret (fun w _ => K.res_tmp rfl w) ?_
        exact K.gives_i rfl (pinR_2 hF (anyT_t hk (by omega) (decide_eq_true ⟨hg33, ht43⟩))).symm
      try replace ht43 := of_decide_eq_false ht43
      refine K.skip ?_
      refine K.norm_block ?_
      refine K.norm_then ?_
      refine K.region_lit ?_
      refine qm ?_
      refine qp (K.add_i64 rfl rfl (by omega)) ?_
      refine qa ?_
      refine K.seq_nil ?_
      have hz : atP (m.ps.getD i default).x (m.ps.getD i default).y (m.ps.getD k default) = false := by
        first
          | exact decide_eq_false (fun h => ht43 h.2)
          | exact decide_eq_false (fun h => hg33 h.1)
      exact K.round_endW (L'' := [K.blk b5 54 [.string (m.ps.getD i default).nm, .int .i64 (m.ps.getD i default).x, .int .i64 (m.ps.getD i default).y, .int .i64 (m.ps.getD i default).len, .int .i64 (m.ps.getD i default).most], K.blk b2 26 [.int .i64 m.W, .int .i64 m.D, .slice A m.hs.length c, .slice B m.ps.length d, .slice C m.ss.length e]]) [.int .i64 ((k : Int) + 1)] ⟨k + 1, rfl, rfl, by omega, K.lt_succ_case hall hz⟩ (by simp [K.nth, intOf]; omega) (List.Sublist.refl _) (by kernel_rfl)
    try replace hg33 := of_decide_eq_false hg33
    refine K.d_skip 10 rfl (by kernel_rfl) rfl ?_
    refine zN ?_
    refine K.d_skip 11 rfl (by kernel_rfl) rfl ?_
    refine zN ?_
    refine K.d_skip 12 rfl (by kernel_rfl) rfl ?_
    refine zN ?_
    refine K.d_skip 13 rfl (by kernel_rfl) rfl ?_
    refine zN ?_
    refine K.d_skip 14 rfl (by kernel_rfl) rfl ?_
    refine zN ?_
    refine K.d_skip 15 rfl (by kernel_rfl) rfl ?_
    refine zN ?_
    refine K.d_skip 16 rfl (by kernel_rfl) rfl ?_
    refine zN ?_
    refine K.d_skip 17 rfl (by kernel_rfl) rfl ?_
    refine zN ?_
    refine K.d_skip 18 rfl (by kernel_rfl) rfl ?_
    refine zN ?_
    refine K.d_pure 19 rfl (K.pick_f rfl) (by kernel_rfl) rfl ?_
    refine zn ?_
    refine K.d_done (by kernel_rfl) ?_
    refine K.norm_then ?_
    refine K.cond_false rfl ?_
    refine K.skip ?_
    refine K.norm_block ?_
    refine K.norm_then ?_
    refine K.region_lit ?_
    refine qm ?_
    refine qp (K.add_i64 rfl rfl (by omega)) ?_
    refine qa ?_
    refine K.seq_nil ?_
    have hz : atP (m.ps.getD i default).x (m.ps.getD i default).y (m.ps.getD k default) = false := by
      first
        | exact decide_eq_false (fun h => ht43 h.2)
        | exact decide_eq_false (fun h => hg33 h.1)
    exact K.round_endW (L'' := [K.blk b5 54 [.string (m.ps.getD i default).nm, .int .i64 (m.ps.getD i default).x, .int .i64 (m.ps.getD i default).y, .int .i64 (m.ps.getD i default).len, .int .i64 (m.ps.getD i default).most], K.blk b2 26 [.int .i64 m.W, .int .i64 m.D, .slice A m.hs.length c, .slice B m.ps.length d, .slice C m.ss.length e]]) [.int .i64 ((k : Int) + 1)] ⟨k + 1, rfl, rfl, by omega, K.lt_succ_case hall hz⟩ (by simp [K.nth, intOf]; omega) (List.Sublist.refl _) (by kernel_rfl)
  try replace ht21 := of_decide_eq_false ht21
  refine K.exit ?_
  refine K.exit_then ?_
  refine K.exit_then ?_
  refine K.exit_here ?_
  refine K.norm_then ?_
  refine K.seq ?_
  refine sr ?_
  refine qp (K.fieldAddr_lit fo_54_3 rfl) ?_
  refine K.seq_sil (K.load1_own one_3 rfl (K.m0) rfl) rfl ?_
  refine zN ?_
  refine K.seq_call (K.call_g cal_57 (fun F w hF hw => c57 w)) rfl ?_
  refine zN ?_
  first | refine K.seq_pure (K.not_d rfl) rfl ?_ | refine K.seq_pure (K.not_ rfl) rfl ?_
  refine zN ?_
  refine qm ?_
  refine K.split 48 rfl (fun hg48 => ?_) (fun hg48 => ?_)
  · try replace hg48 := of_decide_eq_true hg48
    iterate 6 refine qs ?_
    refine qp (K.pick_t rfl) ?_
    refine sn ?_
    refine K.cond_true rfl ?_
    refine sr ?_
    refine qa ?_
    refine sn ?_
    refine K.ret ?_
    refine K.ret_then ?_
    refine K.end_ret (fun w _ => K.res_tmp rfl w) ?_
    exact K.gives_i rfl (by rw [pinR_0 hF (anyT_f (by omega) (fun j hj => hall j (by omega))), lenE_7 (by omega)])
  try replace hg48 := of_decide_eq_false hg48
  refine qp (K.fieldAddr_lit fo_54_4 rfl) ?_
  refine K.seq_sil (K.load1_own one_3 rfl (K.m0) rfl) rfl ?_
  refine zN ?_
  refine qp (K.fieldAddr_lit fo_54_3 rfl) ?_
  refine K.seq_sil (K.load1_own one_3 rfl (K.m0) rfl) rfl ?_
  refine zN ?_
  refine K.seq_call (K.call_g cal_57 (fun F w hF hw => c57 w)) rfl ?_
  refine zN ?_
  first | refine K.seq_pure (K.not_d rfl) rfl ?_ | refine K.seq_pure (K.not_ rfl) rfl ?_
  refine zN ?_
  refine qp (K.pick_f rfl) ?_
  refine sn ?_
  refine K.cond rfl (fun ht55 => ?_) (fun ht55 => ?_)
  · try replace ht55 := of_decide_eq_true ht55
    refine sr ?_
    refine qa ?_
    refine sn ?_
    refine K.ret ?_
    refine K.ret_then ?_
    refine K.end_ret (fun w _ => K.res_tmp rfl w) ?_
    exact K.gives_i rfl (by rw [pinR_0 hF (anyT_f (by omega) (fun j hj => hall j (by omega))), lenE_7 (by omega)])
  try replace ht55 := of_decide_eq_false ht55
  refine K.skip ?_
  refine K.norm_then ?_
  refine sr ?_
  refine qa ?_
  refine sn ?_
  refine K.ret ?_
  refine K.end_ret (fun w _ => K.res_tmp rfl w) ?_
  exact K.gives_i rfl (by rw [pinR_0 hF (anyT_f (by omega) (fun j hj => hall j (by omega))), lenE_0 (by omega)])

set_option maxRecDepth 100000 in
theorem c17 {m : Mod} {A B C : Option Addr} {c d e : Nat} {w : World} (hH : K.Rd w A 1 K.eI m.hs) (hP : K.Rd w B 5 eN m.ps) (hS : K.Rd w C 4 eS m.ss) (hn : m.hs.length ≤ 4611686018427387904) (hm : m.ps.length ≤ 4611686018427387904) (hk : m.ss.length ≤ 4611686018427387904) :
    Calls Tryd.prog 17 [.agg #[.int .i64 m.W, .int .i64 m.D, .slice A m.hs.length c, .slice B m.ps.length d, .slice C m.ss.length e]].toArray w (K.Gives (K.tup3 (chk m)) w) := by
  refine K.enter (args := [.agg #[.int .i64 m.W, .int .i64 m.D, .slice A m.hs.length c, .slice B m.ps.length d, .slice C m.ss.length e]]) Tryd.func17 rfl (n := 103) rfl ?_
  simp only [List.replicate, List.cons_append, List.nil_append]
  refine sr ?_
  refine K.seq_new (K.box) rfl ?_
  intro b1
  refine zN ?_
  iterate 3 refine qa ?_
  refine sn ?_
  refine K.seq ?_
  refine sr ?_
  refine qp (K.fieldAddr_lit fo_26_0 rfl) ?_
  refine K.seq_sil (K.load1_own one_3 rfl (K.m0) rfl) rfl ?_
  refine zN ?_
  refine K.seq_call (K.call_g cal_57 (fun F w hF hw => c57 w)) rfl ?_
  refine zN ?_
  first | refine K.seq_pure (K.not_d rfl) rfl ?_ | refine K.seq_pure (K.not_ rfl) rfl ?_
  refine zN ?_
  refine qm ?_
  refine K.split 15 rfl (fun hg15 => ?_) (fun hg15 => ?_)
  · try replace hg15 := of_decide_eq_true hg15
    iterate 4 refine qs ?_
    refine qp (K.pick_t rfl) ?_
    refine sn ?_
    refine K.cond_true rfl ?_
    refine sr ?_
    iterate 3 refine qa ?_
    refine sn ?_
    refine K.ret ?_
    refine K.ret_then ?_
    refine K.end_ret (fun w _ => K.res_ttt rfl w) ?_
    exact K.gives (by rw [chk_1 (by omega)]; rfl)
  try replace hg15 := of_decide_eq_false hg15
  refine qp (K.fieldAddr_lit fo_26_1 rfl) ?_
  refine K.seq_sil (K.load1_own one_3 rfl (K.m0) rfl) rfl ?_
  refine zN ?_
  refine K.seq_call (K.call_g cal_57 (fun F w hF hw => c57 w)) rfl ?_
  refine zN ?_
  first | refine K.seq_pure (K.not_d rfl) rfl ?_ | refine K.seq_pure (K.not_ rfl) rfl ?_
  refine zN ?_
  refine qp (K.pick_f rfl) ?_
  refine sn ?_
  refine K.cond rfl (fun ht20 => ?_) (fun ht20 => ?_)
  · try replace ht20 := of_decide_eq_true ht20
    refine sr ?_
    iterate 3 refine qa ?_
    refine sn ?_
    refine K.ret ?_
    refine K.ret_then ?_
    refine K.end_ret (fun w _ => K.res_ttt rfl w) ?_
    exact K.gives (by rw [chk_1 (by omega)]; rfl)
  try replace ht20 := of_decide_eq_false ht20
  have hWD : (1 ≤ m.W ∧ m.W ≤ 8) ∧ (1 ≤ m.D ∧ m.D ≤ 8) := by omega
  have hwd := wd_bd hWD
  refine K.skip ?_
  refine K.norm_then ?_
  refine K.seq ?_
  refine sr ?_
  refine qp (K.fieldAddr_lit fo_26_2 rfl) ?_
  refine K.seq_sil (K.load1_own one_22 rfl (K.m0) rfl) rfl ?_
  refine zN ?_
  refine qp (K.len_sl sl_22 rfl) ?_
  refine qp (K.fieldAddr_lit fo_26_0 rfl) ?_
  refine K.seq_sil (K.load1_own one_3 rfl (K.m0) rfl) rfl ?_
  refine zN ?_
  refine qp (K.fieldAddr_lit fo_26_1 rfl) ?_
  refine K.seq_sil (K.load1_own one_3 rfl (K.m0) rfl) rfl ?_
  refine zN ?_
  refine qp (K.mul_i64 rfl rfl (by omega)) ?_
  refine qp (K.neq rfl rfl) ?_
  refine sn ?_
  refine K.cond rfl (fun ht29 => ?_) (fun ht29 => ?_)
  · try replace ht29 := of_decide_eq_true ht29
    refine sr ?_
    iterate 3 refine qa ?_
    refine sn ?_
    refine K.ret ?_
    refine K.ret_then ?_
    refine K.end_ret (fun w _ => K.res_ttt rfl w) ?_
    exact K.gives (by rw [chk_2 hWD ht29]; rfl)
  try replace ht29 := of_decide_eq_false ht29
  have hl : (m.hs.length : Int) = m.W * m.D := Decidable.not_not.1 ht29
  refine K.skip ?_
  refine K.norm_then ?_
  refine K.seq ?_
  refine sr ?_
  refine qa ?_
  refine sn ?_
  refine K.block ?_
  refine K.loopW [5] [2, 3, 4, 30, 31, 32, 33, 34, 35, 36, 37, 38, 39, 40, 41, 42, 43, 44] (fun vi L => ∃ k : Nat, vi = [.int .i64 (k : Int)] ∧ L = [K.blk b1 26 [.int .i64 m.W, .int .i64 m.D, .slice A m.hs.length c, .slice B m.ps.length d, .slice C m.ss.length e]] ∧ k ≤ m.hs.length ∧ ∀ j, j < k → hgE (m.hs.getD j default) = 0) (fun vi => m.hs.length - (intOf (K.nth vi 0)).toNat) ?_ ?_
  · exact ⟨0, rfl, rfl, Nat.zero_le _, fun j hj => absurd hj (Nat.not_lt_zero j)⟩
  intro vi vr L hJ
  obtain ⟨k, rfl, rfl, hkn, hall⟩ := hJ
  try dsimp only [setd, setn, ev, nth, over, cl, eI, eP, eT, eN, eS, setM, setF, List.map, List.append, List.drop, List.take]
  refine K.seq ?_
  refine sr ?_
  refine qm ?_
  refine qp (K.fieldAddr_lit fo_26_2 rfl) ?_
  refine K.seq_sil (K.load1_own one_22 rfl (K.m0) rfl) rfl ?_
  refine zN ?_
  refine qp (K.len_sl sl_22 rfl) ?_
  refine qp (K.lss rfl rfl) ?_
  refine sn ?_
  refine K.cond rfl (fun ht34 => ?_) (fun ht34 => ?_)
  · try replace ht34 := of_decide_eq_true ht34
    have hk : k < m.hs.length := by omega
    refine K.skip ?_
    refine K.norm_then ?_
    refine K.seq ?_
    refine K.block ?_
    refine sr ?_
    refine qp (K.fieldAddr_lit fo_26_2 rfl) ?_
    refine K.seq_sil (K.load1_own one_22 rfl (K.m0) rfl) rfl ?_
    refine zN ?_
    refine qm ?_
    refine K.seq_ix (M := []) _ hH.sl sl_22 rfl rfl rfl (by omega) rfl ?_
    intro p40 hp40
    refine zN ?_
    refine K.seq_sil (K.load1 one_3 rfl (hp40.any)) rfl ?_
    refine zN ?_
    refine K.seq_call (K.call_g cal_57 (fun F w hF hw => c57 w)) rfl ?_
    refine zN ?_
    first | refine K.seq_pure (K.not_d rfl) rfl ?_ | refine K.seq_pure (K.not_ rfl) rfl ?_
    refine zN ?_
    refine sn ?_
    refine K.cond rfl (fun ht43 => ?_) (fun ht43 => ?_)
    · try replace ht43 := of_decide_eq_true ht43
      refine sr ?_
      refine qm ?_
      iterate 3 refine qa ?_
      refine sn ?_
      refine K.ret ?_
      refine K.ret_block ?_
      refine K.ret_then ?_
      refine K.ret_then ?_
      refine K.ret_block ?_
      refine K.ret_then ?_
      refine K.end_ret (fun w _ => K.res_ttt rfl w) ?_
      exact K.gives (by rw [chk_h hWD hl hk hall ht43]; rfl)
    try replace ht43 := of_decide_eq_false ht43
    refine K.skip ?_
    refine K.norm_block ?_
    refine K.norm_then ?_
    refine K.region_lit ?_
    refine qm ?_
    refine qp (K.add_i64 rfl rfl (by omega)) ?_
    refine qa ?_
    refine K.seq_nil ?_
    exact K.round_endW (L'' := [K.blk b1 26 [.int .i64 m.W, .int .i64 m.D, .slice A m.hs.length c, .slice B m.ps.length d, .slice C m.ss.length e]]) [.int .i64 ((k : Int) + 1)] ⟨k + 1, rfl, rfl, by omega, K.lt_succ_case hall (hg_0 (Decidable.not_not.1 ht43))⟩ (by simp [K.nth, intOf]; omega) (List.Sublist.refl _) (by kernel_rfl)
  try replace ht34 := of_decide_eq_false ht34
  refine K.exit ?_
  refine K.exit_then ?_
  refine K.exit_then ?_
  refine K.exit_here ?_
  refine K.norm_then ?_
  refine K.seq ?_
  refine sr ?_
  refine qp (K.fieldAddr_lit fo_26_3 rfl) ?_
  refine K.seq_sil (K.load1_own one_23 rfl (K.m0) rfl) rfl ?_
  refine zN ?_
  refine qp (K.len_sl sl_23 rfl) ?_
  refine qp (K.gtr rfl rfl) ?_
  refine sn ?_
  refine K.cond rfl (fun ht48 => ?_) (fun ht48 => ?_)
  · try replace ht48 := of_decide_eq_true ht48
    refine sr ?_
    iterate 3 refine qa ?_
    refine sn ?_
    refine K.ret ?_
    refine K.ret_then ?_
    refine K.end_ret (fun w _ => K.res_ttt rfl w) ?_
    exact K.gives (by rw [chk_4 hWD hl (fst_hs (fun j hj => hall j (by omega))) (by omega)]; rfl)
  try replace ht48 := of_decide_eq_false ht48
  refine K.skip ?_
  refine K.norm_then ?_
  refine K.seq ?_
  refine K.nil_row (e := 9) (size := 1) ?_
  refine K.region_lit ?_
  refine qa ?_
  refine sn ?_
  refine K.seq ?_
  refine sr ?_
  refine qa ?_
  refine sn ?_
  refine K.block ?_
  refine K.loopW [6, 7] [2, 3, 4, 8, 49, 50, 51, 52, 53, 54, 55, 56, 57, 58, 59, 60, 61, 62, 63, 64, 65, 66, 67, 68, 69, 70, 71, 72, 73, 74, 75, 76, 77, 78, 79, 80, 81] (fun vi L => ∃ (k : Nat) (Q1 : Option Addr) (q1 : Nat), vi = [.slice Q1 ((m.ps.take k).map (·.nm)).length q1, .int .i64 (k : Int)] ∧ L = [K.row (.slice Q1 ((m.ps.take k).map (·.nm)).length q1) 9 1 ((m.ps.take k).map (·.nm)).length (((m.ps.take k).map (·.nm)).flatMap eB), K.blk b1 26 [.int .i64 m.W, .int .i64 m.D, .slice A m.hs.length c, .slice B m.ps.length d, .slice C m.ss.length e]] ∧ k ≤ m.ps.length ∧ ∀ j, j < k → pinE m.W m.D m.ps j = 0) (fun vi => m.ps.length - (intOf (K.nth vi 1)).toNat) ?_ ?_
  · exact ⟨0, none, 0, rfl, rfl, Nat.zero_le _, fun j hj => absurd hj (Nat.not_lt_zero j)⟩
  intro vi vr L hJ
  obtain ⟨k, Q1, q1, rfl, rfl, hkn, hallp⟩ := hJ
  have hnl : ((m.ps.take k).map (·.nm)).length = k := by rw [List.length_map, List.length_take]; omega
  have hnl2 : ((m.ps.take k).map (·.nm)).length ≤ 4611686018427387904 := by rw [hnl]; omega
  try dsimp only [setd, setn, ev, nth, over, cl, eI, eP, eT, eN, eS, setM, setF, List.map, List.append, List.drop, List.take]
  refine K.seq ?_
  refine sr ?_
  refine qm ?_
  refine qp (K.fieldAddr_lit fo_26_3 rfl) ?_
  refine K.seq_sil (K.load1_own one_23 rfl (K.m1) rfl) rfl ?_
  refine zN ?_
  refine qp (K.len_sl sl_23 rfl) ?_
  refine qp (K.lss rfl rfl) ?_
  refine sn ?_
  refine K.cond rfl (fun ht53 => ?_) (fun ht53 => ?_)
  · try replace ht53 := of_decide_eq_true ht53
    have hk : k < m.ps.length := by omega
    refine K.skip ?_
    refine K.norm_then ?_
    refine K.seq ?_
    refine K.block ?_
    refine K.seq ?_
    refine K.use_row K.m0 (fun hQ => ?_)
    refine K.region_lit ?_
    refine qp (K.fieldAddr_lit fo_26_3 rfl) ?_
    refine K.seq_sil (K.load1_own one_23 rfl (K.m1) rfl) rfl ?_
    refine zN ?_
    refine qm ?_
    refine K.seq_ix (M := []) _ hP.sl sl_23 rfl rfl rfl (by omega) rfl ?_
    intro p59 hp59
    refine zN ?_
    refine qp (K.fieldAddr fo_54_0 rfl) ?_
    refine K.seq_sil (K.load1 one_9 rfl ((K.PtrL.fld hp59 (k := 0)).any)) rfl ?_
    refine zN ?_
    refine qm ?_
    refine K.seq_call (K.call_g cal_58 (fun F w hF hw => (by have hh := K.Rd.own hw (hF _ (K.m0)) hQ (e := eB) (fun _ => rfl) (by decide); exact c58 (l := ((m.ps.take k).map (·.nm))) hh hnl2))) rfl ?_
    refine zN ?_
    refine qa ?_
    refine sn ?_
    refine sr ?_
    refine qm ?_
    refine qp (K.fieldAddr_lit fo_26_3 rfl) ?_
    refine K.seq_sil (K.load1_own one_23 rfl (K.m1) rfl) rfl ?_
    refine zN ?_
    refine qm ?_
    refine K.seq_ix (M := []) _ hP.sl sl_23 rfl rfl rfl (by omega) rfl ?_
    intro p68 hp68
    refine zN ?_
    refine qp (K.fieldAddr fo_54_0 rfl) ?_
    refine K.seq_sil (K.load1 one_9 rfl ((K.PtrL.fld hp68 (k := 0)).any)) rfl ?_
    refine zN ?_
    refine K.seq_new (K.buildSlice (bs86 _)) rfl ?_
    intro b71
    refine zN ?_
    refine K.seq_upd (K.append el_86 rfl rfl (K.PtrL.own' (K.m0)) rfl rfl (by decide) (by omega) (by omega) (fun _ _ => K.rp1)) rfl ?_
    rintro ⟨g72, c72⟩ _
    refine zN ?_
    refine qa ?_
    refine sn ?_
    refine K.seq ?_
    refine sr ?_
    refine qm ?_
    refine qp (K.eql rfl rfl) ?_
    refine sn ?_
    refine K.cond rfl (fun ht74 => ?_) (fun ht74 => ?_)
    · try replace ht74 := of_decide_eq_true ht74
      refine K.region_lit ?_
      refine K.seq_sil (K.loadA_own ag_26 rfl (K.m2) rfl) rfl ?_
      refine zN ?_
      refine qm ?_
      refine K.seq_call (K.call_g cal_59 (fun F w hF hw => c59 hWD.1 hWD.2 (hP.pass hw) hk hm)) rfl ?_
      refine zN ?_
      refine qa ?_
      refine sn ?_
      refine sr ?_
      refine qm ?_
      refine qp (K.neq rfl rfl) ?_
      refine sn ?_
      refine K.cond rfl (fun ht79 => ?_) (fun ht79 => ?_)
      · try replace ht79 := of_decide_eq_true ht79
        refine sr ?_
        iterate 2 refine qm ?_
        iterate 3 refine qa ?_
        refine sn ?_
        refine K.ret ?_
        refine K.ret_block ?_
        refine K.ret_then ?_
        refine K.ret_then ?_
        refine K.ret_block ?_
        refine K.ret_then ?_
        refine K.end_ret (fun w _ => K.res_ttt rfl w) ?_
        have hne : pinE m.W m.D m.ps k ≠ 0 := by rw [pin_fresh, if_pos ht74]; exact ht79
        exact K.gives (by rw [chk_p hWD hl (fst_hs (fun j hj => hall j (by omega))) (by omega) hk hallp hne, pin_fresh, if_pos ht74]; rfl)
      try replace ht79 := of_decide_eq_false ht79
      refine K.skip ?_
      refine K.norm_block ?_
      refine K.norm_then ?_
      refine K.region_lit ?_
      refine qm ?_
      refine qp (K.add_i64 rfl rfl (by omega)) ?_
      refine qa ?_
      refine K.seq_nil ?_
      have hpz : pinE m.W m.D m.ps k = 0 := by
        rw [pin_fresh]
        first
          | (rw [if_pos ht74]; omega)
          | (rw [if_neg ht74]; omega)
      exact K.round_endW (L'' := [K.row (.slice (some ⟨g72, 0, none⟩) (((m.ps.take k).map (·.nm)).length + 1) c72) 9 1 (((m.ps.take k).map (·.nm)).length + 1) (((m.ps.take k).map (·.nm)).flatMap eB ++ [.string (m.ps.getD k default).nm]), K.blk b1 26 [.int .i64 m.W, .int .i64 m.D, .slice A m.hs.length c, .slice B m.ps.length d, .slice C m.ss.length e]]) [.slice (some ⟨g72, 0, none⟩) (((m.ps.take k).map (·.nm)).length + 1) c72, .int .i64 ((k : Int) + 1)] ⟨k + 1, some ⟨g72, 0, none⟩, c72, by rw [take_succ_map _ hk, List.length_append]; rfl, by rw [take_succ_map _ hk, List.length_append, List.flatMap_append]; rfl, by omega, K.lt_succ_case hallp hpz⟩ (by simp [K.nth, intOf]; omega) (by repeat (first | exact List.Sublist.refl _ | apply List.Sublist.cons)) (by kernel_rfl)
    try replace ht74 := of_decide_eq_false ht74
    refine K.skip ?_
    refine K.norm_then ?_
    refine sr ?_
    refine qm ?_
    refine qp (K.neq rfl rfl) ?_
    refine sn ?_
    refine K.cond rfl (fun ht79 => ?_) (fun ht79 => ?_)
    · try replace ht79 := of_decide_eq_true ht79
      refine sr ?_
      iterate 2 refine qm ?_
      iterate 3 refine qa ?_
      refine sn ?_
      refine K.ret ?_
      refine K.ret_block ?_
      refine K.ret_then ?_
      refine K.ret_then ?_
      refine K.ret_block ?_
      refine K.ret_then ?_
      refine K.end_ret (fun w _ => K.res_ttt rfl w) ?_
      have hne : pinE m.W m.D m.ps k ≠ 0 := by rw [pin_fresh, if_neg ht74]; exact ht79
      exact K.gives (by rw [chk_p hWD hl (fst_hs (fun j hj => hall j (by omega))) (by omega) hk hallp hne, pin_fresh, if_neg ht74]; rfl)
    try replace ht79 := of_decide_eq_false ht79
    refine K.skip ?_
    refine K.norm_block ?_
    refine K.norm_then ?_
    refine K.region_lit ?_
    refine qm ?_
    refine qp (K.add_i64 rfl rfl (by omega)) ?_
    refine qa ?_
    refine K.seq_nil ?_
    have hpz : pinE m.W m.D m.ps k = 0 := by
      rw [pin_fresh]
      first
        | (rw [if_pos ht74]; omega)
        | (rw [if_neg ht74]; omega)
    exact K.round_endW (L'' := [K.row (.slice (some ⟨g72, 0, none⟩) (((m.ps.take k).map (·.nm)).length + 1) c72) 9 1 (((m.ps.take k).map (·.nm)).length + 1) (((m.ps.take k).map (·.nm)).flatMap eB ++ [.string (m.ps.getD k default).nm]), K.blk b1 26 [.int .i64 m.W, .int .i64 m.D, .slice A m.hs.length c, .slice B m.ps.length d, .slice C m.ss.length e]]) [.slice (some ⟨g72, 0, none⟩) (((m.ps.take k).map (·.nm)).length + 1) c72, .int .i64 ((k : Int) + 1)] ⟨k + 1, some ⟨g72, 0, none⟩, c72, by rw [take_succ_map _ hk, List.length_append]; rfl, by rw [take_succ_map _ hk, List.length_append, List.flatMap_append]; rfl, by omega, K.lt_succ_case hallp hpz⟩ (by simp [K.nth, intOf]; omega) (by repeat (first | exact List.Sublist.refl _ | apply List.Sublist.cons)) (by kernel_rfl)
  try replace ht53 := of_decide_eq_false ht53
  refine K.exit ?_
  refine K.exit_then ?_
  refine K.exit_then ?_
  refine K.exit_here ?_
  refine K.norm_then ?_
  refine K.seq ?_
  refine sr ?_
  refine qp (K.fieldAddr_lit fo_26_4 rfl) ?_
  refine K.seq_sil (K.load1_own one_24 rfl (K.m1) rfl) rfl ?_
  refine zN ?_
  refine qp (K.len_sl sl_24 rfl) ?_
  refine qp (K.gtr rfl rfl) ?_
  refine sn ?_
  refine K.cond rfl (fun ht85 => ?_) (fun ht85 => ?_)
  · try replace ht85 := of_decide_eq_true ht85
    refine sr ?_
    iterate 3 refine qa ?_
    refine sn ?_
    refine K.ret ?_
    refine K.ret_then ?_
    refine K.end_ret (fun w _ => K.res_ttt rfl w) ?_
    exact K.gives (by rw [chk_6 hWD hl (fst_hs (fun j hj => hall j (by omega))) (by omega) (fst_ps (fun j hj => hallp j (by omega))) (by omega)]; rfl)
  try replace ht85 := of_decide_eq_false ht85
  refine K.skip ?_
  refine K.norm_then ?_
  refine K.seq ?_
  refine sr ?_
  refine qa ?_
  refine sn ?_
  refine K.block ?_
  refine K.loopW [9] [2, 3, 4, 10, 86, 87, 88, 89, 90, 91, 92, 93, 94, 95, 96, 97, 98, 99, 100, 101, 102, 103] (fun vi L => ∃ (j : Nat), vi = [.int .i64 (j : Int)] ∧ L = [K.row (.slice Q1 ((m.ps.take k).map (·.nm)).length q1) 9 1 ((m.ps.take k).map (·.nm)).length (((m.ps.take k).map (·.nm)).flatMap eB), K.blk b1 26 [.int .i64 m.W, .int .i64 m.D, .slice A m.hs.length c, .slice B m.ps.length d, .slice C m.ss.length e]] ∧ j ≤ m.ss.length ∧ ∀ i, i < j → stE m.W m.D (m.ss.getD i default) = 0) (fun vi => m.ss.length - (intOf (K.nth vi 0)).toNat) ?_ ?_
  · exact ⟨0, rfl, rfl, Nat.zero_le _, fun j hj => absurd hj (Nat.not_lt_zero j)⟩
  intro vi vr L hJ
  obtain ⟨j, rfl, rfl, hjn, halls⟩ := hJ
  try dsimp only [setd, setn, ev, nth, over, cl, eI, eP, eT, eN, eS, setM, setF, List.map, List.append, List.drop, List.take]
  refine K.seq ?_
  refine sr ?_
  refine qm ?_
  refine qp (K.fieldAddr_lit fo_26_4 rfl) ?_
  refine K.seq_sil (K.load1_own one_24 rfl (K.m1) rfl) rfl ?_
  refine zN ?_
  refine qp (K.len_sl sl_24 rfl) ?_
  refine qp (K.lss rfl rfl) ?_
  refine sn ?_
  refine K.cond rfl (fun ht90 => ?_) (fun ht90 => ?_)
  · try replace ht90 := of_decide_eq_true ht90
    have hj : j < m.ss.length := by omega
    refine K.skip ?_
    refine K.norm_then ?_
    refine K.seq ?_
    refine K.block ?_
    refine K.seq ?_
    refine K.draw_L [] Tryd_mixed ?_
    refine K.d_mem 0 rfl (K.loadA_own ag_26 rfl (K.m1) rfl) (fun _ h => h) (by kernel_rfl) (by kernel_rfl) rfl ?_
    refine zN ?_
    refine K.d_pure 1 rfl (K.fieldAddr_lit fo_26_4 rfl) (by kernel_rfl) rfl ?_
    refine zn ?_
    refine K.d_mem 2 rfl (K.load1_own one_24 rfl (K.m1) rfl) (fun _ h => h) (by kernel_rfl) (by kernel_rfl) rfl ?_
    refine zN ?_
    refine K.d_pure 3 rfl (K.move) (by kernel_rfl) rfl ?_
    refine zn ?_
    refine K.d_ix (M := []) 4 _ rfl hS.sl sl_24 rfl rfl rfl (by omega) (by kernel_rfl) rfl ?_
    intro p97 hp97
    refine zN ?_
    refine K.d_mem 5 rfl (K.loadA_p ag_63 rfl (hp97.any) rfl) (fun _ h => h) (by kernel_rfl) (by kernel_rfl) rfl ?_
    refine zN ?_
    refine K.d_call 6 rfl (K.call_g cal_60 (fun F w hF hw => c60 (s := m.ss.getD j default) hWD.1 hWD.2)) (fun _ h => h) (by kernel_rfl) rfl ?_
    refine zN ?_
    refine K.d_pure 7 rfl (K.assign) (by kernel_rfl) rfl ?_
    refine zn ?_
    refine K.d_done (by kernel_rfl) ?_
    refine K.norm_then ?_
    refine sr ?_
    refine qm ?_
    refine qp (K.neq rfl rfl) ?_
    refine sn ?_
    refine K.cond rfl (fun ht101 => ?_) (fun ht101 => ?_)
    · try replace ht101 := of_decide_eq_true ht101
      refine sr ?_
      iterate 2 refine qm ?_
      iterate 3 refine qa ?_
      refine sn ?_
      refine K.ret ?_
      refine K.ret_block ?_
      refine K.ret_then ?_
      refine K.ret_then ?_
      refine K.ret_block ?_
      refine K.ret_then ?_
      refine K.end_ret (fun w _ => K.res_ttt rfl w) ?_
      exact K.gives (by rw [chk_s hWD hl (fst_hs (fun j hj => hall j (by omega))) (by omega) (fst_ps (fun j hj => hallp j (by omega))) (by omega) hj halls ht101]; rfl)
    try replace ht101 := of_decide_eq_false ht101
    refine K.skip ?_
    refine K.norm_block ?_
    refine K.norm_then ?_
    refine K.region_lit ?_
    refine qm ?_
    refine qp (K.add_i64 rfl rfl (by omega)) ?_
    refine qa ?_
    refine K.seq_nil ?_
    exact K.round_endW (L'' := [K.row (.slice Q1 ((m.ps.take k).map (·.nm)).length q1) 9 1 ((m.ps.take k).map (·.nm)).length (((m.ps.take k).map (·.nm)).flatMap eB), K.blk b1 26 [.int .i64 m.W, .int .i64 m.D, .slice A m.hs.length c, .slice B m.ps.length d, .slice C m.ss.length e]]) [.int .i64 ((j : Int) + 1)] ⟨j + 1, rfl, rfl, by omega, K.lt_succ_case halls (Decidable.not_not.1 ht101)⟩ (by simp [K.nth, intOf]; omega) (by repeat (first | exact List.Sublist.refl _ | apply List.Sublist.cons)) (by kernel_rfl)
  try replace ht90 := of_decide_eq_false ht90
  refine K.exit ?_
  refine K.exit_then ?_
  refine K.exit_then ?_
  refine K.exit_here ?_
  refine K.norm_then ?_
  refine sr ?_
  iterate 3 refine qa ?_
  refine sn ?_
  refine K.ret ?_
  refine K.end_ret (fun w _ => K.res_ttt rfl w) ?_
  exact K.gives (by rw [chk_0 hWD hl (fst_hs (fun j hj => hall j (by omega))) (by omega) (fst_ps (fun j hj => hallp j (by omega))) (by omega) (by rw [K.fst_none (fun j hj => halls j (by omega))])]; rfl)

theorem g17 {m : Mod} {A B C : Option Addr} {c d e : Nat} {w : World} (hH : K.Rd w A 1 K.eI m.hs) (hP : K.Rd w B 5 eN m.ps) (hS : K.Rd w C 4 eS m.ss) (hn : m.hs.length ≤ 4611686018427387904) (hm : m.ps.length ≤ 4611686018427387904) (hk : m.ss.length ≤ 4611686018427387904) (hc : chk m = (0, 0, 0)) : Calls Tryd.prog 17 [.agg #[.int .i64 m.W, .int .i64 m.D, .slice A m.hs.length c, .slice B m.ps.length d, .slice C m.ss.length e]].toArray w (K.Gives (.tuple #[.int .i64 0, .int .i64 0, .int .i64 0]) w) := by
  have h := c17 (c := c) (d := d) (e := e) hH hP hS hn hm hk
  rw [hc] at h; exact h

end Go.Proofs.YthkgnhcknkjgdaaDoor
