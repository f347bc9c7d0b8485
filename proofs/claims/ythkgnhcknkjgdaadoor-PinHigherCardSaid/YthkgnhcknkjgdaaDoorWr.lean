/-
  Walks of the program's functions, printed by program: what each returns.
  Conditions stand in each theorem.
-/
import Derived.WalkArith
import Derived.Laws.Closers25b
import Derived.Test.YthkgnhcknkjgdaaDoorWl
import Derived.Test.YthkgnhcknkjgdaaDoorWq
set_option linter.unusedSimpArgs false
set_option linter.unusedVariables false
namespace Go.Proofs.YthkgnhcknkjgdaaDoor
open Go.RowKit Go
open Go.K (setd setn ev nth over cl eI eP eT setM setF)
attribute [local irreducible] K.blk K.row

set_option maxRecDepth 100000 in
theorem e26 {m : Mod} {A B C : Option Addr} {c d e : Nat} {w : World} (hH : K.Rd w A 1 K.eI m.hs) (hP : K.Rd w B 5 eN m.ps) (hS : K.Rd w C 4 eS m.ss) (hn : m.hs.length ≤ 4611686018427387904) (hm : m.ps.length ≤ 4611686018427387904) (hk : m.ss.length ≤ 4611686018427387904) (hcd : m.ps.length ≤ d) (hc : (chk m).2.2 ≠ 0) :
    Calls Tryd.prog 26 [.agg #[.int .i64 m.W, .int .i64 m.D, .slice A m.hs.length c, .slice B m.ps.length d, .slice C m.ss.length e]].toArray w (K.RetSE 3 1 K.eI (lngL m) (lngE m) w) := by
  have he : lngE m = (chk m).2.2 := by unfold lngE; rw [if_pos hc]
  have hne : lngE m ≠ 0 := by omega
  have hl0 : lngL m = [] := by unfold lngL; rw [if_neg hne]
  
  refine K.enter (args := [.agg #[.int .i64 m.W, .int .i64 m.D, .slice A m.hs.length c, .slice B m.ps.length d, .slice C m.ss.length e]]) Tryd.func26 rfl (n := 29) rfl ?_
  simp only [List.replicate, List.cons_append, List.nil_append]
  refine sr ?_
  refine K.seq_new (K.box) rfl ?_
  intro b1
  refine zN ?_
  iterate 2 refine qa ?_
  refine sn ?_
  refine sr ?_
  refine K.seq_sil (K.loadA_own ag_26 rfl (K.m0) rfl) rfl ?_
  refine zN ?_
  refine K.seq_call (K.call_g cal_67 (fun F w hF hw => e67 (hH.pass hw) (hP.pass hw) (hS.pass hw) hn hm hk hcd hc)) rfl ?_
  refine zN ?_
  refine qm ?_
  refine qx ?_
  refine qx ?_
  iterate 2 refine qa ?_
  refine sn ?_
  refine K.seq ?_
  refine sr ?_
  refine qm ?_
  refine qp (K.neq rfl rfl) ?_
  refine sn ?_
  refine K.cond_true (by exact congrArg Value.bool (decide_eq_true hc)) ?_
  refine sr ?_
  refine qm ?_
  iterate 2 refine qa ?_
  refine sn ?_
  refine K.ret ?_
  refine K.ret_then ?_
  refine K.end_ret (fun w _ => K.res_tmp2 rfl w) ?_
  exact K.rets_se0 hl0 he.symm rfl

set_option maxRecDepth 100000 in
theorem g26 {m : Mod} {A B C : Option Addr} {c d e : Nat} {w : World} (hH : K.Rd w A 1 K.eI m.hs) (hP : K.Rd w B 5 eN m.ps) (hS : K.Rd w C 4 eS m.ss) (hn : m.hs.length ≤ 4611686018427387904) (hm : m.ps.length ≤ 4611686018427387904) (hk : m.ss.length ≤ 4611686018427387904) (hcd : m.ps.length ≤ d) (hc : (chk m).2.2 = 0) :
    Calls Tryd.prog 26 [.agg #[.int .i64 m.W, .int .i64 m.D, .slice A m.hs.length c, .slice B m.ps.length d, .slice C m.ss.length e]].toArray w (K.RetSE 3 1 K.eI (lngL m) (lngE m) w) := by
  have g : Good m := chk_good hc
  have hgn := g.n
  have htl : ((roundsS m).1.take m.ps.length).length = m.ps.length := by rw [List.length_take, rounds_len]; omega
  refine K.enter (args := [.agg #[.int .i64 m.W, .int .i64 m.D, .slice A m.hs.length c, .slice B m.ps.length d, .slice C m.ss.length e]]) Tryd.func26 rfl (n := 29) rfl ?_
  simp only [List.replicate, List.cons_append, List.nil_append]
  refine sr ?_
  refine K.seq_new (K.box) rfl ?_
  intro b1
  refine zN ?_
  iterate 2 refine qa ?_
  refine sn ?_
  refine sr ?_
  refine K.seq_sil (K.loadA_own ag_26 rfl (K.m0) rfl) rfl ?_
  refine zN ?_
  refine K.seq_loud (K.call_f cal_67 (fun F w hF hw => g67 (hH.pass hw) (hP.pass hw) (hS.pass hw) hn hm hk hcd (chk_e0 hc))) rfl ?_
  rintro q _
  refine zN ?_
  refine qm ?_
  refine qx ?_
  refine qx ?_
  iterate 2 refine qa ?_
  refine sn ?_
  refine K.seq ?_
  refine sr ?_
  refine qm ?_
  refine qp (K.neq rfl rfl) ?_
  refine sn ?_
  refine K.cond_false (by rfl) ?_
  refine K.skip ?_
  refine K.norm_then ?_
  refine sr ?_
  refine qm ?_
  refine K.seq_call (K.call_g cal_75 (fun F w hF hw => c75 (K.PtrL.now hw (hF _ (K.m0))) (K.blk_lt hw (hF _ (K.m0))) (hP.pass hw) (hS.pass hw) g)) rfl ?_
  refine zN ?_
  refine qm ?_
  refine qx ?_
  refine qx ?_
  refine qx ?_
  refine K.seq_new (K.alloc zr_98) rfl ?_
  intro b6
  refine zN ?_
  refine K.seq_st (K.store_all sz_98 rfl rfl rfl rfl (K.rp0)) rfl ?_
  refine zN ?_
  iterate 2 refine qa ?_
  refine sn ?_
  refine K.seq ?_
  refine sr ?_
  refine qm ?_
  refine qp (K.neq rfl rfl) ?_
  refine sn ?_
  refine K.cond rfl (fun ht24 => ?_) (fun ht24 => ?_)
  · try replace ht24 := of_decide_eq_true ht24
    refine sr ?_
    iterate 2 refine qa ?_
    refine sn ?_
    refine K.ret ?_
    refine K.ret_then ?_
    refine K.end_ret (fun w _ => K.res_tmp2 rfl w) ?_
    have he : lngE m = 9 := by unfold lngE; rw [if_neg (by omega), if_pos ht24]
    have hne : lngE m ≠ 0 := by omega
    have hl0 : lngL m = [] := by unfold lngL; rw [if_neg hne]
    exact K.rets_se0 hl0 he.symm rfl
  try replace ht24 := of_decide_eq_false ht24
  refine K.skip ?_
  refine K.norm_then ?_
  refine sr ?_
  refine qp (K.fieldAddr_lit fo_26_3 rfl) ?_
  refine K.seq_sil (K.load1_own one_23 rfl (K.m2) rfl) rfl ?_
  refine zN ?_
  refine qp (K.len_sl sl_23 rfl) ?_
  refine K.seq_pure (K.Pure.eq (K.slice_ar m.ps.length ar_98 rfl rfl rfl (by omega)) (show _ = Value.slice (some ⟨b6, 0, none⟩) ((roundsS m).1.take m.ps.length).length 6 from by rw [htl])) rfl ?_
  refine zN ?_
  refine K.seq_loud (K.call_f cal_76 (fun F w hF hw => (by have hh := K.Rd.litp (e := K.eI) (xs := ((roundsS m).1.take m.ps.length)) hw (hF _ (K.m0)) (fun _ => rfl) (by decide) (ln_take rounds_len g.n); exact c76 hh (by rw [htl]; omega)))) rfl ?_
  rintro ⟨Q1, q1⟩ hq
  refine zN ?_
  iterate 2 refine qa ?_
  refine sn ?_
  refine K.ret ?_
  refine K.end_ret (fun w _ => K.res_tmp2 rfl w) ?_
  have he : lngE m = 0 := by unfold lngE; rw [if_neg (by omega), if_neg ht24]
  have hl : lngL m = ((roundsS m).1.take m.ps.length) := by unfold lngL; rw [if_pos he]
  rw [hl, he]
  exact K.rets_se K.m0 rfl rfl rfl rfl

theorem c26 {m : Mod} {A B C : Option Addr} {c d e : Nat} {w : World} (hH : K.Rd w A 1 K.eI m.hs) (hP : K.Rd w B 5 eN m.ps) (hS : K.Rd w C 4 eS m.ss) (hn : m.hs.length ≤ 4611686018427387904) (hm : m.ps.length ≤ 4611686018427387904) (hk : m.ss.length ≤ 4611686018427387904) (hcd : m.ps.length ≤ d) : Calls Tryd.prog 26 [.agg #[.int .i64 m.W, .int .i64 m.D, .slice A m.hs.length c, .slice B m.ps.length d, .slice C m.ss.length e]].toArray w (K.RetSE 3 1 K.eI (lngL m) (lngE m) w) := by
  by_cases hc : (chk m).2.2 = 0
  · exact g26 hH hP hS hn hm hk hcd hc
  · exact e26 hH hP hS hn hm hk hcd hc


set_option maxRecDepth 100000 in
theorem e28 {m : Mod} {A B C : Option Addr} {c d e : Nat} {w : World} (hH : K.Rd w A 1 K.eI m.hs) (hP : K.Rd w B 5 eN m.ps) (hS : K.Rd w C 4 eS m.ss) (hn : m.hs.length ≤ 4611686018427387904) (hm : m.ps.length ≤ 4611686018427387904) (hk : m.ss.length ≤ 4611686018427387904) (hcd : m.ps.length ≤ d) (hc : (chk m).2.2 ≠ 0) :
    Calls Tryd.prog 28 [.agg #[.int .i64 m.W, .int .i64 m.D, .slice A m.hs.length c, .slice B m.ps.length d, .slice C m.ss.length e]].toArray w (K.Gives (.tuple #[.int .i64 (stuckS m).1, .int .i64 (stuckS m).2.1, .int .i64 (stuckS m).2.2.1, .int .i64 (stuckS m).2.2.2.1, .int .i64 (stuckS m).2.2.2.2]) w) := by
  refine R.enter (args := [.agg #[.int .i64 m.W, .int .i64 m.D, .slice A m.hs.length c, .slice B m.ps.length d, .slice C m.ss.length e]]) Tryd.func28 rfl (m := 59) rfl ?_
  simp only [List.replicate, List.cons_append, List.nil_append]
  refine R.seq ?_
  refine R.region_lit rfl ?_
  refine K.seq_new (K.box) rfl ?_
  intro b1
  refine zN ?_
  refine K.seq_new (K.alloc zr_3) rfl ?_
  intro b2
  refine zN ?_
  refine K.seq_new (K.alloc zr_3) rfl ?_
  intro b3
  refine zN ?_
  refine K.seq_new (K.alloc zr_3) rfl ?_
  intro b4
  refine zN ?_
  refine K.seq_new (K.alloc zr_3) rfl ?_
  intro b5
  refine zN ?_
  refine K.seq_new (K.alloc zr_29) rfl ?_
  intro b6
  refine zN ?_
  refine K.seq_nil ?_
  refine R.out ?_
  refine R.norm_then ?_
  refine R.seq ?_
  refine R.region_lit rfl ?_
  refine K.seq_sil (K.loadA_own ag_26 rfl (K.m5) rfl) rfl ?_
  refine zN ?_
  refine K.seq_call (K.call_g cal_67 (fun F w hF hw => e67 (hH.pass hw) (hP.pass hw) (hS.pass hw) hn hm hk hcd hc)) rfl ?_
  refine zN ?_
  refine qm ?_
  refine qx ?_
  refine qx ?_
  refine qa ?_
  refine K.seq_st (K.store sz_29 rfl rfl rfl rfl (K.rp0)) rfl ?_
  refine zN ?_
  refine K.seq_nil ?_
  refine R.out ?_
  refine R.norm_then ?_
  refine R.seq ?_
  refine R.seq ?_
  refine R.region_lit rfl ?_
  refine K.seq_sil (K.load1_own one_29 rfl (K.m0) rfl) rfl ?_
  refine zN ?_
  refine qp (K.neq rfl rfl) ?_
  refine K.seq_nil ?_
  refine R.out ?_
  refine R.norm_then ?_
  refine R.cond_true (by exact congrArg Value.bool (decide_eq_true hc)) ?_
  refine R.seq ?_
  refine R.draw_take 1 [] Tryd_mixed rfl ?_
  refine K.d_mem 0 rfl (K.load1_own one_29 rfl (K.m0) rfl) (fun _ h => K.take_sub 1 _ h) (by kernel_rfl) (by kernel_rfl) rfl ?_
  refine zN ?_
  refine K.d_upd 1 rfl (K.store sz_3 rfl rfl rfl rfl (K.rp4)) (fun _ => fun _ h => K.take_sub 1 _ h) (by kernel_rfl) rfl ?_
  intro _ _
  refine zN ?_
  refine K.d_upd 2 rfl (K.store sz_3 rfl rfl rfl rfl (K.rp3)) (fun _ => fun _ h => K.take_sub 1 _ h) (by kernel_rfl) rfl ?_
  intro _ _
  refine zN ?_
  refine K.d_upd 3 rfl (K.store sz_3 rfl rfl rfl rfl (K.rp2)) (fun _ => fun _ h => K.take_sub 1 _ h) (by kernel_rfl) rfl ?_
  intro _ _
  refine zN ?_
  refine K.d_upd 4 rfl (K.store sz_3 rfl rfl rfl rfl (K.rp1)) (fun _ => fun _ h => K.take_sub 1 _ h) (by kernel_rfl) rfl ?_
  intro _ _
  refine zN ?_
  refine K.d_upd 5 rfl (K.store sz_29 rfl rfl rfl rfl (K.rp0)) (fun _ => fun _ h => K.take_sub 1 _ h) (by kernel_rfl) rfl ?_
  intro _ _
  refine zN ?_
  refine K.d_done (by kernel_rfl) ?_
  refine R.out ?_
  refine R.norm_then ?_
  refine R.ret ?_
  refine R.ret_then ?_
  refine R.end_ret (fun w hw => K.res_c5 rfl rfl rfl rfl rfl rfl (K.run_cell1 one_3 rfl (K.m4) w hw) (K.run_cell1 one_3 rfl (K.m3) w hw) (K.run_cell1 one_3 rfl (K.m2) w hw) (K.run_cell1 one_3 rfl (K.m1) w hw) (K.run_cell1 one_29 rfl (K.m0) w hw)) ?_
  exact K.gives (by unfold stuckS; rw [if_pos hc])

set_option maxRecDepth 100000 in
theorem f28 {m : Mod} {A B C : Option Addr} {c d e : Nat} {w : World} (hH : K.Rd w A 1 K.eI m.hs) (hP : K.Rd w B 5 eN m.ps) (hS : K.Rd w C 4 eS m.ss) (hn : m.hs.length ≤ 4611686018427387904) (hm : m.ps.length ≤ 4611686018427387904) (hk : m.ss.length ≤ 4611686018427387904) (hcd : m.ps.length ≤ d) (hc : (chk m).2.2 = 0) (hp : (roundsS m).2.2 = -1) :
    Calls Tryd.prog 28 [.agg #[.int .i64 m.W, .int .i64 m.D, .slice A m.hs.length c, .slice B m.ps.length d, .slice C m.ss.length e]].toArray w (K.Gives (.tuple #[.int .i64 (stuckS m).1, .int .i64 (stuckS m).2.1, .int .i64 (stuckS m).2.2.1, .int .i64 (stuckS m).2.2.2.1, .int .i64 (stuckS m).2.2.2.2]) w) := by
  have g : Good m := chk_good hc
  refine R.enter (args := [.agg #[.int .i64 m.W, .int .i64 m.D, .slice A m.hs.length c, .slice B m.ps.length d, .slice C m.ss.length e]]) Tryd.func28 rfl (m := 59) rfl ?_
  simp only [List.replicate, List.cons_append, List.nil_append]
  refine R.seq ?_
  refine R.region_lit rfl ?_
  refine K.seq_new (K.box) rfl ?_
  intro b1
  refine zN ?_
  refine K.seq_new (K.alloc zr_3) rfl ?_
  intro b2
  refine zN ?_
  refine K.seq_new (K.alloc zr_3) rfl ?_
  intro b3
  refine zN ?_
  refine K.seq_new (K.alloc zr_3) rfl ?_
  intro b4
  refine zN ?_
  refine K.seq_new (K.alloc zr_3) rfl ?_
  intro b5
  refine zN ?_
  refine K.seq_new (K.alloc zr_29) rfl ?_
  intro b6
  refine zN ?_
  refine K.seq_nil ?_
  refine R.out ?_
  refine R.norm_then ?_
  refine R.seq ?_
  refine R.region_lit rfl ?_
  refine K.seq_sil (K.loadA_own ag_26 rfl (K.m5) rfl) rfl ?_
  refine zN ?_
  refine K.seq_loud (K.call_f cal_67 (fun F w hF hw => g67 (hH.pass hw) (hP.pass hw) (hS.pass hw) hn hm hk hcd (chk_e0 hc))) rfl ?_
  rintro q _
  refine zN ?_
  refine qm ?_
  refine qx ?_
  refine qx ?_
  refine qa ?_
  refine K.seq_st (K.store sz_29 rfl rfl rfl rfl (K.rp1)) rfl ?_
  refine zN ?_
  refine K.seq_nil ?_
  refine R.out ?_
  refine R.norm_then ?_
  refine R.seq ?_
  refine R.seq ?_
  refine R.region_lit rfl ?_
  refine K.seq_sil (K.load1_own one_29 rfl (K.m1) rfl) rfl ?_
  refine zN ?_
  refine qp (K.neq rfl rfl) ?_
  refine K.seq_nil ?_
  refine R.out ?_
  refine R.norm_then ?_
  refine R.cond_false (by rfl) ?_
  refine R.skip ?_
  refine R.norm_then ?_
  refine R.seq ?_
  refine R.region_lit rfl ?_
  refine qm ?_
  refine K.seq_call (K.call_g cal_75 (fun F w hF hw => c75 (K.PtrL.now hw (hF _ (K.m0))) (K.blk_lt hw (hF _ (K.m0))) (hP.pass hw) (hS.pass hw) g)) rfl ?_
  refine zN ?_
  refine qm ?_
  refine qx ?_
  refine qx ?_
  refine qx ?_
  refine K.seq_new (K.alloc zr_98) rfl ?_
  intro b8
  refine zN ?_
  refine K.seq_st (K.store_all sz_98 rfl rfl rfl rfl (K.rp0)) rfl ?_
  refine zN ?_
  refine K.seq_st (K.store sz_3 rfl rfl rfl rfl (K.rp6)) rfl ?_
  refine zN ?_
  refine K.seq_st (K.store sz_3 rfl rfl rfl rfl (K.rp5)) rfl ?_
  refine zN ?_
  refine K.seq_nil ?_
  refine R.out ?_
  refine R.norm_then ?_
  refine R.seq ?_
  refine R.seq ?_
  refine R.region_lit rfl ?_
  refine K.seq_sil (K.load1_own one_3 rfl (K.m5) rfl) rfl ?_
  refine zN ?_
  refine qp (K.neq rfl rfl) ?_
  refine K.seq_nil ?_
  refine R.out ?_
  refine R.norm_then ?_
  refine R.cond_false (by exact congrArg Value.bool (decide_eq_false (by omega))) ?_
  refine R.skip ?_
  refine R.norm_then ?_
  refine R.seq ?_
  refine R.region_lit rfl ?_
  refine K.seq_st (K.store sz_3 rfl rfl rfl rfl (K.rp6)) rfl ?_
  refine zN ?_
  refine K.seq_st (K.store sz_3 rfl rfl rfl rfl (K.rp5)) rfl ?_
  refine zN ?_
  refine K.seq_st (K.store sz_3 rfl rfl rfl rfl (K.rp4)) rfl ?_
  refine zN ?_
  refine K.seq_st (K.store sz_3 rfl rfl rfl rfl (K.rp3)) rfl ?_
  refine zN ?_
  refine K.seq_st (K.store sz_29 rfl rfl rfl rfl (K.rp2)) rfl ?_
  refine zN ?_
  refine K.seq_nil ?_
  refine R.out ?_
  refine R.norm_then ?_
  refine R.ret ?_
  refine R.end_ret (fun w hw => K.res_c5 rfl rfl rfl rfl rfl rfl (K.run_cell1 one_3 rfl (K.m6) w hw) (K.run_cell1 one_3 rfl (K.m5) w hw) (K.run_cell1 one_3 rfl (K.m4) w hw) (K.run_cell1 one_3 rfl (K.m3) w hw) (K.run_cell1 one_29 rfl (K.m2) w hw)) ?_
  exact K.gives (by unfold stuckS; rw [if_neg (by omega), if_pos hp])

set_option maxRecDepth 100000 in
set_option maxHeartbeats 2000000 in
theorem g28 {m : Mod} {A B C : Option Addr} {c d e : Nat} {p : Nat} {w : World} (hH : K.Rd w A 1 K.eI m.hs) (hP : K.Rd w B 5 eN m.ps) (hS : K.Rd w C 4 eS m.ss) (hn : m.hs.length ≤ 4611686018427387904) (hm : m.ps.length ≤ 4611686018427387904) (hk : m.ss.length ≤ 4611686018427387904) (hcd : m.ps.length ≤ d) (hc : (chk m).2.2 = 0) (hp : (roundsS m).2.2 = (p : Int)) (hpn : p < m.ps.length) :
    Calls Tryd.prog 28 [.agg #[.int .i64 m.W, .int .i64 m.D, .slice A m.hs.length c, .slice B m.ps.length d, .slice C m.ss.length e]].toArray w (K.Gives (.tuple #[.int .i64 (stuckS m).1, .int .i64 (stuckS m).2.1, .int .i64 (stuckS m).2.2.1, .int .i64 (stuckS m).2.2.2.1, .int .i64 (stuckS m).2.2.2.2]) w) := by
  have g : Good m := chk_good hc
  have hgn := g.n
  have hlb := stkL_lb g hpn
  have hpv : pinV (some p) = (p : Int) := rfl
  refine R.enter (args := [.agg #[.int .i64 m.W, .int .i64 m.D, .slice A m.hs.length c, .slice B m.ps.length d, .slice C m.ss.length e]]) Tryd.func28 rfl (m := 59) rfl ?_
  simp only [List.replicate, List.cons_append, List.nil_append]
  refine R.seq ?_
  refine R.region_lit rfl ?_
  refine K.seq_new (K.box) rfl ?_
  intro b1
  refine zN ?_
  refine K.seq_new (K.alloc zr_3) rfl ?_
  intro b2
  refine zN ?_
  refine K.seq_new (K.alloc zr_3) rfl ?_
  intro b3
  refine zN ?_
  refine K.seq_new (K.alloc zr_3) rfl ?_
  intro b4
  refine zN ?_
  refine K.seq_new (K.alloc zr_3) rfl ?_
  intro b5
  refine zN ?_
  refine K.seq_new (K.alloc zr_29) rfl ?_
  intro b6
  refine zN ?_
  refine K.seq_nil ?_
  refine R.out ?_
  refine R.norm_then ?_
  refine R.seq ?_
  refine R.region_lit rfl ?_
  refine K.seq_sil (K.loadA_own ag_26 rfl (K.m5) rfl) rfl ?_
  refine zN ?_
  refine K.seq_loud (K.call_f cal_67 (fun F w hF hw => g67 (hH.pass hw) (hP.pass hw) (hS.pass hw) hn hm hk hcd (chk_e0 hc))) rfl ?_
  rintro q _
  refine zN ?_
  refine qm ?_
  refine qx ?_
  refine qx ?_
  refine qa ?_
  refine K.seq_st (K.store sz_29 rfl rfl rfl rfl (K.rp1)) rfl ?_
  refine zN ?_
  refine K.seq_nil ?_
  refine R.out ?_
  refine R.norm_then ?_
  refine R.seq ?_
  refine R.seq ?_
  refine R.region_lit rfl ?_
  refine K.seq_sil (K.load1_own one_29 rfl (K.m1) rfl) rfl ?_
  refine zN ?_
  refine qp (K.neq rfl rfl) ?_
  refine K.seq_nil ?_
  refine R.out ?_
  refine R.norm_then ?_
  refine R.cond_false (by rfl) ?_
  refine R.skip ?_
  refine R.norm_then ?_
  refine R.seq ?_
  refine R.region_lit rfl ?_
  refine qm ?_
  refine K.seq_call (K.call_g cal_75 (fun F w hF hw => c75 (K.PtrL.now hw (hF _ (K.m0))) (K.blk_lt hw (hF _ (K.m0))) (hP.pass hw) (hS.pass hw) g)) rfl ?_
  refine zN ?_
  refine qm ?_
  refine qx ?_
  refine qx ?_
  refine K.seq_pure (K.extract rfl rfl) rfl ?_
  refine zN ?_
  rw [hp]
  refine zN ?_
  refine K.seq_new (K.alloc zr_98) rfl ?_
  intro b8
  refine zN ?_
  refine K.seq_st (K.store_all sz_98 rfl rfl rfl rfl (K.rp0)) rfl ?_
  refine zN ?_
  refine K.seq_st (K.store sz_3 rfl rfl rfl rfl (K.rp6)) rfl ?_
  refine zN ?_
  refine K.seq_st (K.store sz_3 rfl rfl rfl rfl (K.rp5)) rfl ?_
  refine zN ?_
  refine K.seq_nil ?_
  refine R.out ?_
  refine R.norm_then ?_
  refine R.seq ?_
  refine R.seq ?_
  refine R.region_lit rfl ?_
  refine K.seq_sil (K.load1_own one_3 rfl (K.m5) rfl) rfl ?_
  refine zN ?_
  refine qp (K.neq rfl rfl) ?_
  refine K.seq_nil ?_
  refine R.out ?_
  refine R.norm_then ?_
  refine R.cond_true (by exact congrArg Value.bool (decide_eq_true (by omega))) ?_
  refine R.seq ?_
  refine R.draw_L [8] Tryd_mixed rfl ?_
  refine K.d_mem 0 rfl (K.load1_own one_3 rfl (K.m5) rfl) (fun _ h => h) (by kernel_rfl) (by kernel_rfl) rfl ?_
  refine zN ?_
  refine K.d_pure 1 rfl (K.fieldAddr_lit fo_26_3 rfl) (by kernel_rfl) rfl ?_
  refine zn ?_
  refine K.d_mem 2 rfl (K.load1_own one_23 rfl (K.m7) rfl) (fun _ h => h) (by kernel_rfl) (by kernel_rfl) rfl ?_
  refine zN ?_
  refine K.d_mem 3 rfl (K.load1_own one_3 rfl (K.m5) rfl) (fun _ h => h) (by kernel_rfl) (by kernel_rfl) rfl ?_
  refine zN ?_
  refine K.d_ix (M := []) 4 _ rfl hP.sl sl_23 rfl rfl rfl (by omega) (by kernel_rfl) rfl ?_
  intro p32 hp32
  refine zN ?_
  refine K.d_pure 5 rfl (K.fieldAddr fo_54_4 rfl) (by kernel_rfl) rfl ?_
  refine zn ?_
  refine K.d_mem 6 rfl (K.load1 one_3 rfl ((K.PtrL.fld hp32 (k := 4)).any)) (fun _ h => h) (by kernel_rfl) (by kernel_rfl) rfl ?_
  refine zN ?_
  refine K.d_pure 7 rfl (K.indexAddr_ar ar_98 rfl rfl (by omega) (by omega)) (by kernel_rfl) rfl ?_
  refine zN ?_
  refine K.d_last 8 rfl (K.store_ix sz_3 rfl rfl (by show 0 + ((p : Int)).toNat * 1 + 1 ≤ 6; omega) rfl (K.rp0)) rfl (by kernel_rfl) rfl ?_
  intro _ _
  refine zN ?_
  rw [show 0 + ((p : Int)).toNat * 1 = p by omega, ln_set (by omega) rounds_len]
  refine zN ?_
  refine K.d_done (by kernel_rfl) ?_
  refine R.out ?_
  refine R.norm_then ?_
  refine R.seq ?_
  refine R.region_lit rfl ?_
  refine qp (K.fieldAddr_lit fo_26_4 rfl) ?_
  refine K.seq_sil (K.load1_own one_24 rfl (K.m7) rfl) rfl ?_
  refine zN ?_
  refine qp (K.len_sl sl_24 rfl) ?_
  refine qm ?_
  refine K.seq_nil ?_
  refine R.out ?_
  refine R.norm_then ?_
  refine R.block ?_
  refine R.loopD [39] [9, 10, 11, 40, 41, 42, 43, 44, 45, 46, 47, 48, 49, 50, 51, 52, 53, 55, 56, 57, 58, 59] (fun vi L => ∃ j : Nat, vi = [.int .i64 (j : Int)] ∧ L = [K.blk b8 98 (ln (stkL m p)), K.blk q 101 (mdl m A B C c d e), K.blk b6 29 [.int .i64 0], K.blk b5 3 [.int .i64 0], K.blk b4 3 [.int .i64 0], K.blk b3 3 [.int .i64 (p : Int)], K.blk b2 3 [.int .i64 (roundsS m).2.1], K.blk b1 26 [.int .i64 m.W, .int .i64 m.D, .slice A m.hs.length c, .slice B m.ps.length d, .slice C m.ss.length e]] ∧ j ≤ m.ss.length ∧ ∀ i, i < j → stkB m p i = true) (fun vi => m.ss.length - (intOf (K.nth vi 0)).toNat) ?_ ?_
  · exact ⟨0, rfl, rfl, Nat.zero_le _, fun j hj => absurd hj (Nat.not_lt_zero j)⟩
  intro vi vr L bs hJ
  obtain ⟨j, rfl, rfl, hjn, hall⟩ := hJ
  try dsimp only [List.cons_append, List.nil_append]
  try dsimp only [setd, setn, ev, nth, over, cl, eI, eP, eT, eN, eS, setM, setF, List.map, List.append, List.drop, List.take]
  refine R.seq ?_
  refine R.region_lit rfl ?_
  refine qp (K.lss rfl rfl) ?_
  refine K.seq_nil ?_
  refine R.out ?_
  refine R.norm_then ?_
  refine R.seq ?_
  refine R.cond rfl (fun ht40 => ?_) (fun ht40 => ?_)
  · try replace ht40 := of_decide_eq_true ht40
    have hj : j < m.ss.length := by omega
    have hst := g.st hj
    have hW : Way m (m.ss.getD j default).x (m.ss.getD j default).y p := ⟨g, hpn, by omega, by omega⟩
    refine R.skip ?_
    refine R.norm_then ?_
    refine R.seq ?_
    refine R.block ?_
    refine R.seq ?_
    refine R.region_lit rfl ?_
    refine qm ?_
    refine K.seq_ix (M := []) _ hS.sl sl_24 rfl rfl rfl (by omega) rfl ?_
    intro p42 hp42
    refine zN ?_
    refine K.seq_sil (K.loadA_p ag_63 rfl (hp42.any) rfl) rfl ?_
    refine zN ?_
    refine K.seq_new (K.alloc zr_3) rfl ?_
    intro b9
    refine zN ?_
    refine K.seq_new (K.alloc zr_63) rfl ?_
    intro b10
    refine zN ?_
    refine K.seq_st (K.store sz_3 rfl rfl rfl rfl (K.rp1)) rfl ?_
    refine zN ?_
    refine K.seq_st (K.store_all sz_63 rfl rfl rfl rfl (K.rp0)) rfl ?_
    refine zN ?_
    refine K.seq_nil ?_
    refine R.out ?_
    refine R.norm_then ?_
    refine R.seq ?_
    refine R.draw_L [] Tryd_mixed rfl ?_
    refine K.d_pure 0 rfl (K.move) (by kernel_rfl) rfl ?_
    refine zn ?_
    refine K.d_mem 1 rfl (K.loadA_own ag_98 rfl (K.m2) rfl) (fun _ h => h) (by kernel_rfl) (by kernel_rfl) rfl ?_
    refine zN ?_
    refine K.d_pure 2 rfl (K.move) (by kernel_rfl) rfl ?_
    refine zn ?_
    refine K.d_mem 3 rfl (K.load1_own one_3 rfl (K.m1) rfl) (fun _ h => h) (by kernel_rfl) (by kernel_rfl) rfl ?_
    refine zN ?_
    refine K.d_pure 5 rfl (K.fieldAddr_lit fo_63_2 rfl) (by kernel_rfl) rfl ?_
    refine zn ?_
    refine K.d_pure 6 rfl (K.fieldAddr_lit fo_61_0 rfl) (by kernel_rfl) rfl ?_
    refine zn ?_
    refine K.d_mem 7 rfl (K.load1_own one_3 rfl (K.m0) rfl) (fun _ h => h) (by kernel_rfl) (by kernel_rfl) rfl ?_
    refine zN ?_
    refine K.d_mem 8 rfl (K.load1_own one_3 rfl (K.m7) rfl) (fun _ h => h) (by kernel_rfl) (by kernel_rfl) rfl ?_
    refine zN ?_
    refine K.d_call 4 rfl (K.call_g cal_64 (fun F w hF hw => c64 (K.PtrL.now hw (hF _ (K.m3))) (hS.pass hw) hj)) (fun _ h => h) (by kernel_rfl) rfl ?_
    refine zN ?_
    refine K.d_loud 9 rfl (K.call_f cal_63 (fun F w hF hw => c63 (l := (stkL m p)) w)) (fun _ h => h) (by kernel_rfl) rfl ?_
    rintro ⟨q1, q2, q3, q4, q5⟩ _
    refine zN ?_
    refine K.d_done (by kernel_rfl) ?_
    refine R.out ?_
    refine R.norm_then ?_
    refine R.block ?_
    refine R.rangeC (gf := 96) (first := []) (cap := [.pointer (some ⟨q1, 0, none⟩), .pointer (some ⟨q2, 0, none⟩), .pointer (some ⟨q5, 0, none⟩), .pointer (some ⟨q3, 0, none⟩), .pointer (some ⟨q4, 0, none⟩)]) (enc := (fun n : Int => Value.int .i64 n)) (XS := hidesS m (stkL m p) (m.ss.getD j default).x (m.ss.getD j default).y (m.ss.getD j default).lo p) rfl cal_96 [K.blk b6 29 [.int .i64 0], K.blk b5 3 [.int .i64 0], K.blk b4 3 [.int .i64 0], K.blk b10 63 [.int .i64 (m.ss.getD j default).x, .int .i64 (m.ss.getD j default).y, .int .i64 (m.ss.getD j default).lo, .int .i64 (m.ss.getD j default).hi], K.blk b9 3 [.int .i64 (j : Int)], K.blk b8 98 (ln (stkL m p)), K.blk b3 3 [.int .i64 (p : Int)], K.blk b2 3 [.int .i64 (roundsS m).2.1], K.blk b1 26 [.int .i64 m.W, .int .i64 m.D, .slice A m.hs.length c, .slice B m.ps.length d, .slice C m.ss.length e], R.dfs bs] [K.blk q5 3 [.int .i64 (p : Int)], K.blk q4 3 [.int .i64 (m.ss.getD j default).lo], K.blk q3 80 [.int .i64 (m.ss.getD j default).x, .int .i64 (m.ss.getD j default).y], K.blk q2 98 (ln (stkL m p)), K.blk q1 90 [.pointer (some ⟨q, 0, none⟩)], K.blk q 101 (mdl m A B C c d e)] (K.st_perm (show List.Perm [K.blk q5 3 [.int .i64 (p : Int)], K.blk q4 3 [.int .i64 (m.ss.getD j default).lo], K.blk q3 80 [.int .i64 (m.ss.getD j default).x, .int .i64 (m.ss.getD j default).y], K.blk q2 98 (ln (stkL m p)), K.blk q1 90 [.pointer (some ⟨q, 0, none⟩)], K.blk b10 63 [.int .i64 (m.ss.getD j default).x, .int .i64 (m.ss.getD j default).y, .int .i64 (m.ss.getD j default).lo, .int .i64 (m.ss.getD j default).hi], K.blk b9 3 [.int .i64 (j : Int)], K.blk b8 98 (ln (stkL m p)), K.blk q 101 (mdl m A B C c d e), K.blk b6 29 [.int .i64 0], K.blk b5 3 [.int .i64 0], K.blk b4 3 [.int .i64 0], K.blk b3 3 [.int .i64 (p : Int)], K.blk b2 3 [.int .i64 (roundsS m).2.1], K.blk b1 26 [.int .i64 m.W, .int .i64 m.D, .slice A m.hs.length c, .slice B m.ps.length d, .slice C m.ss.length e], R.dfs bs] ([K.blk b6 29 [.int .i64 0], K.blk b5 3 [.int .i64 0], K.blk b4 3 [.int .i64 0], K.blk b10 63 [.int .i64 (m.ss.getD j default).x, .int .i64 (m.ss.getD j default).y, .int .i64 (m.ss.getD j default).lo, .int .i64 (m.ss.getD j default).hi], K.blk b9 3 [.int .i64 (j : Int)], K.blk b8 98 (ln (stkL m p)), K.blk b3 3 [.int .i64 (p : Int)], K.blk b2 3 [.int .i64 (roundsS m).2.1], K.blk b1 26 [.int .i64 m.W, .int .i64 m.D, .slice A m.hs.length c, .slice B m.ps.length d, .slice C m.ss.length e], R.dfs bs] ++ [K.blk q5 3 [.int .i64 (p : Int)], K.blk q4 3 [.int .i64 (m.ss.getD j default).lo], K.blk q3 80 [.int .i64 (m.ss.getD j default).x, .int .i64 (m.ss.getD j default).y], K.blk q2 98 (ln (stkL m p)), K.blk q1 90 [.pointer (some ⟨q, 0, none⟩)], K.blk q 101 (mdl m A B C c d e)]) from (List.Perm.trans (List.perm_middle (l₁ := [_, _, _, _, _, _, _, _, _])) (List.Perm.cons _ (List.Perm.trans (List.perm_middle (l₁ := [_, _, _, _, _, _, _, _, _])) (List.Perm.cons _ (List.Perm.trans (List.perm_middle (l₁ := [_, _, _, _, _, _, _, _, _])) (List.Perm.cons _ (List.Perm.trans (List.perm_middle (l₁ := [_, _, _, _, _])) (List.Perm.cons _ (List.Perm.trans (List.perm_middle (l₁ := [_, _, _, _, _])) (List.Perm.cons _ (List.Perm.trans (List.perm_middle (l₁ := [_, _, _, _, _])) (List.Perm.cons _ (List.Perm.trans (List.perm_middle (l₁ := [_, _, _, _, _, _])) (List.Perm.cons _ (List.Perm.trans (List.perm_middle (l₁ := [_, _, _, _, _, _])) (List.Perm.cons _ (List.Perm.trans (List.perm_middle (l₁ := [_, _, _, _, _, _])) (List.Perm.cons _ (List.Perm.trans (List.perm_middle (l₁ := [_, _, _, _, _, _])) (List.Perm.cons _ (List.Perm.refl _))))))))))))))))))))))) (R.fixC (R.fixC (R.fixC (R.fixC (R.fixC (R.fixC R.fixN)))))) (c96 (c := c) (d := d) (e := e) (A := A) (B := B) (C := C) (b := q) hW hlb (by omega)) (fun f w hf => ⟨hf.own1 K.m4, hf.own1 K.m3, hf.own1 K.m0, hf.own1 K.m2, hf.own1 K.m1, hf.own1 K.m5, hP.pass hf.1⟩) (fun k L => k = 0 ∧ L = [K.blk b6 29 [.int .i64 0], K.blk b5 3 [.int .i64 0], K.blk b4 3 [.int .i64 0], K.blk b10 63 [.int .i64 (m.ss.getD j default).x, .int .i64 (m.ss.getD j default).y, .int .i64 (m.ss.getD j default).lo, .int .i64 (m.ss.getD j default).hi], K.blk b9 3 [.int .i64 (j : Int)], K.blk b8 98 (ln (stkL m p)), K.blk b3 3 [.int .i64 (p : Int)], K.blk b2 3 [.int .i64 (roundsS m).2.1], K.blk b1 26 [.int .i64 m.W, .int .i64 m.D, .slice A m.hs.length c, .slice B m.ps.length d, .slice C m.ss.length e], R.dfs bs]) (fun cX L => cX = Code.ret ∧ ∃ u, (hidesS m (stkL m p) (m.ss.getD j default).x (m.ss.getD j default).y (m.ss.getD j default).lo p)[0]? = some u ∧ L = [K.blk b6 29 [.int .i64 0], K.blk b5 3 [.int .i64 u], K.blk b4 3 [.int .i64 (j : Int)], K.blk b10 63 [.int .i64 (m.ss.getD j default).x, .int .i64 (m.ss.getD j default).y, .int .i64 (m.ss.getD j default).lo, .int .i64 (m.ss.getD j default).hi], K.blk b9 3 [.int .i64 (j : Int)], K.blk b8 98 (ln (stkL m p)), K.blk b3 3 [.int .i64 (p : Int)], K.blk b2 3 [.int .i64 (roundsS m).2.1], K.blk b1 26 [.int .i64 m.W, .int .i64 m.D, .slice A m.hs.length c, .slice B m.ps.length d, .slice C m.ss.length e], R.dfs bs]) ?_ ?_ ?_ ?_
    · exact ⟨rfl, rfl⟩
    · intro k u L lr E hu hE hJ
      obtain ⟨rfl, rfl⟩ := hJ
      try dsimp only [List.cons_append, List.nil_append]
      try dsimp only [setd, setn, ev, nth, over, cl, eI, eP, eT, eN, eS, setM, setF, List.map, List.append, List.drop, List.take]
      refine R.region_lit rfl ?_
      refine qa ?_
      refine K.seq_nil ?_
      refine R.out ?_
      refine R.norm_then ?_
      refine R.bodyC' rfl (fun E hE => ?_)
      dsimp only [List.dropLast, List.cons_append, List.nil_append]
      refine zN ?_
      refine R.block ?_
      refine R.seq ?_
      refine R.draw_drop 3 [] Tryd_mixed rfl ?_
      refine K.d_mem 0 rfl (K.load1_own one_3 rfl (K.m4) rfl) (fun _ h => K.tl (K.tl (K.tl h))) (by kernel_rfl) (by kernel_rfl) rfl ?_
      refine zN ?_
      refine K.d_mem 1 rfl (K.load1_own one_3 rfl (K.m3) rfl) (fun _ h => K.tl (K.tl (K.tl h))) (by kernel_rfl) (by kernel_rfl) rfl ?_
      refine zN ?_
      refine K.d_mem 2 rfl (K.load1_own one_3 rfl (K.m1) rfl) (fun _ h => K.tl (K.tl (K.tl h))) (by kernel_rfl) (by kernel_rfl) rfl ?_
      refine zN ?_
      refine K.d_pure 3 rfl (K.move) (by kernel_rfl) rfl ?_
      refine zn ?_
      refine K.d_upd 4 rfl (K.store sz_3 rfl rfl rfl rfl (K.rp7)) (fun _ => fun _ h => K.tl (K.tl (K.tl h))) (by kernel_rfl) rfl ?_
      intro _ _
      refine zN ?_
      refine K.d_upd 5 rfl (K.store sz_3 rfl rfl rfl rfl (K.rp6)) (fun _ => fun _ h => K.tl (K.tl (K.tl h))) (by kernel_rfl) rfl ?_
      intro _ _
      refine zN ?_
      refine K.d_upd 6 rfl (K.store sz_3 rfl rfl rfl rfl (K.rp2)) (fun _ => fun _ h => K.tl (K.tl (K.tl h))) (by kernel_rfl) rfl ?_
      intro _ _
      refine zN ?_
      refine K.d_upd 7 rfl (K.store sz_3 rfl rfl rfl rfl (K.rp1)) (fun _ => fun _ h => K.tl (K.tl (K.tl h))) (by kernel_rfl) rfl ?_
      intro _ _
      refine zN ?_
      refine K.d_upd 8 rfl (K.store sz_29 rfl rfl rfl rfl (K.rp0)) (fun _ => fun _ h => K.tl (K.tl (K.tl h))) (by kernel_rfl) rfl ?_
      intro _ _
      refine zN ?_
      refine K.d_done (by kernel_rfl) ?_
      refine R.out ?_
      refine R.norm_then ?_
      refine R.ret ?_
      refine R.ret_block ?_
      exact R.rp_ret ⟨rfl, u, hu, rfl⟩ (List.Sublist.refl _)
    · intro bD L hJ
      obtain ⟨hlen, rfl⟩ := hJ
      have hsb : stkB m p j = true := by unfold stkB seesB; rw [List.eq_nil_of_length_eq_zero hlen]; rfl
      try dsimp only [List.cons_append, List.nil_append]
      try dsimp only [setd, setn, ev, nth, over, cl, eI, eP, eT, eN, eS, setM, setF, List.map, List.append, List.drop, List.take]
      refine R.markJ (L := [K.blk b6 29 [.int .i64 0], K.blk b5 3 [.int .i64 0], K.blk b4 3 [.int .i64 0], K.blk b8 98 (ln (stkL m p)), K.blk b3 3 [.int .i64 (p : Int)], K.blk b2 3 [.int .i64 (roundsS m).2.1], K.blk b1 26 [.int .i64 m.W, .int .i64 m.D, .slice A m.hs.length c, .slice B m.ps.length d, .slice C m.ss.length e], K.blk q 101 (mdl m A B C c d e)]) (fun w hw => (hw.sub (List.Sublist.cons_cons _ (List.Sublist.cons_cons _ (List.Sublist.cons_cons _ (List.Sublist.cons _ (List.Sublist.cons _ (List.Sublist.cons_cons _ (List.Sublist.cons_cons _ (List.Sublist.cons_cons _ (List.Sublist.cons_cons _ (List.Sublist.cons_cons _ (List.Sublist.cons _ (List.Sublist.cons _ (List.Sublist.cons _ (List.Sublist.cons _ (List.Sublist.cons _ (List.Sublist.cons_cons _ (List.Sublist.cons_cons _ (List.Sublist.refl _))))))))))))))))))).perm (List.Perm.cons _ (List.Perm.cons _ (List.Perm.cons _ (List.Perm.cons _ (List.Perm.cons _ (List.Perm.cons _ (List.Perm.cons _ (List.Perm.trans (List.perm_middle (l₁ := [_])) (List.Perm.cons _ (List.Perm.refl _))))))))))) ?_
      try dsimp only [List.cons_append, List.nil_append]
      refine zN ?_
      refine R.norm_block ?_
      refine R.norm_block ?_
      refine R.norm_then ?_
      refine R.region_lit rfl ?_
      refine qp (K.add_i64 rfl rfl (by omega)) ?_
      refine qm ?_
      refine K.seq_nil ?_
      refine R.out ?_
      refine K.permH (L' := [K.blk b8 98 (ln (stkL m p)), K.blk q 101 (mdl m A B C c d e), K.blk b6 29 [.int .i64 0], K.blk b5 3 [.int .i64 0], K.blk b4 3 [.int .i64 0], K.blk b3 3 [.int .i64 (p : Int)], K.blk b2 3 [.int .i64 (roundsS m).2.1], K.blk b1 26 [.int .i64 m.W, .int .i64 m.D, .slice A m.hs.length c, .slice B m.ps.length d, .slice C m.ss.length e]] ++ [R.dfs _]) (List.Perm.trans (List.perm_middle (l₁ := [_, _, _])) (List.Perm.cons _ (List.Perm.trans (List.perm_middle (l₁ := [_, _, _, _, _, _])) (List.Perm.cons _ (List.Perm.refl _))))) ?_
      exact R.round_endD (L'' := [K.blk b8 98 (ln (stkL m p)), K.blk q 101 (mdl m A B C c d e), K.blk b6 29 [.int .i64 0], K.blk b5 3 [.int .i64 0], K.blk b4 3 [.int .i64 0], K.blk b3 3 [.int .i64 (p : Int)], K.blk b2 3 [.int .i64 (roundsS m).2.1], K.blk b1 26 [.int .i64 m.W, .int .i64 m.D, .slice A m.hs.length c, .slice B m.ps.length d, .slice C m.ss.length e]]) [.int .i64 ((j : Int) + 1)] ⟨j + 1, rfl, rfl, by omega, K.lt_succ_case hall hsb⟩ (by simp [K.nth, intOf]; omega) (by repeat (first | exact List.Sublist.refl _ | apply List.Sublist.cons)) (by kernel_rfl)
    · intro bD cX L hJ
      obtain ⟨rfl, u, hu, rfl⟩ := hJ
      have hsb : stkB m p j = false := by
        unfold stkB seesB
        rw [List.isEmpty_eq_false_iff]
        intro h0
        rw [h0] at hu; simp at hu
      try dsimp only [List.cons_append, List.nil_append]
      try dsimp only [setd, setn, ev, nth, over, cl, eI, eP, eT, eN, eS, setM, setF, List.map, List.append, List.drop, List.take]
      refine R.markJ (L := [K.blk b6 29 [.int .i64 0], K.blk b5 3 [.int .i64 u], K.blk b4 3 [.int .i64 (j : Int)], K.blk b8 98 (ln (stkL m p)), K.blk b3 3 [.int .i64 (p : Int)], K.blk b2 3 [.int .i64 (roundsS m).2.1], K.blk b1 26 [.int .i64 m.W, .int .i64 m.D, .slice A m.hs.length c, .slice B m.ps.length d, .slice C m.ss.length e], K.blk q 101 (mdl m A B C c d e)]) (fun w hw => (hw.sub (List.Sublist.cons_cons _ (List.Sublist.cons_cons _ (List.Sublist.cons_cons _ (List.Sublist.cons _ (List.Sublist.cons _ (List.Sublist.cons_cons _ (List.Sublist.cons_cons _ (List.Sublist.cons_cons _ (List.Sublist.cons_cons _ (List.Sublist.cons_cons _ (List.Sublist.cons _ (List.Sublist.cons _ (List.Sublist.cons _ (List.Sublist.cons _ (List.Sublist.cons _ (List.Sublist.cons_cons _ (List.Sublist.cons_cons _ (List.Sublist.refl _))))))))))))))))))).perm (List.Perm.cons _ (List.Perm.cons _ (List.Perm.cons _ (List.Perm.cons _ (List.Perm.cons _ (List.Perm.cons _ (List.Perm.cons _ (List.Perm.trans (List.perm_middle (l₁ := [_])) (List.Perm.cons _ (List.Perm.refl _))))))))))) ?_
      try dsimp only [List.cons_append, List.nil_append]
      refine zN ?_
      refine R.ret ?_
      refine R.ret_block ?_
      refine R.ret_block ?_
      refine R.ret_then ?_
      refine R.ret_then ?_
      refine R.ret_block ?_
      refine R.ret_then ?_
      refine R.end_retD rfl (by dsimp only [List.dropLast]; exact (fun w hw => K.res_c5 rfl rfl rfl rfl rfl rfl (K.run_cell1 one_3 rfl (K.m5) w hw) (K.run_cell1 one_3 rfl (K.m4) w hw) (K.run_cell1 one_3 rfl (K.m2) w hw) (K.run_cell1 one_3 rfl (K.m1) w hw) (K.run_cell1 one_29 rfl (K.m0) w hw))) ?_
      dsimp only [List.dropLast]
      have hs1 := stk_some hj hall hsb
      have hhd : (hidesS m (stkL m p) (m.ss.getD j default).x (m.ss.getD j default).y (m.ss.getD j default).lo p).headD 0 = u := by
        cases hx : hidesS m (stkL m p) (m.ss.getD j default).x (m.ss.getD j default).y (m.ss.getD j default).lo p with
        | nil => rw [hx] at hu; simp at hu
        | cons a xs => rw [hx] at hu; simpa using hu
      exact K.gives (by unfold stuckS; rw [if_neg (by omega), if_neg (by omega), hp, Int.toNat_natCast, hs1]; simp only; rw [hhd])
  try replace ht40 := of_decide_eq_false ht40
  refine R.exit ?_
  refine R.exit_then ?_
  refine R.exit_then ?_
  refine R.exit_here ?_
  refine R.norm_then ?_
  refine R.seq ?_
  refine R.region_lit rfl ?_
  refine K.seq_st (K.store sz_3 rfl rfl rfl rfl (K.rp6)) rfl ?_
  refine zN ?_
  refine K.seq_st (K.store sz_3 rfl rfl rfl rfl (K.rp5)) rfl ?_
  refine zN ?_
  refine K.seq_st (K.store sz_3 rfl rfl rfl rfl (K.rp4)) rfl ?_
  refine zN ?_
  refine K.seq_st (K.store sz_3 rfl rfl rfl rfl (K.rp3)) rfl ?_
  refine zN ?_
  refine K.seq_st (K.store sz_29 rfl rfl rfl rfl (K.rp2)) rfl ?_
  refine zN ?_
  refine K.seq_nil ?_
  refine R.out ?_
  refine R.norm_then ?_
  refine R.ret ?_
  refine R.end_retD rfl (by dsimp only [List.dropLast]; exact (fun w hw => K.res_c5 rfl rfl rfl rfl rfl rfl (K.run_cell1 one_3 rfl (K.m6) w hw) (K.run_cell1 one_3 rfl (K.m5) w hw) (K.run_cell1 one_3 rfl (K.m4) w hw) (K.run_cell1 one_3 rfl (K.m3) w hw) (K.run_cell1 one_29 rfl (K.m2) w hw))) ?_
  dsimp only [List.dropLast]
  have hs0 := stk_none (fun i hi => hall i (by omega))
  exact K.gives (by unfold stuckS; rw [if_neg (by omega), if_neg (by omega), hp, Int.toNat_natCast, hs0])

theorem c28 {m : Mod} {A B C : Option Addr} {c d e : Nat} {w : World} (hH : K.Rd w A 1 K.eI m.hs) (hP : K.Rd w B 5 eN m.ps) (hS : K.Rd w C 4 eS m.ss) (hn : m.hs.length ≤ 4611686018427387904) (hm : m.ps.length ≤ 4611686018427387904) (hk : m.ss.length ≤ 4611686018427387904) (hcd : m.ps.length ≤ d) : Calls Tryd.prog 28 [.agg #[.int .i64 m.W, .int .i64 m.D, .slice A m.hs.length c, .slice B m.ps.length d, .slice C m.ss.length e]].toArray w (K.Gives (.tuple #[.int .i64 (stuckS m).1, .int .i64 (stuckS m).2.1, .int .i64 (stuckS m).2.2.1, .int .i64 (stuckS m).2.2.2.1, .int .i64 (stuckS m).2.2.2.2]) w) := by
  by_cases hc : (chk m).2.2 = 0
  · rcases rounds_pin (m := m) with hp | ⟨p, hpn, hp⟩
    · exact f28 hH hP hS hn hm hk hcd hc hp
    · exact g28 hH hP hS hn hm hk hcd hc hp hpn
  · exact e28 hH hP hS hn hm hk hcd hc


end Go.Proofs.YthkgnhcknkjgdaaDoor
