/-
  Walks of the program's functions, printed by program: what each returns.
  Conditions stand in each theorem.
-/
import Derived.WalkArith
import Derived.Laws.Closers25b
import Derived.Test.YthkgnhcknkjgdaaDoorWd
import Derived.Test.YthkgnhcknkjgdaaDoorWe
set_option linter.unusedSimpArgs false
set_option linter.unusedVariables false
namespace Go.Proofs.YthkgnhcknkjgdaaDoor
open Go.RowKit Go
open Go.K (setd setn ev nth over cl eI eP eT setM setF)
attribute [local irreducible] K.blk K.row
attribute [local irreducible] tp pnK owK negK
theorem bl101 (m : Mod) (A B C : Option Addr) (c d e : Nat) : K.Bl Tryd.prog 101 [(0, .agg #[.int .i64 m.W, .int .i64 m.D, .slice A m.hs.length c, .slice B m.ps.length d, .slice C m.ss.length e])] (.agg (mdG [.int .i64 m.W, .int .i64 m.D, .slice A m.hs.length c, .slice B m.ps.length d, .slice C m.ss.length e] (owK m 0) (List.replicate 64 0) (negK 0)).toArray) := fun w => by kernel_rfl

set_option maxRecDepth 100000 in
theorem g67 {m : Mod} {A B C : Option Addr} {c d e : Nat} {w : World} (hH : K.Rd w A 1 K.eI m.hs) (hP : K.Rd w B 5 eN m.ps) (hS : K.Rd w C 4 eS m.ss) (hn : m.hs.length ≤ 4611686018427387904) (hm : m.ps.length ≤ 4611686018427387904) (hk : m.ss.length ≤ 4611686018427387904) (hcd : m.ps.length ≤ d) (hc : chk m = (0, 0, 0)) :
    Calls Tryd.prog 67 [.agg #[.int .i64 m.W, .int .i64 m.D, .slice A m.hs.length c, .slice B m.ps.length d, .slice C m.ss.length e]].toArray w (K.Ret (fun _ : Nat => True) (fun b => .tuple #[.pointer (some ⟨b, 0, none⟩), .int .i64 0]) (fun b => [K.blk b 101 (mdl m A B C c d e)]) w) := by
  have g : Good m := chk_good (by rw [hc])
  have hwd := wd_bd ⟨g.w, g.d⟩
  have hgl := g.l
  have hgn := g.n
  refine K.enter (args := [.agg #[.int .i64 m.W, .int .i64 m.D, .slice A m.hs.length c, .slice B m.ps.length d, .slice C m.ss.length e]]) Tryd.func67 rfl (n := 64) rfl ?_
  simp only [List.replicate, List.cons_append, List.nil_append]
  refine sr ?_
  refine K.seq_new (K.box) rfl ?_
  intro b1
  refine zN ?_
  iterate 2 refine qa ?_
  refine sn ?_
  refine K.seq ?_
  refine sr ?_
  refine K.seq_sil (K.loadA_own ag_26 rfl (K.m0) rfl) rfl ?_
  refine zN ?_
  refine K.seq_call (K.call_g cal_16 (fun F w hF hw => g16 (hH.pass hw) (hP.pass hw) (hS.pass hw) hn hm hk hcd hc)) rfl ?_
  refine zN ?_
  refine qm ?_
  refine qx ?_
  refine qx ?_
  refine qx ?_
  refine qa ?_
  refine sn ?_
  refine sr ?_
  refine qm ?_
  refine qp (K.neq rfl rfl) ?_
  refine sn ?_
  refine K.cond_false (by rfl) ?_
  refine K.skip ?_
  refine K.norm_then ?_
  refine sr ?_
  refine K.seq_sil (K.loadA_own ag_26 rfl (K.m0) rfl) rfl ?_
  refine zN ?_
  refine K.seq_pure (K.build (bl101 m A B C c d e)) rfl ?_
  refine zN ?_
  refine K.seq_new (K.box) rfl ?_
  intro b18
  refine zN ?_
  try dsimp only [List.toList_toArray]
  refine zN ?_
  refine qa ?_
  refine sn ?_
  refine K.seq ?_
  refine K.draw_drop 1 [] Tryd_mixed ?_
  refine K.d_pure 0 rfl (K.move) (by kernel_rfl) rfl ?_
  refine zn ?_
  refine K.d_pure 1 rfl (K.nilCheck rfl) (by kernel_rfl) rfl ?_
  refine zn ?_
  refine K.d_pure 2 rfl (K.fieldAddr_lit fo_101_2 rfl) (by kernel_rfl) rfl ?_
  refine zn ?_
  refine K.d_pure 3 rfl (K.slice_arr ar_99 rfl) (by kernel_rfl) rfl ?_
  refine zN ?_
  refine K.d_pure 4 rfl (K.fieldAddr_lit fo_26_2 rfl) (by kernel_rfl) rfl ?_
  refine zn ?_
  refine K.d_mem 5 rfl (K.load1_own one_22 rfl (K.m0) rfl) (fun _ h => K.tl h) (by kernel_rfl) (by kernel_rfl) rfl ?_
  refine zN ?_
  refine K.d_upd 6 rfl (K.copyS (M := []) sl_22 rfl rfl hH.sl (fun _ => rfl) (K.oneI _) (by omega) (by omega) (by rw [mdG_len, ow_len, List.length_replicate, neg_len]; simp only [List.length_cons, List.length_nil]; omega) (K.rp0)) (fun _ => fun _ h => K.tl h) (by kernel_rfl) rfl ?_
  rintro _ _
  refine zN ?_
  rw [Nat.zero_add 11, mdG_copy rfl ow_len (by rw [List.length_replicate]; omega), cop_tp (by omega)]
  refine zN ?_
  refine K.d_done (by kernel_rfl) ?_
  refine K.norm_then ?_
  refine K.seq ?_
  refine sr ?_
  refine qm ?_
  refine sn ?_
  refine K.block ?_
  refine K.loopW [26] [4, 27, 28, 29, 30, 31, 32, 33, 34] (fun vi L => ∃ k : Nat, vi = [.int .i64 (k : Int)] ∧ L = [K.blk b18 101 (mdG [.int .i64 m.W, .int .i64 m.D, .slice A m.hs.length c, .slice B m.ps.length d, .slice C m.ss.length e] (owK m 0) (tp m) (negK k)), K.blk b1 26 [.int .i64 m.W, .int .i64 m.D, .slice A m.hs.length c, .slice B m.ps.length d, .slice C m.ss.length e]] ∧ k ≤ 64) (fun vi => 64 - (intOf (K.nth vi 0)).toNat) ?_ ?_
  · exact ⟨0, rfl, rfl, Nat.zero_le _⟩
  intro vi vr L hJ
  obtain ⟨k, rfl, rfl, hkn⟩ := hJ
  try dsimp only [setd, setn, ev, nth, over, cl, eI, eP, eT, eN, eS, setM, setF, List.map, List.append, List.drop, List.take]
  refine sr ?_
  refine qp (K.lss rfl rfl) ?_
  refine sn ?_
  refine K.seq ?_
  refine K.cond rfl (fun ht27 => ?_) (fun ht27 => ?_)
  · try replace ht27 := of_decide_eq_true ht27
    have hk6 : k < 64 := by omega
    refine K.skip ?_
    refine K.norm_then ?_
    refine K.seq ?_
    refine K.block ?_
    refine sr ?_
    refine qm ?_
    refine qa ?_
    refine sn ?_
    refine K.region_lit ?_
    iterate 2 refine qm ?_
    refine qp (K.nilCheck rfl) ?_
    refine qp (K.fieldAddr_lit fo_101_3 rfl) ?_
    refine K.seq_pure (K.indexAddr_ar ar_99 rfl rfl (by omega) (by omega)) rfl ?_
    refine zN ?_
    refine K.seq_st (K.store_ix sz_3 rfl rfl (by rw [mdG_len, ow_len, tp_len, neg_len]; simp only [List.length_cons, List.length_nil]; omega) rfl (K.rp0)) rfl ?_
    refine zN ?_
    rw [show 0 + 75 + ((k : Int)).toNat * 1 = 75 + k by omega, mdG_pin rfl ow_len tp_len, neg_set hk6]
    refine zN ?_
    refine K.seq_nil ?_
    refine K.norm_block ?_
    refine K.norm_then ?_
    refine K.region_lit ?_
    refine qp (K.add_i64 rfl rfl (by omega)) ?_
    refine qm ?_
    refine K.seq_nil ?_
    exact K.round_endW (L'' := [K.blk b18 101 (mdG [.int .i64 m.W, .int .i64 m.D, .slice A m.hs.length c, .slice B m.ps.length d, .slice C m.ss.length e] (owK m 0) (tp m) (negK (k + 1))), K.blk b1 26 [.int .i64 m.W, .int .i64 m.D, .slice A m.hs.length c, .slice B m.ps.length d, .slice C m.ss.length e]]) [.int .i64 ((k : Int) + 1)] ⟨k + 1, rfl, rfl, by omega⟩ (by simp [K.nth, intOf]; omega) (by repeat (first | exact List.Sublist.refl _ | apply List.Sublist.cons)) (by kernel_rfl)
  try replace ht27 := of_decide_eq_false ht27
  have hk64 : 64 ≤ k := by omega
  refine K.exit ?_
  refine K.exit_then ?_
  refine K.exit_then ?_
  refine K.exit_here ?_
  refine K.norm_then ?_
  refine K.seq ?_
  refine K.seq ?_
  rw [neg_end hk64]
  refine K.region_lit ?_
  refine qp (K.fieldAddr_lit fo_26_3 rfl) ?_
  refine K.seq_sil (K.load1_own one_23 rfl (K.m1) rfl) rfl ?_
  refine zN ?_
  refine qp (K.len_sl sl_23 rfl) ?_
  refine qm ?_
  refine sn ?_
  refine K.block ?_
  refine K.loopW [38] [5, 6, 39, 40, 41, 42, 43, 44, 45, 46, 47, 48, 49, 50, 51, 52, 53, 54, 55, 56, 57, 58, 59, 60, 61, 62, 63] (fun vi L => ∃ k : Nat, vi = [.int .i64 (k : Int)] ∧ L = [K.blk b18 101 (mdG [.int .i64 m.W, .int .i64 m.D, .slice A m.hs.length c, .slice B m.ps.length d, .slice C m.ss.length e] (owK m k) (tp m) (pnK m k)), K.blk b1 26 [.int .i64 m.W, .int .i64 m.D, .slice A m.hs.length c, .slice B m.ps.length d, .slice C m.ss.length e]] ∧ k ≤ m.ps.length) (fun vi => m.ps.length - (intOf (K.nth vi 0)).toNat) ?_ ?_
  · exact ⟨0, rfl, rfl, Nat.zero_le _⟩
  intro vi vr L hJ
  obtain ⟨k, rfl, rfl, hkn⟩ := hJ
  try dsimp only [setd, setn, ev, nth, over, cl, eI, eP, eT, eN, eS, setM, setF, List.map, List.append, List.drop, List.take]
  refine sr ?_
  refine qp (K.lss rfl rfl) ?_
  refine sn ?_
  refine K.seq ?_
  refine K.cond rfl (fun ht39 => ?_) (fun ht39 => ?_)
  · try replace ht39 := of_decide_eq_true ht39
    have hkp : k < m.ps.length := by omega
    have hf := g.fld hkp
    unfold fldS at hf
    refine K.skip ?_
    refine K.norm_then ?_
    refine K.seq ?_
    refine K.block ?_
    refine sr ?_
    refine qm ?_
    refine K.seq_ix (M := []) _ hP.sl sl_23 rfl rfl rfl (by omega) rfl ?_
    intro p41 hp41
    refine zN ?_
    refine K.seq_sil (K.loadA_p ag_54 rfl (hp41.any) rfl) rfl ?_
    refine zN ?_
    refine K.seq_new (K.alloc zr_54) rfl ?_
    intro b6
    refine zN ?_
    refine qa ?_
    refine K.seq_st (K.store_all sz_54 rfl rfl rfl rfl (K.rp0)) rfl ?_
    refine zN ?_
    refine sn ?_
    refine K.seq ?_
    refine K.draw_L [7] Tryd_mixed ?_
    refine K.d_pure 0 rfl (K.move) (by kernel_rfl) rfl ?_
    refine zn ?_
    refine K.d_pure 1 rfl (K.move) (by kernel_rfl) rfl ?_
    refine zn ?_
    refine K.d_pure 2 rfl (K.fieldAddr_lit fo_54_3 rfl) (by kernel_rfl) rfl ?_
    refine zn ?_
    refine K.d_mem 3 rfl (K.load1_own one_3 rfl (K.m0) rfl) (fun _ h => h) (by kernel_rfl) (by kernel_rfl) rfl ?_
    refine zN ?_
    refine K.d_pure 4 rfl (K.nilCheck rfl) (by kernel_rfl) rfl ?_
    refine zn ?_
    refine K.d_pure 5 rfl (K.fieldAddr_lit fo_101_1 rfl) (by kernel_rfl) rfl ?_
    refine zn ?_
    refine K.d_pure 6 rfl (K.indexAddr_ar ar_98 rfl rfl (by omega) (by omega)) (by kernel_rfl) rfl ?_
    refine zN ?_
    refine K.d_last 7 rfl (K.store_ix sz_3 rfl rfl (by rw [mdG_len, ow_len, tp_len, pn_len]; simp only [List.length_cons, List.length_nil]; omega) rfl (K.rp1)) rfl (by kernel_rfl) rfl ?_
    intro _ _
    refine zN ?_
    rw [show 0 + 5 + ((k : Int)).toNat * 1 = 5 + k by omega, mdG_own rfl (by rw [ow_len]; omega), ow_set (by omega)]
    refine zN ?_
    refine K.d_done (by kernel_rfl) ?_
    refine K.norm_then ?_
    refine K.draw_L [13] Tryd_mixed ?_
    refine K.d_pure 0 rfl (K.move) (by kernel_rfl) rfl ?_
    refine zn ?_
    refine K.d_pure 1 rfl (K.fieldAddr_lit fo_54_2 rfl) (by kernel_rfl) rfl ?_
    refine zn ?_
    refine K.d_mem 2 rfl (K.load1_own one_3 rfl (K.m0) rfl) (fun _ h => h) (by kernel_rfl) (by kernel_rfl) rfl ?_
    refine zN ?_
    refine K.d_pure 3 rfl (K.fieldAddr_lit fo_26_0 rfl) (by kernel_rfl) rfl ?_
    refine zn ?_
    refine K.d_mem 4 rfl (K.load1_own one_3 rfl (K.m2) rfl) (fun _ h => h) (by kernel_rfl) (by kernel_rfl) rfl ?_
    refine zN ?_
    refine K.d_pure 5 rfl (K.mul_i64 rfl rfl (by omega)) (by kernel_rfl) rfl ?_
    refine zn ?_
    refine K.d_pure 6 rfl (K.fieldAddr_lit fo_54_1 rfl) (by kernel_rfl) rfl ?_
    refine zn ?_
    refine K.d_mem 7 rfl (K.load1_own one_3 rfl (K.m0) rfl) (fun _ h => h) (by kernel_rfl) (by kernel_rfl) rfl ?_
    refine zN ?_
    refine K.d_pure 8 rfl (K.add_i64 rfl rfl (by omega)) (by kernel_rfl) rfl ?_
    refine zn ?_
    refine K.d_pure 9 rfl (K.move) (by kernel_rfl) rfl ?_
    refine zn ?_
    refine K.d_pure 10 rfl (K.nilCheck rfl) (by kernel_rfl) rfl ?_
    refine zn ?_
    refine K.d_pure 11 rfl (K.fieldAddr_lit fo_101_3 rfl) (by kernel_rfl) rfl ?_
    refine zn ?_
    refine K.d_pure 12 rfl (K.indexAddr_ar ar_99 rfl rfl (by omega) (by omega)) (by kernel_rfl) rfl ?_
    refine zN ?_
    refine K.d_last 13 rfl (K.store_ix sz_3 rfl rfl (by rw [mdG_len, ow_len, tp_len, pn_len]; simp only [List.length_cons, List.length_nil]; omega) rfl (K.rp1)) rfl (by kernel_rfl) rfl ?_
    intro _ _
    refine zN ?_
    rw [show 0 + 75 + ((m.ps.getD k default).y * m.W + (m.ps.getD k default).x).toNat * 1 = 75 + (fldS m k).toNat by unfold fldS; omega, mdG_pin rfl ow_len tp_len, pn_set g hkp]
    refine zN ?_
    refine K.d_done (by kernel_rfl) ?_
    refine K.norm_block ?_
    refine K.norm_then ?_
    refine K.region_lit ?_
    refine qp (K.add_i64 rfl rfl (by omega)) ?_
    refine qm ?_
    refine K.seq_nil ?_
    exact K.round_endW (L'' := [K.blk b18 101 (mdG [.int .i64 m.W, .int .i64 m.D, .slice A m.hs.length c, .slice B m.ps.length d, .slice C m.ss.length e] (owK m (k + 1)) (tp m) (pnK m (k + 1))), K.blk b1 26 [.int .i64 m.W, .int .i64 m.D, .slice A m.hs.length c, .slice B m.ps.length d, .slice C m.ss.length e]]) [.int .i64 ((k : Int) + 1)] ⟨k + 1, rfl, rfl, by omega⟩ (by simp [K.nth, intOf]; omega) (by repeat (first | exact List.Sublist.refl _ | apply List.Sublist.cons)) (by kernel_rfl)
  try replace ht39 := of_decide_eq_false ht39
  refine K.exit ?_
  refine K.exit_then ?_
  refine K.exit_then ?_
  refine K.exit_here ?_
  refine K.norm_then ?_
  refine sr ?_
  refine qm ?_
  iterate 2 refine qa ?_
  refine sn ?_
  refine K.ret ?_
  refine K.end_ret (fun w _ => K.res_tmp2 rfl w) ?_
  have e0 : k = m.ps.length := by omega
  subst e0
  rw [mdG_mdl]
  exact K.rets_v b18 trivial rfl rfl (List.Sublist.cons_cons _ (List.nil_sublist _))

set_option maxRecDepth 100000 in
theorem e67 {m : Mod} {A B C : Option Addr} {c d e : Nat} {w : World} (hH : K.Rd w A 1 K.eI m.hs) (hP : K.Rd w B 5 eN m.ps) (hS : K.Rd w C 4 eS m.ss) (hn : m.hs.length ≤ 4611686018427387904) (hm : m.ps.length ≤ 4611686018427387904) (hk : m.ss.length ≤ 4611686018427387904) (hcd : m.ps.length ≤ d) (hc : (chk m).2.2 ≠ 0) :
    Calls Tryd.prog 67 [.agg #[.int .i64 m.W, .int .i64 m.D, .slice A m.hs.length c, .slice B m.ps.length d, .slice C m.ss.length e]].toArray w (K.Gives (.tuple #[.pointer none, .int .i64 (chk m).2.2]) w) := by
  refine K.enter (args := [.agg #[.int .i64 m.W, .int .i64 m.D, .slice A m.hs.length c, .slice B m.ps.length d, .slice C m.ss.length e]]) Tryd.func67 rfl (n := 64) rfl ?_
  simp only [List.replicate, List.cons_append, List.nil_append]
  refine sr ?_
  refine K.seq_new (K.box) rfl ?_
  intro b1
  refine zN ?_
  iterate 2 refine qa ?_
  refine sn ?_
  refine K.seq ?_
  refine sr ?_
  refine K.seq_sil (K.loadA_own ag_26 rfl (K.m0) rfl) rfl ?_
  refine zN ?_
  refine K.seq_call (K.call_g cal_16 (fun F w hF hw => c16 (hH.pass hw) (hP.pass hw) (hS.pass hw) hn hm hk hcd (w := w))) rfl ?_
  refine zN ?_
  refine qm ?_
  refine qx ?_
  refine qx ?_
  refine qx ?_
  refine qa ?_
  refine sn ?_
  refine sr ?_
  refine qm ?_
  refine qp (K.neq rfl rfl) ?_
  refine sn ?_
  refine K.cond_true (by exact congrArg Value.bool (decide_eq_true hc)) ?_
  refine sr ?_
  refine qm ?_
  iterate 2 refine qa ?_
  refine sn ?_
  refine K.ret ?_
  refine K.ret_then ?_
  refine K.end_ret (fun w _ => K.res_tmp2 rfl w) ?_
  exact K.gives rfl

end Go.Proofs.YthkgnhcknkjgdaaDoor
