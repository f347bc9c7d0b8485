/-
  Walks of the program's functions, printed by program: what each returns.
  Conditions stand in each theorem.
-/
import Derived.Test.YthkgnhcknkjgdaaDoorKf
import Derived.Test.YthkgnhcknkjgdaaDoorK2
import Derived.WalkArith
import Derived.Laws.Closers25b
import Derived.Test.YthkgnhcknkjgdaaDoorS1
import Derived.Test.YthkgnhcknkjgdaaDoorS2
import Derived.Test.YthkgnhcknkjgdaaDoorS3
import Derived.Test.YthkgnhcknkjgdaaDoorK7
import Derived.Test.YthkgnhcknkjgdaaDoorK8
import Derived.Test.YthkgnhcknkjgdaaDoorWa
import Derived.Test.YthkgnhcknkjgdaaDoorWb
import Derived.Test.YthkgnhcknkjgdaaDoorWd
import Derived.Test.YthkgnhcknkjgdaaDoorWe
import Derived.Test.YthkgnhcknkjgdaaDoorWf
import Derived.Test.YthkgnhcknkjgdaaDoorWg
import Derived.Test.YthkgnhcknkjgdaaDoorWh
import Derived.Test.YthkgnhcknkjgdaaDoorWi
import Derived.Test.YthkgnhcknkjgdaaDoorWj
import Derived.Test.YthkgnhcknkjgdaaDoorWk
import Derived.Test.YthkgnhcknkjgdaaDoorWl
import Derived.Test.YthkgnhcknkjgdaaDoorWm
import Derived.Test.YthkgnhcknkjgdaaDoorWn
import Derived.Test.YthkgnhcknkjgdaaDoorK3
import Derived.Test.YthkgnhcknkjgdaaDoorK4
set_option linter.unusedSimpArgs false
set_option linter.unusedVariables false
namespace Go.Proofs.YthkgnhcknkjgdaaDoor
open Go.RowKit Go
open Go.K (setd setn ev nth over cl eI eP eT setM setF)
attribute [local irreducible] K.blk K.row

set_option maxRecDepth 100000 in
set_option maxHeartbeats 1000000 in
theorem c24 {m : Mod} {A B C : Option Addr} {c d e : Nat} {s p : Int} {w : World} (hH : K.Rd w A 1 K.eI m.hs) (hP : K.Rd w B 5 eN m.ps) (hS : K.Rd w C 4 eS m.ss) (hn : m.hs.length ≤ 4611686018427387904) (hm : m.ps.length ≤ 4611686018427387904) (hk : m.ss.length ≤ 4611686018427387904) (hs : -9223372036854775808 ≤ s ∧ s ≤ 9223372036854775807) :
    Calls Tryd.prog 24 [.agg #[.int .i64 m.W, .int .i64 m.D, .slice A m.hs.length c, .slice B m.ps.length d, .slice C m.ss.length e], .int .i64 s, .int .i64 p].toArray w (K.Gives (.tuple #[.int .i64 (eyeR m s p).1, .int .i64 (eyeR m s p).2]) w) := by
  refine K.enter (args := [.agg #[.int .i64 m.W, .int .i64 m.D, .slice A m.hs.length c, .slice B m.ps.length d, .slice C m.ss.length e], .int .i64 s, .int .i64 p]) Tryd.func24 rfl (n := 47) rfl ?_
  simp only [List.replicate, List.cons_append, List.nil_append]
  refine K.seq ?_
  refine K.region_lit ?_
  refine K.seq_new (K.box) rfl ?_
  intro b3
  try dsimp only [setd, setn, ev, nth, over, cl, eI, eP, eT, eN, eS, List.map, List.append, List.drop, List.take]
  refine K.seq_pure (K.assign) rfl ?_
  dsimp only [setd, setn, ev, nth]
  refine K.seq_pure (K.assign) rfl ?_
  dsimp only [setd, setn, ev, nth]
  refine K.seq_nil ?_
  refine K.norm_then ?_
  refine K.seq ?_
  refine K.region_lit ?_
  refine K.seq_sil (K.loadA_own ag_26 rfl (K.m0) rfl) rfl ?_
  try dsimp only [setd, setn, ev, nth, over, cl, eI, eP, eT, eN, eS, List.map, List.append, List.drop, List.take]
  refine K.seq_pure (K.move) rfl ?_
  dsimp only [setd, setn, ev, nth]
  refine K.seq_pure (K.move) rfl ?_
  dsimp only [setd, setn, ev, nth]
  refine K.seq_call (K.call_g cal_65 (fun F w hF hw => c65 (hH.pass hw) (hP.pass hw) (hS.pass hw) hn hm hk hs)) rfl ?_
  try dsimp only [setd, setn, ev, nth, over, cl, eI, eP, eT, eN, eS, List.map, List.append, List.drop, List.take]
  refine K.seq_pure (K.assign) rfl ?_
  dsimp only [setd, setn, ev, nth]
  refine K.seq_nil ?_
  refine K.norm_then ?_
  refine K.seq ?_
  refine K.seq ?_
  refine K.region_lit ?_
  refine K.seq_pure (K.move) rfl ?_
  dsimp only [setd, setn, ev, nth]
  refine K.seq_pure (K.neq rfl rfl) rfl ?_
  dsimp only [setd, setn, ev, nth]
  refine K.seq_nil ?_
  refine K.norm_then ?_
  refine K.cond rfl (fun ht18 => ?_) (fun ht18 => ?_)
  · try replace ht18 := of_decide_eq_true ht18
    refine K.seq ?_
    refine K.region_lit ?_
    refine K.seq_pure (K.move) rfl ?_
    dsimp only [setd, setn, ev, nth]
    refine K.seq_pure (K.assign) rfl ?_
    dsimp only [setd, setn, ev, nth]
    refine K.seq_pure (K.assign) rfl ?_
    dsimp only [setd, setn, ev, nth]
    refine K.seq_nil ?_
    refine K.norm_then ?_
    refine K.ret ?_
    refine K.ret_then ?_
    refine K.end_ret (fun w _ => K.res_tmp2 rfl w) ?_
    exact K.gives (by unfold eyeR; rw [if_pos ht18]; rfl)
  try replace ht18 := of_decide_eq_false ht18
  refine K.skip ?_
  refine K.norm_then ?_
  refine K.seq ?_
  have hz : askE m s p = 0 := Decidable.not_not.1 ht18
  obtain ⟨hc, hsb, hpb⟩ := ask_0 hz
  obtain ⟨s, rfl⟩ := Int.eq_ofNat_of_zero_le hsb.1
  obtain ⟨p, rfl⟩ := Int.eq_ofNat_of_zero_le hpb.1
  have g : Good m := chk_good hc
  have hsn : s < m.ss.length := by omega
  have hst := g.st hsn
  have hgn := g.n
  have hW : Way m (m.ss.getD s default).x (m.ss.getD s default).y p := ⟨g, by omega, by omega, by omega⟩
  have hE0 := (eyeK_bd (k := (stepsS m (m.ss.getD s default).x (m.ss.getD s default).y p).length) hW g.lb).1
  rw [eye_all] at hE0
  have hR : eyeR m s p = if (eyeS m (ownS m) (m.ss.getD s default).x (m.ss.getD s default).y p) > 2000 then (0, 9) else ((eyeS m (ownS m) (m.ss.getD s default).x (m.ss.getD s default).y p), 0) := by unfold eyeR; rw [if_neg (by omega)]; rfl
  
  refine K.region_lit ?_
  refine K.seq_pure (K.fieldAddr_lit fo_26_4 rfl) rfl ?_
  dsimp only [setd, setn, ev, nth]
  refine K.seq_sil (K.load1_own one_24 rfl (K.m0) rfl) rfl ?_
  try dsimp only [setd, setn, ev, nth, over, cl, eI, eP, eT, eN, eS, List.map, List.append, List.drop, List.take]
  refine K.seq_pure (K.move) rfl ?_
  dsimp only [setd, setn, ev, nth]
  refine K.seq_ix (M := []) _ hS.sl sl_24 rfl rfl rfl (by omega) rfl ?_
  intro p23 hp23
  try dsimp only [setd, setn, ev, nth, over, cl, eI, eP, eT, eN, eS, List.map, List.append, List.drop, List.take]
  refine K.seq_sil (K.loadA_p ag_63 rfl (hp23.any) rfl) rfl ?_
  try dsimp only [setd, setn, ev, nth, over, cl, eI, eP, eT, eN, eS, List.map, List.append, List.drop, List.take]
  refine K.seq_new (K.alloc zr_63) rfl ?_
  intro b9
  try dsimp only [setd, setn, ev, nth, over, cl, eI, eP, eT, eN, eS, List.map, List.append, List.drop, List.take]
  refine K.seq_st (K.store_all sz_63 rfl rfl rfl rfl (K.rp0)) rfl ?_
  try dsimp only [setd, setn, ev, nth, over, cl, eI, eP, eT, eN, eS, List.map, List.append, List.drop, List.take]
  refine K.seq_nil ?_
  refine K.norm_then ?_
  refine K.seq ?_
  refine K.region_lit ?_
  refine K.seq_pure (K.assign) rfl ?_
  dsimp only [setd, setn, ev, nth]
  refine K.seq_pure (K.assign) rfl ?_
  dsimp only [setd, setn, ev, nth]
  refine K.seq_nil ?_
  refine K.norm_then ?_
  refine K.seq ?_
  refine K.block ?_
  refine K.loopW [10, 11] [12, 25, 26, 27, 28, 29, 30, 31, 32, 33, 34, 35, 36, 37, 38, 39, 40, 41, 42, 43, 44, 45, 46] (fun vi L => ∃ lo hi : Int, vi = [.int .i64 lo, .int .i64 hi] ∧ L = [K.blk b9 63 [.int .i64 (m.ss.getD s default).x, .int .i64 (m.ss.getD s default).y, .int .i64 (m.ss.getD s default).lo, .int .i64 (m.ss.getD s default).hi], K.blk b3 26 [.int .i64 m.W, .int .i64 m.D, .slice A m.hs.length c, .slice B m.ps.length d, .slice C m.ss.length e]] ∧ 0 ≤ lo ∧ lo ≤ hi ∧ hi ≤ 2001 ∧ lo ≤ (eyeS m (ownS m) (m.ss.getD s default).x (m.ss.getD s default).y p) ∧ ((eyeS m (ownS m) (m.ss.getD s default).x (m.ss.getD s default).y p) ≤ hi ∨ hi = 2001)) (fun vi => ((intOf (K.nth vi 1)) - (intOf (K.nth vi 0))).toNat) ?_ ?_
  · exact ⟨0, 2001, rfl, rfl, by omega, by omega, by omega, by omega, .inr rfl⟩
  intro vi vr L hJ
  obtain ⟨lo, hi, rfl, rfl, h0, h1, h2, h3, hE⟩ := hJ
  try dsimp only [setd, setn, ev, nth, over, cl, eI, eP, eT, eN, eS, setM, setF, List.map, List.append, List.drop, List.take]
  refine K.seq ?_
  refine K.seq ?_
  refine K.region_lit ?_
  refine K.seq_pure (K.move) rfl ?_
  dsimp only [setd, setn, ev, nth]
  refine K.seq_pure (K.move) rfl ?_
  dsimp only [setd, setn, ev, nth]
  refine K.seq_pure (K.lss rfl rfl) rfl ?_
  dsimp only [setd, setn, ev, nth]
  refine K.seq_nil ?_
  refine K.norm_then ?_
  refine K.cond rfl (fun ht27 => ?_) (fun ht27 => ?_)
  · try replace ht27 := of_decide_eq_true ht27
    refine K.skip ?_
    refine K.norm_then ?_
    refine K.block ?_
    refine K.seq ?_
    refine K.region_lit ?_
    refine K.seq_pure (K.move) rfl ?_
    dsimp only [setd, setn, ev, nth]
    refine K.seq_pure (K.move) rfl ?_
    dsimp only [setd, setn, ev, nth]
    refine K.seq_pure (K.add_i64 rfl rfl (by omega)) rfl ?_
    dsimp only [setd, setn, ev, nth]
    refine K.seq_pure (K.Pure.eq (K.quo_t rfl rfl (by omega) (by omega)) (show _ = Value.int .i64 ((lo + hi) / 2) from by rw [Int.tdiv_eq_ediv_of_nonneg (by omega)])) rfl ?_
    dsimp only [setd, setn, ev, nth]
    refine K.seq_pure (K.assign) rfl ?_
    dsimp only [setd, setn, ev, nth]
    refine K.seq_nil ?_
    refine K.norm_then ?_
    refine K.seq ?_
    refine K.draw_L [] Tryd_mixed ?_
    refine K.d_mem 0 rfl (K.loadA_own ag_26 rfl (K.m1) rfl) (fun _ h => h) (by kernel_rfl) (by kernel_rfl) rfl ?_
    try dsimp only [setd, setn, ev, nth, over, cl, eI, eP, eT, eN, eS, List.map, List.append, List.drop, List.take]
    refine K.d_mem 1 rfl (K.loadA_own ag_26 rfl (K.m1) rfl) (fun _ h => h) (by kernel_rfl) (by kernel_rfl) rfl ?_
    try dsimp only [setd, setn, ev, nth, over, cl, eI, eP, eT, eN, eS, List.map, List.append, List.drop, List.take]
    refine K.d_pure 3 rfl (K.fieldAddr_lit fo_63_0 rfl) (by kernel_rfl) rfl ?_
    dsimp only [setd, setn, ev, nth]
    refine K.d_mem 4 rfl (K.load1_own one_3 rfl (K.m0) rfl) (fun _ h => h) (by kernel_rfl) (by kernel_rfl) rfl ?_
    try dsimp only [setd, setn, ev, nth, over, cl, eI, eP, eT, eN, eS, List.map, List.append, List.drop, List.take]
    refine K.d_pure 5 rfl (K.fieldAddr_lit fo_63_1 rfl) (by kernel_rfl) rfl ?_
    dsimp only [setd, setn, ev, nth]
    refine K.d_mem 6 rfl (K.load1_own one_3 rfl (K.m0) rfl) (fun _ h => h) (by kernel_rfl) (by kernel_rfl) rfl ?_
    try dsimp only [setd, setn, ev, nth, over, cl, eI, eP, eT, eN, eS, List.map, List.append, List.drop, List.take]
    refine K.d_pure 7 rfl (K.move) (by kernel_rfl) rfl ?_
    dsimp only [setd, setn, ev, nth]
    refine K.d_pure 8 rfl (K.move) (by kernel_rfl) rfl ?_
    dsimp only [setd, setn, ev, nth]
    refine K.d_loud 2 rfl (K.call_f cal_43 (fun F w hF hw => c43 (hP.pass hw) (by omega))) (fun _ h => h) (by kernel_rfl) rfl ?_
    rintro ⟨Q2, q2⟩ hq2
    try dsimp only [setd, setn, ev, nth, over, cl, eI, eP, eT, eN, eS, List.map, List.append, List.drop, List.take]
    refine K.d_loud 9 rfl (K.call_f cal_66 (fun F w hF hw => (by have hh := K.Rd.own (e := K.eI) hw (hF _ (K.m0)) hq2 (fun _ => rfl) (by decide); exact c66 (l := ownS m) (hH.pass hw) (hP.pass hw) hh own_len g.lb hW (by omega)))) (fun _ h => K.tl h) (by kernel_rfl) rfl ?_
    rintro ⟨Q1, q1⟩ hq
    try dsimp only [setd, setn, ev, nth, over, cl, eI, eP, eT, eN, eS, List.map, List.append, List.drop, List.take]
    refine K.d_pure 10 rfl (K.len_sl sl_22 rfl) (by kernel_rfl) rfl ?_
    dsimp only [setd, setn, ev, nth]
    refine K.d_pure 11 rfl (K.Pure.eq (K.eql rfl rfl) (show _ = Value.bool (seesB m (ownS m) (m.ss.getD s default).x (m.ss.getD s default).y ((lo + hi) / 2) p) from by rw [← sees_len])) (by kernel_rfl) rfl ?_
    dsimp only [setd, setn, ev, nth]
    refine K.d_done (by kernel_rfl) ?_
    refine K.norm_then ?_
    refine K.cond rfl (fun ht43 => ?_) (fun ht43 => ?_)
    · try replace ht43 := of_decide_eq_true ht43
      refine K.region_lit ?_
      refine K.seq_pure (K.move) rfl ?_
      dsimp only [setd, setn, ev, nth]
      refine K.seq_pure (K.assign) rfl ?_
      dsimp only [setd, setn, ev, nth]
      refine K.seq_nil ?_
      refine K.norm_block ?_
      have hse : (eyeS m (ownS m) (m.ss.getD s default).x (m.ss.getD s default).y p) ≤ ((lo + hi) / 2) := (sees_iff hW (by omega)).1 ht43
      exact K.round_endW (L'' := [K.blk b9 63 [.int .i64 (m.ss.getD s default).x, .int .i64 (m.ss.getD s default).y, .int .i64 (m.ss.getD s default).lo, .int .i64 (m.ss.getD s default).hi], K.blk b3 26 [.int .i64 m.W, .int .i64 m.D, .slice A m.hs.length c, .slice B m.ps.length d, .slice C m.ss.length e]]) [.int .i64 lo, .int .i64 ((lo + hi) / 2)] ⟨lo, ((lo + hi) / 2), rfl, rfl, by omega, by omega, by omega, by omega, .inl hse⟩ (by simp [K.nth, intOf]; omega) (by repeat (first | exact List.Sublist.refl _ | apply List.Sublist.cons)) (by kernel_rfl)
    try replace ht43 := of_decide_eq_false ht43
    refine K.region_lit ?_
    refine K.seq_pure (K.move) rfl ?_
    dsimp only [setd, setn, ev, nth]
    refine K.seq_pure (K.add_i64 rfl rfl (by omega)) rfl ?_
    dsimp only [setd, setn, ev, nth]
    refine K.seq_pure (K.assign) rfl ?_
    dsimp only [setd, setn, ev, nth]
    refine K.seq_nil ?_
    refine K.norm_block ?_
    have hse : ¬ (eyeS m (ownS m) (m.ss.getD s default).x (m.ss.getD s default).y p) ≤ ((lo + hi) / 2) := fun h => by have h2 := (sees_iff hW (by omega)).2 h; rw [h2] at ht43; cases ht43
    exact K.round_endW (L'' := [K.blk b9 63 [.int .i64 (m.ss.getD s default).x, .int .i64 (m.ss.getD s default).y, .int .i64 (m.ss.getD s default).lo, .int .i64 (m.ss.getD s default).hi], K.blk b3 26 [.int .i64 m.W, .int .i64 m.D, .slice A m.hs.length c, .slice B m.ps.length d, .slice C m.ss.length e]]) [.int .i64 (((lo + hi) / 2) + 1), .int .i64 hi] ⟨((lo + hi) / 2) + 1, hi, rfl, rfl, by omega, by omega, by omega, by omega, hE⟩ (by simp [K.nth, intOf]; omega) (by repeat (first | exact List.Sublist.refl _ | apply List.Sublist.cons)) (by kernel_rfl)
  try replace ht27 := of_decide_eq_false ht27
  refine K.exit ?_
  refine K.exit_then ?_
  refine K.exit_then ?_
  refine K.exit_here ?_
  refine K.norm_then ?_
  refine K.seq ?_
  refine K.seq ?_
  refine K.region_lit ?_
  refine K.seq_pure (K.move) rfl ?_
  dsimp only [setd, setn, ev, nth]
  refine K.seq_pure (K.gtr rfl rfl) rfl ?_
  dsimp only [setd, setn, ev, nth]
  refine K.seq_nil ?_
  refine K.norm_then ?_
  refine K.cond rfl (fun ht48 => ?_) (fun ht48 => ?_)
  · try replace ht48 := of_decide_eq_true ht48
    refine K.seq ?_
    refine K.region_lit ?_
    refine K.seq_pure (K.assign) rfl ?_
    dsimp only [setd, setn, ev, nth]
    refine K.seq_pure (K.assign) rfl ?_
    dsimp only [setd, setn, ev, nth]
    refine K.seq_nil ?_
    refine K.norm_then ?_
    refine K.ret ?_
    refine K.ret_then ?_
    refine K.end_ret (fun w _ => K.res_tmp2 rfl w) ?_
    exact K.gives (by rw [hR, if_pos (by omega)]; rfl)
  try replace ht48 := of_decide_eq_false ht48
  refine K.skip ?_
  refine K.norm_then ?_
  refine K.seq ?_
  refine K.region_lit ?_
  refine K.seq_pure (K.move) rfl ?_
  dsimp only [setd, setn, ev, nth]
  refine K.seq_pure (K.assign) rfl ?_
  dsimp only [setd, setn, ev, nth]
  refine K.seq_pure (K.assign) rfl ?_
  dsimp only [setd, setn, ev, nth]
  refine K.seq_nil ?_
  refine K.norm_then ?_
  refine K.ret ?_
  refine K.end_ret (fun w _ => K.res_tmp2 rfl w) ?_
  exact K.gives (by rw [hR, if_neg (by omega)]; rw [show lo = (eyeS m (ownS m) (m.ss.getD s default).x (m.ss.getD s default).y p) by omega]; rfl)

end Go.Proofs.YthkgnhcknkjgdaaDoor
