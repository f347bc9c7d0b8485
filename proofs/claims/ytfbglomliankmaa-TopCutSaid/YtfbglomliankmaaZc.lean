/-
  Lemmas and walks of functions, joined and with only what the claim needs.
  Conditions stand in each theorem.
-/
import Derived.Test.YtfbglomliankmaaProg
import Derived.Test.YtfbglomliankmaaRows
import Derived.Below
import Derived.Laws.AppendOwn
import Derived.Laws.Rows
import Derived.Laws.Slices
import Derived.Tactics
import Derived.OrdersHeld
import Derived.KernelRfl
import Derived.WalkKit
import Derived.Deep.AppendLies
import Derived.IntWalk
import Derived.Scope
import Derived.WalkSpells
import Derived.DeepKeys
import Derived.Deep.Upon
import Derived.Laws.Small
import Derived.RangeFuncLeaves
import Derived.RangeFuncSeq
import Derived.OrdersIn
import Derived.Sort.LoopGhostIn
import Derived.TacticsIn
import Derived.RangeFuncOwn
import Derived.WideKeyMaps
import Derived.DeepKeys4
import Derived.Carry
import Derived.Laws.CopyRow
import Derived.Laws.MakeOwn
import Derived.WalkArith
import Derived.Laws.Closers25b
import Derived.ProofKit
import Derived.OpenShut
import Derived.ChangeOld
import Derived.SizedLaws
import Derived.Deep.Slices
import Derived.Deep.Fields
import Derived.ChangeSame
import Derived.Lib.SmallJoins
import Derived.Test.YtfbglomliankmaaZb
section
set_option linter.unusedSimpArgs false
set_option linter.unusedVariables false
namespace Go.Proofs.Ytfbglomliankmaa.Sc
open Go.RowKit Go
open Go.K (setd setn ev nth over cl eI eP eT setM setF)
attribute [local irreducible] K.blk K.row

set_option maxRecDepth 100000 in
theorem c59 {kind base most : Int} {A B : Option Addr} {c d : Nat} {hs : List Int} {rs : List (Int × Int)} {u v : Int} {w : World} (hH : K.Rd w A 1 K.eI hs) (g : Good kind base most hs rs) (hp : Parts u v) :
    Calls Try.prog 42 [.agg #[.int .i64 kind, .int .i64 base, .int .i64 most, .slice A hs.length c, .slice B rs.length d, .func (.func (90 + kind.toNat)) #[] #[]], .agg #[.int .i64 u, .int .i64 v]].toArray w (K.Gives (.tuple #[.agg (a8 (cuts kind base u v hs)).toArray, .bool (fitB most (cuts kind base u v hs))]) w) := by
  have g1 := g.k
  have g2 := g.n
  have g3 := g.r
  have g4 := g.b
  have g5 := g.m
  refine K.enter (args := [.agg #[.int .i64 kind, .int .i64 base, .int .i64 most, .slice A hs.length c, .slice B rs.length d, .func (.func (90 + kind.toNat)) #[] #[]], .agg #[.int .i64 u, .int .i64 v]]) Try.func42 rfl (n := 44) rfl ?_
  simp only [List.replicate, List.cons_append, List.nil_append]
  refine K.seq ?_
  refine K.region_lit ?_
  refine K.seq_new (K.box) rfl ?_
  intro b2
  try dsimp only [setd, setn, ev, nth, over, cl, eI, eP, eT, List.map, List.append, List.drop, List.take]
  refine K.seq_new (K.box) rfl ?_
  intro b3
  try dsimp only [setd, setn, ev, nth, over, cl, eI, eP, eT, List.map, List.append, List.drop, List.take]
  refine K.seq_new (K.alloc zr_98) rfl ?_
  intro b4
  try dsimp only [setd, setn, ev, nth, over, cl, eI, eP, eT, List.map, List.append, List.drop, List.take]
  refine K.seq_pure (K.assign) rfl ?_
  dsimp only [setd, setn, ev, nth]
  refine K.seq_nil ?_
  refine K.norm_then ?_
  refine K.seq ?_
  refine K.region_lit ?_
  refine K.seq_pure (K.assign) rfl ?_
  dsimp only [setd, setn, ev, nth]
  refine K.seq_nil ?_
  refine K.norm_then ?_
  refine K.seq ?_
  refine K.seq ?_
  refine K.region_lit ?_
  refine K.seq_pure (K.fieldAddr_lit fo_94_0 rfl) rfl ?_
  dsimp only [setd, setn, ev, nth]
  refine K.seq_pure (K.fieldAddr_lit fo_41_3 rfl) rfl ?_
  dsimp only [setd, setn, ev, nth]
  refine K.seq_sil (K.load1_own one_31 rfl (K.m2) rfl) rfl ?_
  try dsimp only [setd, setn, ev, nth, over, cl, eI, eP, eT, List.map, List.append, List.drop, List.take]
  refine K.seq_pure (K.len_sl sl_31 rfl) rfl ?_
  dsimp only [setd, setn, ev, nth]
  refine K.seq_pure (K.move) rfl ?_
  dsimp only [setd, setn, ev, nth]
  refine K.seq_nil ?_
  refine K.norm_then ?_
  refine K.block ?_
  refine K.loopW [5, 12] [6, 7, 13, 14, 15, 16, 17, 18, 19, 20, 21, 22, 23, 24, 25, 26, 27, 28, 29, 30, 31, 32, 33, 34, 35, 36, 37, 38, 39, 40, 41, 42, 43] (fun vi L => ∃ (k : Nat) (fb : Bool) (ys : List Value), vi = [.bool fb, .int .i64 (k : Int)] ∧ L = [K.blk b4 98 ys, K.blk b3 36 [.int .i64 u, .int .i64 v], K.blk b2 94 [.int .i64 kind, .int .i64 base, .int .i64 most, .slice A hs.length c, .slice B rs.length d, .func (.func (90 + kind.toNat)) #[] #[]]] ∧ fb = fitB most ((hs.take k).map (ct kind base u v)) ∧ ys = a8 ((hs.take k).map (ct kind base u v)) ∧ k ≤ hs.length) (fun vi => hs.length - (intOf (K.nth vi 1)).toNat) ?_ ?_
  · exact ⟨0, true, _, rfl, rfl, rfl, a8_nil.symm, Nat.zero_le _⟩
  intro vi vr L hJ
  obtain ⟨k, fb, ys, rfl, rfl, hfb, hys, hkn⟩ := hJ
  try dsimp only [setd, setn, ev, nth, over, cl, eI, eP, eT, setM, setF, List.map, List.append, List.drop, List.take]
  refine K.seq ?_
  refine K.region_lit ?_
  refine K.seq_pure (K.lss rfl rfl) rfl ?_
  dsimp only [setd, setn, ev, nth]
  refine K.seq_nil ?_
  refine K.norm_then ?_
  refine K.seq ?_
  refine K.cond rfl (fun ht13 => ?_) (fun ht13 => ?_)
  · try replace ht13 := of_decide_eq_true ht13
    have hk : k < hs.length := by omega
    refine K.skip ?_
    refine K.norm_then ?_
    refine K.seq ?_
    refine K.block ?_
    refine K.seq ?_
    refine K.region_lit ?_
    refine K.seq_pure (K.move) rfl ?_
    dsimp only [setd, setn, ev, nth]
    refine K.seq_ix (M := []) _ hH.sl sl_31 rfl rfl rfl (by omega) rfl ?_
    intro p15 hp15
    try dsimp only [setd, setn, ev, nth, over, cl, eI, eP, eT, List.map, List.append, List.drop, List.take]
    refine K.seq_sil (K.load1 one_3 rfl (hp15.any)) rfl ?_
    try dsimp only [setd, setn, ev, nth, over, cl, eI, eP, eT, List.map, List.append, List.drop, List.take]
    refine K.seq_pure (K.assign) rfl ?_
    dsimp only [setd, setn, ev, nth]
    refine K.seq_pure (K.assign) rfl ?_
    dsimp only [setd, setn, ev, nth]
    refine K.seq_nil ?_
    refine K.norm_then ?_
    refine K.seq ?_
    have hg := g.at hk
    have hm := mul_bd (show 0 ≤ hs.getD k default - base by omega) (show hs.getD k default - base ≤ 9000 by omega) (show 0 ≤ u by omega) (show u ≤ 30 by omega)
    refine K.region_lit ?_
    refine K.seq_pure (K.move) rfl ?_
    dsimp only [setd, setn, ev, nth]
    refine K.seq_pure (K.fieldAddr_lit fo_94_1 rfl) rfl ?_
    dsimp only [setd, setn, ev, nth]
    refine K.seq_pure (K.fieldAddr_lit fo_92_0 rfl) rfl ?_
    dsimp only [setd, setn, ev, nth]
    refine K.seq_sil (K.load1_own one_90 rfl (K.m2) rfl) rfl ?_
    try dsimp only [setd, setn, ev, nth, over, cl, eI, eP, eT, List.map, List.append, List.drop, List.take]
    refine K.seq_pure (K.move) rfl ?_
    dsimp only [setd, setn, ev, nth]
    refine K.seq_pure (K.fieldAddr_lit fo_94_0 rfl) rfl ?_
    dsimp only [setd, setn, ev, nth]
    refine K.seq_pure (K.fieldAddr_lit fo_41_1 rfl) rfl ?_
    dsimp only [setd, setn, ev, nth]
    refine K.seq_sil (K.load1_own one_3 rfl (K.m2) rfl) rfl ?_
    try dsimp only [setd, setn, ev, nth, over, cl, eI, eP, eT, List.map, List.append, List.drop, List.take]
    refine K.seq_pure (K.sub_i64 rfl rfl (by omega)) rfl ?_
    dsimp only [setd, setn, ev, nth]
    refine K.seq_pure (K.fieldAddr_lit fo_36_0 rfl) rfl ?_
    dsimp only [setd, setn, ev, nth]
    refine K.seq_sil (K.load1_own one_3 rfl (K.m1) rfl) rfl ?_
    try dsimp only [setd, setn, ev, nth, over, cl, eI, eP, eT, List.map, List.append, List.drop, List.take]
    refine K.seq_pure (K.mul_i64 rfl rfl (by omega)) rfl ?_
    dsimp only [setd, setn, ev, nth]
    refine K.seq_pure (K.fieldAddr_lit fo_36_1 rfl) rfl ?_
    dsimp only [setd, setn, ev, nth]
    refine K.seq_sil (K.load1_own one_3 rfl (K.m1) rfl) rfl ?_
    try dsimp only [setd, setn, ev, nth, over, cl, eI, eP, eT, List.map, List.append, List.drop, List.take]
    refine K.seq_call (K.callv_g (first := []) (cap := []) rfl (cal_r g.k) (fun F w1 _ hw => cRound g.k (by omega) (by omega) hp w1)) rfl ?_
    try dsimp only [setd, setn, ev, nth, over, cl, eI, eP, eT, List.map, List.append, List.drop, List.take]
    refine K.seq_pure (K.indexAddr_ar ar_98 rfl rfl (by omega) (by omega)) rfl ?_
    try dsimp only [setd, setn, ev, nth, over, cl, eI, eP, eT, List.map, List.append, List.drop, List.take]
    refine K.seq_st (K.store_ix sz_3 rfl rfl (by rw [hys, a8_len]; omega) rfl (K.Rep.here)) rfl ?_
    try dsimp only [setd, setn, ev, nth, over, cl, eI, eP, eT, List.map, List.append, List.drop, List.take]
    subst hys
    rw [a8_over (xs := ((hs.take k).map (ct kind base u v))) (by simp; omega) (by simp; omega)]
    try dsimp only [setd, setn, ev, nth, over, cl, eI, eP, eT, List.map, List.append, List.drop, List.take]
    refine K.seq_nil ?_
    refine K.norm_then ?_
    refine K.draw_L [] Try_mixed ?_
    refine K.d_pure 0 rfl (K.move) (by kernel_rfl) rfl ?_
    dsimp only [setd, setn, ev, nth]
    refine K.d_pure 1 rfl (K.move) (by kernel_rfl) rfl ?_
    dsimp only [setd, setn, ev, nth]
    refine K.dsplit 34 rfl (fun hg34 => ?_) (fun hg34 => ?_)
    · try replace hg34 := of_decide_eq_true hg34
      refine K.d_pure 2 rfl (K.move) (by kernel_rfl) rfl ?_
      dsimp only [setd, setn, ev, nth]
      refine K.d_pure 3 rfl (K.indexAddr_ar ar_98 rfl rfl (by omega) (by omega)) (by kernel_rfl) rfl ?_
      try dsimp only [setd, setn, ev, nth, over, cl, eI, eP, eT, List.map, List.append, List.drop, List.take]
      refine K.d_mem 4 rfl (load8 one_3 rfl (K.m0) (by omega) (by omega)) (fun _ h => h) (by kernel_rfl) (by kernel_rfl) rfl ?_
      try dsimp only [setd, setn, ev, nth, over, cl, eI, eP, eT, List.map, List.append, List.drop, List.take]
      refine K.d_pure 5 rfl (K.fieldAddr_lit fo_94_0 rfl) (by kernel_rfl) rfl ?_
      dsimp only [setd, setn, ev, nth]
      refine K.d_pure 6 rfl (K.fieldAddr_lit fo_41_2 rfl) (by kernel_rfl) rfl ?_
      dsimp only [setd, setn, ev, nth]
      refine K.d_mem 7 rfl (K.load1_own one_3 rfl (K.m2) rfl) (fun _ h => h) (by kernel_rfl) (by kernel_rfl) rfl ?_
      try dsimp only [setd, setn, ev, nth, over, cl, eI, eP, eT, List.map, List.append, List.drop, List.take]
      refine K.d_pure 8 rfl (K.leq rfl rfl) (by kernel_rfl) rfl ?_
      dsimp only [setd, setn, ev, nth]
      refine K.d_pure 9 rfl (K.pick_t rfl) (by kernel_rfl) rfl ?_
      dsimp only [setd, setn, ev, nth]
      refine K.d_pure 10 rfl (K.assign) (by kernel_rfl) rfl ?_
      dsimp only [setd, setn, ev, nth]
      refine K.d_done (by kernel_rfl) ?_
      refine K.norm_block ?_
      refine K.norm_then ?_
      refine K.region_lit ?_
      refine K.seq_pure (K.add_i64 rfl rfl (by omega)) rfl ?_
      dsimp only [setd, setn, ev, nth]
      refine K.seq_pure (K.move) rfl ?_
      dsimp only [setd, setn, ev, nth]
      refine K.seq_nil ?_
      have hx : (((hs.take k).map (ct kind base u v)) ++ [ct kind base u v (hs.getD k default)]).getD (Int.toNat (k : Int)) default = ct kind base u v (hs.getD k default) := snoc_at (by simp; omega)
      exact K.round_endW [.bool (decide ((((hs.take k).map (ct kind base u v)) ++ [ct kind base u v (hs.getD k default)]).getD (Int.toNat (k : Int)) default ≤ most)), .int .i64 ((k : Int) + 1)] ⟨k + 1, _, _, rfl, rfl, by rw [take_succ_map _ hk, fitB_snoc, ← hfb, hg34]; first | rfl | (rw [hx]; rfl), by rw [take_succ_map _ hk], by omega⟩ (by simp [K.nth, intOf]; omega) (by repeat (first | exact List.Sublist.refl _ | apply List.Sublist.cons)) (by kernel_rfl)
    try replace hg34 := of_decide_eq_false hg34
    refine K.d_skip 2 rfl (by kernel_rfl) rfl ?_
    try dsimp only [setd, setn, ev, nth, over, cl, eI, eP, eT, List.map, List.append, List.drop, List.take]
    refine K.d_skip 3 rfl (by kernel_rfl) rfl ?_
    try dsimp only [setd, setn, ev, nth, over, cl, eI, eP, eT, List.map, List.append, List.drop, List.take]
    refine K.d_skip 4 rfl (by kernel_rfl) rfl ?_
    try dsimp only [setd, setn, ev, nth, over, cl, eI, eP, eT, List.map, List.append, List.drop, List.take]
    refine K.d_skip 5 rfl (by kernel_rfl) rfl ?_
    try dsimp only [setd, setn, ev, nth, over, cl, eI, eP, eT, List.map, List.append, List.drop, List.take]
    refine K.d_skip 6 rfl (by kernel_rfl) rfl ?_
    try dsimp only [setd, setn, ev, nth, over, cl, eI, eP, eT, List.map, List.append, List.drop, List.take]
    refine K.d_skip 7 rfl (by kernel_rfl) rfl ?_
    try dsimp only [setd, setn, ev, nth, over, cl, eI, eP, eT, List.map, List.append, List.drop, List.take]
    refine K.d_skip 8 rfl (by kernel_rfl) rfl ?_
    try dsimp only [setd, setn, ev, nth, over, cl, eI, eP, eT, List.map, List.append, List.drop, List.take]
    refine K.d_pure 9 rfl (K.pick_f rfl) (by kernel_rfl) rfl ?_
    dsimp only [setd, setn, ev, nth]
    refine K.d_pure 10 rfl (K.assign) (by kernel_rfl) rfl ?_
    dsimp only [setd, setn, ev, nth]
    refine K.d_done (by kernel_rfl) ?_
    refine K.norm_block ?_
    refine K.norm_then ?_
    refine K.region_lit ?_
    refine K.seq_pure (K.add_i64 rfl rfl (by omega)) rfl ?_
    dsimp only [setd, setn, ev, nth]
    refine K.seq_pure (K.move) rfl ?_
    dsimp only [setd, setn, ev, nth]
    refine K.seq_nil ?_
    have hx : (((hs.take k).map (ct kind base u v)) ++ [ct kind base u v (hs.getD k default)]).getD (Int.toNat (k : Int)) default = ct kind base u v (hs.getD k default) := snoc_at (by simp; omega)
    exact K.round_endW [.bool (false), .int .i64 ((k : Int) + 1)] ⟨k + 1, _, _, rfl, rfl, by rw [take_succ_map _ hk, fitB_snoc, ← hfb, hg34]; first | rfl | (rw [hx]; rfl), by rw [take_succ_map _ hk], by omega⟩ (by simp [K.nth, intOf]; omega) (by repeat (first | exact List.Sublist.refl _ | apply List.Sublist.cons)) (by kernel_rfl)
  try replace ht13 := of_decide_eq_false ht13
  refine K.exit ?_
  refine K.exit_then ?_
  refine K.exit_then ?_
  refine K.exit_here ?_
  refine K.norm_then ?_
  refine K.seq ?_
  subst hys
  refine K.region_lit ?_
  refine K.seq_sil (K.loadA_own ag_98 rfl (K.m0) rfl) rfl ?_
  try dsimp only [setd, setn, ev, nth, over, cl, eI, eP, eT, List.map, List.append, List.drop, List.take]
  refine K.seq_pure (K.move) rfl ?_
  dsimp only [setd, setn, ev, nth]
  refine K.seq_st (K.store_all sz_98 rfl rfl rfl rfl (K.rp0)) rfl ?_
  try dsimp only [setd, setn, ev, nth, over, cl, eI, eP, eT, List.map, List.append, List.drop, List.take]
  refine K.seq_pure (K.assign) rfl ?_
  dsimp only [setd, setn, ev, nth]
  refine K.seq_nil ?_
  refine K.norm_then ?_
  refine K.ret ?_
  refine K.end_ret (fun w hw => K.res_ct rfl rfl (K.run_cellA ag_98 rfl (K.m0) rfl w hw)) ?_
  exact K.gives (by rw [hfb, take_all (xs := hs) (by omega)]; rfl)

set_option maxRecDepth 100000 in
theorem c62 {kind base most : Int} {A B : Option Addr} {c d : Nat} {hs : List Int} {rs : List (Int × Int)} {r : Int × Int} {cs : List Int} {u v : Int} {w : World} (hH : K.Rd w A 1 K.eI hs) (hr : 0 ≤ r.1 ∧ r.1 < hs.length ∧ 0 ≤ r.2 ∧ r.2 < hs.length) (h8 : hs.length ≤ 8) (hb : Bd 0 9000 hs) (hc : Bd 0 270001 cs) (hp : Parts u v) :
    Calls Try.prog 57 [.agg #[.int .i64 kind, .int .i64 base, .int .i64 most, .slice A hs.length c, .slice B rs.length d, .func (.func (90 + kind.toNat)) #[] #[]], .agg #[.int .i64 r.1, .int .i64 r.2], .agg #[.int .i64 u, .int .i64 v], .agg (a8 cs).toArray].toArray w (K.Gives (.int .i64 (offS u v (riseS hs r) (riseS cs r))) w) := by
  have q1 := hb r.1.toNat
  have q2 := hb r.2.toNat
  have q3 := hc r.1.toNat
  have q4 := hc r.2.toNat
  have q5 : -9000 ≤ riseS hs r ∧ riseS hs r ≤ 9000 := by unfold riseS; omega
  have q6 : -270001 ≤ riseS cs r ∧ riseS cs r ≤ 270001 := by unfold riseS; omega
  have q7 := mulb (A := 30) (show 0 ≤ v ∧ v ≤ 30 by omega) q6
  have q8 := mulb (A := 30) (show 0 ≤ u ∧ u ≤ 30 by omega) q5
  refine K.enter (args := [.agg #[.int .i64 kind, .int .i64 base, .int .i64 most, .slice A hs.length c, .slice B rs.length d, .func (.func (90 + kind.toNat)) #[] #[]], .agg #[.int .i64 r.1, .int .i64 r.2], .agg #[.int .i64 u, .int .i64 v], .agg (a8 cs).toArray]) Try.func57 rfl (n := 44) rfl ?_
  simp only [List.replicate, List.cons_append, List.nil_append]
  refine K.seq ?_
  refine K.region_lit ?_
  refine K.seq_new (K.box) rfl ?_
  intro b4
  try dsimp only [setd, setn, ev, nth, over, cl, eI, eP, eT, List.map, List.append, List.drop, List.take]
  refine K.seq_new (K.box) rfl ?_
  intro b5
  try dsimp only [setd, setn, ev, nth, over, cl, eI, eP, eT, List.map, List.append, List.drop, List.take]
  refine K.seq_new (K.box) rfl ?_
  intro b6
  try dsimp only [setd, setn, ev, nth, over, cl, eI, eP, eT, List.map, List.append, List.drop, List.take]
  refine K.seq_new (K.box) rfl ?_
  intro b7
  try dsimp only [setd, setn, ev, nth, over, cl, eI, eP, eT, List.map, List.append, List.drop, List.take]
  refine K.seq_pure (K.assign) rfl ?_
  dsimp only [setd, setn, ev, nth]
  refine K.seq_nil ?_
  refine K.norm_then ?_
  refine K.seq ?_
  refine K.region_lit ?_
  refine K.seq_sil (K.loadA_own ag_94 rfl (K.m3) rfl) rfl ?_
  try dsimp only [setd, setn, ev, nth, over, cl, eI, eP, eT, List.map, List.append, List.drop, List.take]
  refine K.seq_sil (K.loadA_own ag_124 rfl (K.m2) rfl) rfl ?_
  try dsimp only [setd, setn, ev, nth, over, cl, eI, eP, eT, List.map, List.append, List.drop, List.take]
  refine K.seq_sil (K.loadA_own ag_98 rfl ((K.m0)) (by rw [a8_len]; rfl)) rfl ?_
  try dsimp only [setd, setn, ev, nth, over, cl, eI, eP, eT, List.map, List.append, List.drop, List.take]
  refine K.seq_call (K.call_g cal_78 (fun F w hF hw => c88 (r := r) (cs := cs) (hH.pass hw) hr h8 hb hc)) rfl ?_
  try dsimp only [setd, setn, ev, nth, over, cl, eI, eP, eT, List.map, List.append, List.drop, List.take]
  refine K.seq_pure (K.move) rfl ?_
  dsimp only [setd, setn, ev, nth]
  refine K.seq_pure (K.extract rfl rfl) rfl ?_
  dsimp only [setd, setn, ev, nth]
  refine K.seq_pure (K.extract rfl rfl) rfl ?_
  dsimp only [setd, setn, ev, nth]
  refine K.seq_pure (K.assign) rfl ?_
  dsimp only [setd, setn, ev, nth]
  refine K.seq_pure (K.assign) rfl ?_
  dsimp only [setd, setn, ev, nth]
  refine K.seq_nil ?_
  refine K.norm_then ?_
  refine K.seq ?_
  refine K.seq ?_
  refine K.region_lit ?_
  refine K.seq_pure (K.move) rfl ?_
  dsimp only [setd, setn, ev, nth]
  refine K.seq_pure (K.eql rfl rfl) rfl ?_
  dsimp only [setd, setn, ev, nth]
  refine K.seq_nil ?_
  refine K.norm_then ?_
  refine K.cond rfl (fun ht21 => ?_) (fun ht21 => ?_)
  · try replace ht21 := of_decide_eq_true ht21
    refine K.seq ?_
    refine K.region_lit ?_
    refine K.seq_pure (K.assign) rfl ?_
    dsimp only [setd, setn, ev, nth]
    refine K.seq_nil ?_
    refine K.norm_then ?_
    refine K.ret ?_
    refine K.ret_then ?_
    refine K.end_ret (fun w _ => K.res_tmp rfl w) ?_
    exact K.gives_i rfl (by unfold offS; rw [if_pos ht21])
  try replace ht21 := of_decide_eq_false ht21
  have q9 := mul_bd (A := 30) (B := 9000) (show 0 ≤ u by omega) (show u ≤ 30 by omega) (show 0 ≤ max (riseS hs r) (-(riseS hs r)) by omega) (show max (riseS hs r) (-(riseS hs r)) ≤ 9000 by omega)
  have q10 : 1 ≤ u * max (riseS hs r) (-(riseS hs r)) := Int.mul_pos (by omega) (by omega)
  refine K.skip ?_
  refine K.norm_then ?_
  refine K.seq ?_
  refine K.draw_L [] Try_mixed ?_
  refine K.d_pure 0 rfl (K.fieldAddr_lit fo_36_1 rfl) (by kernel_rfl) rfl ?_
  dsimp only [setd, setn, ev, nth]
  refine K.d_mem 1 rfl (K.load1_own one_3 rfl (K.m1) rfl) (fun _ h => h) (by kernel_rfl) (by kernel_rfl) rfl ?_
  try dsimp only [setd, setn, ev, nth, over, cl, eI, eP, eT, List.map, List.append, List.drop, List.take]
  refine K.d_pure 2 rfl (K.move) (by kernel_rfl) rfl ?_
  dsimp only [setd, setn, ev, nth]
  refine K.d_pure 3 rfl (K.mul_i64 rfl rfl (by omega)) (by kernel_rfl) rfl ?_
  dsimp only [setd, setn, ev, nth]
  refine K.d_pure 4 rfl (K.fieldAddr_lit fo_36_0 rfl) (by kernel_rfl) rfl ?_
  dsimp only [setd, setn, ev, nth]
  refine K.d_mem 5 rfl (K.load1_own one_3 rfl (K.m1) rfl) (fun _ h => h) (by kernel_rfl) (by kernel_rfl) rfl ?_
  try dsimp only [setd, setn, ev, nth, over, cl, eI, eP, eT, List.map, List.append, List.drop, List.take]
  refine K.d_pure 6 rfl (K.move) (by kernel_rfl) rfl ?_
  dsimp only [setd, setn, ev, nth]
  refine K.d_pure 7 rfl (K.mul_i64 rfl rfl (by omega)) (by kernel_rfl) rfl ?_
  dsimp only [setd, setn, ev, nth]
  refine K.d_pure 8 rfl (K.sub_i64 rfl rfl (by omega)) (by kernel_rfl) rfl ?_
  dsimp only [setd, setn, ev, nth]
  refine K.d_pure 9 rfl (K.mul_i64 rfl rfl (by omega)) (by kernel_rfl) rfl ?_
  dsimp only [setd, setn, ev, nth]
  refine K.d_pure 10 rfl (K.fieldAddr_lit fo_36_0 rfl) (by kernel_rfl) rfl ?_
  dsimp only [setd, setn, ev, nth]
  refine K.d_mem 11 rfl (K.load1_own one_3 rfl (K.m1) rfl) (fun _ h => h) (by kernel_rfl) (by kernel_rfl) rfl ?_
  try dsimp only [setd, setn, ev, nth, over, cl, eI, eP, eT, List.map, List.append, List.drop, List.take]
  refine K.d_pure 12 rfl (K.move) (by kernel_rfl) rfl ?_
  dsimp only [setd, setn, ev, nth]
  refine K.d_pure 13 rfl (K.move) (by kernel_rfl) rfl ?_
  dsimp only [setd, setn, ev, nth]
  refine K.d_pure 14 rfl (K.neg_i64 rfl (by omega)) (by kernel_rfl) rfl ?_
  dsimp only [setd, setn, ev, nth]
  refine K.d_pure 15 rfl (K.max_int rfl rfl) (by kernel_rfl) rfl ?_
  dsimp only [setd, setn, ev, nth]
  refine K.d_pure 16 rfl (K.mul_i64 rfl rfl (by omega)) (by kernel_rfl) rfl ?_
  dsimp only [setd, setn, ev, nth]
  refine K.d_pure 17 rfl (K.assign) (by kernel_rfl) rfl ?_
  dsimp only [setd, setn, ev, nth]
  refine K.d_pure 18 rfl (K.assign) (by kernel_rfl) rfl ?_
  dsimp only [setd, setn, ev, nth]
  refine K.d_done (by kernel_rfl) ?_
  refine K.norm_then ?_
  refine K.seq ?_
  refine K.region_lit ?_
  refine K.seq_pure (K.move) rfl ?_
  dsimp only [setd, setn, ev, nth]
  refine K.seq_pure (K.move) rfl ?_
  dsimp only [setd, setn, ev, nth]
  refine K.seq_pure (K.neg_i64 rfl (by omega)) rfl ?_
  dsimp only [setd, setn, ev, nth]
  refine K.seq_pure (K.max_int rfl rfl) rfl ?_
  dsimp only [setd, setn, ev, nth]
  refine K.seq_pure (K.move) rfl ?_
  dsimp only [setd, setn, ev, nth]
  refine K.seq_pure (K.add_i64 rfl rfl (by omega)) rfl ?_
  dsimp only [setd, setn, ev, nth]
  refine K.seq_pure (K.sub_i64 rfl rfl (by omega)) rfl ?_
  dsimp only [setd, setn, ev, nth]
  refine K.seq_pure (K.move) rfl ?_
  dsimp only [setd, setn, ev, nth]
  refine K.seq_pure (K.quo_i64 rfl rfl (by omega) (by omega) (by omega)) rfl ?_
  dsimp only [setd, setn, ev, nth]
  refine K.seq_pure (K.assign) rfl ?_
  dsimp only [setd, setn, ev, nth]
  refine K.seq_nil ?_
  refine K.norm_then ?_
  refine K.ret ?_
  refine K.end_ret (fun w _ => K.res_tmp rfl w) ?_
  exact K.gives_i rfl (by unfold offS; rw [if_neg ht21])

end Go.Proofs.Ytfbglomliankmaa.Sc
end
section
set_option linter.unusedSimpArgs false
set_option linter.unusedVariables false
namespace Go.Proofs.Ytfbglomliankmaa.Sc
open Go.RowKit Go
open Go.K (setd setn ev nth over cl eI eP eT setM setF)
attribute [local irreducible] K.blk K.row

set_option maxRecDepth 100000 in
theorem c64 {kind base most : Int} {A B : Option Addr} {c d : Nat} {hs : List Int} {rs : List (Int × Int)} {cs : List Int} {w : World} (hH : K.Rd w A 1 K.eI hs) (hR : K.Rd w B 2 K.eP rs) (h8 : hs.length ≤ 8) (hb : Bd 0 9000 hs) (hc : Bd 0 270001 cs) (hrd : ∀ i, i < rs.length → 0 ≤ (rs.getD i default).1 ∧ (rs.getD i default).1 < hs.length ∧ 0 ≤ (rs.getD i default).2 ∧ (rs.getD i default).2 < hs.length) (h9 : rs.length ≤ 8) :
    Calls Try.prog 58 [.agg #[.int .i64 kind, .int .i64 base, .int .i64 most, .slice A hs.length c, .slice B rs.length d, .func (.func (90 + kind.toNat)) #[] #[]], .agg (a8 cs).toArray].toArray w (K.RetN 3 1 K.eI (flats hs cs rs) w) := by
  refine K.enter (args := [.agg #[.int .i64 kind, .int .i64 base, .int .i64 most, .slice A hs.length c, .slice B rs.length d, .func (.func (90 + kind.toNat)) #[] #[]], .agg (a8 cs).toArray]) Try.func58 rfl (n := 35) rfl ?_
  simp only [List.replicate, List.cons_append, List.nil_append]
  refine K.seq ?_
  refine K.region_lit ?_
  refine K.seq_new (K.box) rfl ?_
  intro b2
  try dsimp only [setd, setn, ev, nth, over, cl, eI, eP, eT, List.map, List.append, List.drop, List.take]
  refine K.seq_new (K.box) rfl ?_
  intro b3
  try dsimp only [setd, setn, ev, nth, over, cl, eI, eP, eT, List.map, List.append, List.drop, List.take]
  refine K.seq_pure (K.assign) rfl ?_
  dsimp only [setd, setn, ev, nth]
  refine K.seq_nil ?_
  refine K.norm_then ?_
  refine K.seq ?_
  refine K.seq ?_
  refine K.region_lit ?_
  refine K.nil_row (e := 3) (size := 1) ?_
  refine K.seq_pure (K.fieldAddr_lit fo_94_0 rfl) rfl ?_
  dsimp only [setd, setn, ev, nth]
  refine K.seq_pure (K.fieldAddr_lit fo_41_4 rfl) rfl ?_
  dsimp only [setd, setn, ev, nth]
  refine K.seq_sil (K.load1_own one_39 rfl (K.m2) rfl) rfl ?_
  try dsimp only [setd, setn, ev, nth, over, cl, eI, eP, eT, List.map, List.append, List.drop, List.take]
  refine K.seq_pure (K.len_sl sl_39 rfl) rfl ?_
  dsimp only [setd, setn, ev, nth]
  refine K.seq_pure (K.move) rfl ?_
  dsimp only [setd, setn, ev, nth]
  refine K.seq_nil ?_
  refine K.norm_then ?_
  refine K.block ?_
  refine K.loopW [4, 13] [5, 6, 7, 8, 14, 15, 16, 17, 18, 19, 20, 21, 22, 23, 24, 25, 26, 27, 28, 29, 30, 31, 32, 33, 34, 35] (fun vi L => ∃ (k : Nat) (Q1 : Option Addr) (n1 q1 : Nat) (ys : List Value), vi = [.slice Q1 n1 q1, .int .i64 (k : Int)] ∧ L = [K.row (.slice Q1 n1 q1) 3 1 n1 ys, K.blk b3 98 (a8 cs), K.blk b2 94 [.int .i64 kind, .int .i64 base, .int .i64 most, .slice A hs.length c, .slice B rs.length d, .func (.func (90 + kind.toNat)) #[] #[]]] ∧ n1 = (selN (fun i => flatP hs cs (rs.getD i default)) k).length ∧ ys = (selN (fun i => flatP hs cs (rs.getD i default)) k).flatMap K.eI ∧ k ≤ rs.length ∧ (n1 = 0 → Q1 = none)) (fun vi => rs.length - (intOf (K.nth vi 1)).toNat) ?_ ?_
  · exact ⟨0, none, 0, 0, [], rfl, rfl, rfl, rfl, Nat.zero_le _, fun _ => rfl⟩
  intro vi vr L hJ
  obtain ⟨k, Q1, n1, q1, ys, rfl, rfl, hn1, hys, hkn, hnil⟩ := hJ
  have hsl := selN_len (p := (fun i => flatP hs cs (rs.getD i default))) (n := k)
  try dsimp only [setd, setn, ev, nth, over, cl, eI, eP, eT, setM, setF, List.map, List.append, List.drop, List.take]
  refine K.seq ?_
  refine K.region_lit ?_
  refine K.seq_pure (K.lss rfl rfl) rfl ?_
  dsimp only [setd, setn, ev, nth]
  refine K.seq_nil ?_
  refine K.norm_then ?_
  refine K.seq ?_
  refine K.cond rfl (fun ht14 => ?_) (fun ht14 => ?_)
  · try replace ht14 := of_decide_eq_true ht14
    have hk : k < rs.length := by omega
    refine K.skip ?_
    refine K.norm_then ?_
    refine K.seq ?_
    refine K.block ?_
    refine K.seq ?_
    refine K.region_lit ?_
    refine K.seq_pure (K.move) rfl ?_
    dsimp only [setd, setn, ev, nth]
    refine K.seq_ix (M := []) _ hR.sl sl_39 rfl rfl rfl (by omega) rfl ?_
    intro p16 hp16
    try dsimp only [setd, setn, ev, nth, over, cl, eI, eP, eT, List.map, List.append, List.drop, List.take]
    refine K.seq_sil (K.loadA_p ag_124 rfl (hp16.any) rfl) rfl ?_
    try dsimp only [setd, setn, ev, nth, over, cl, eI, eP, eT, List.map, List.append, List.drop, List.take]
    refine K.seq_new (K.alloc zr_124) rfl ?_
    intro b6
    try dsimp only [setd, setn, ev, nth, over, cl, eI, eP, eT, List.map, List.append, List.drop, List.take]
    refine K.seq_pure (K.assign) rfl ?_
    dsimp only [setd, setn, ev, nth]
    refine K.seq_st (K.store_all sz_124 rfl rfl rfl rfl (K.rp0)) rfl ?_
    try dsimp only [setd, setn, ev, nth, over, cl, eI, eP, eT, List.map, List.append, List.drop, List.take]
    refine K.seq_nil ?_
    refine K.norm_then ?_
    refine K.seq ?_
    refine K.region_lit ?_
    refine K.seq_sil (K.loadA_own ag_94 rfl (K.m3) rfl) rfl ?_
    try dsimp only [setd, setn, ev, nth, over, cl, eI, eP, eT, List.map, List.append, List.drop, List.take]
    refine K.seq_sil (K.loadA_own ag_124 rfl (K.m0) rfl) rfl ?_
    try dsimp only [setd, setn, ev, nth, over, cl, eI, eP, eT, List.map, List.append, List.drop, List.take]
    refine K.seq_sil (K.loadA_own ag_98 rfl ((K.m2)) rfl) rfl ?_
    try dsimp only [setd, setn, ev, nth, over, cl, eI, eP, eT, List.map, List.append, List.drop, List.take]
    refine K.seq_call (K.call_g cal_78 (fun F w hF hw => c88 (r := (rs.getD k default)) (cs := cs) (hH.pass hw) (hrd k hk) h8 hb hc)) rfl ?_
    try dsimp only [setd, setn, ev, nth, over, cl, eI, eP, eT, List.map, List.append, List.drop, List.take]
    refine K.seq_pure (K.move) rfl ?_
    dsimp only [setd, setn, ev, nth]
    refine K.seq_pure (K.extract rfl rfl) rfl ?_
    dsimp only [setd, setn, ev, nth]
    refine K.seq_pure (K.extract rfl rfl) rfl ?_
    dsimp only [setd, setn, ev, nth]
    refine K.seq_pure (K.assign) rfl ?_
    dsimp only [setd, setn, ev, nth]
    refine K.seq_pure (K.assign) rfl ?_
    dsimp only [setd, setn, ev, nth]
    refine K.seq_nil ?_
    refine K.norm_then ?_
    refine K.seq ?_
    refine K.region_lit ?_
    refine K.seq_pure (K.move) rfl ?_
    dsimp only [setd, setn, ev, nth]
    refine K.seq_pure (K.neq rfl rfl) rfl ?_
    dsimp only [setd, setn, ev, nth]
    refine K.seq_pure (K.move) rfl ?_
    dsimp only [setd, setn, ev, nth]
    refine K.split 27 rfl (fun hg27 => ?_) (fun hg27 => ?_)
    · try replace hg27 := of_decide_eq_true hg27
      refine K.seq_pure (K.move) rfl ?_
      dsimp only [setd, setn, ev, nth]
      refine K.seq_pure (K.eql rfl rfl) rfl ?_
      dsimp only [setd, setn, ev, nth]
      refine K.seq_pure (K.pick_t rfl) rfl ?_
      dsimp only [setd, setn, ev, nth]
      refine K.seq_nil ?_
      refine K.norm_then ?_
      refine K.cond rfl (fun ht30 => ?_) (fun ht30 => ?_)
      · try replace ht30 := of_decide_eq_true ht30
        have hp : (fun i => flatP hs cs (rs.getD i default)) k = true := Bool.and_eq_true_iff.2 ⟨decide_eq_true hg27, decide_eq_true ht30⟩
        refine K.region_lit ?_
        refine K.seq_pure (K.move) rfl ?_
        dsimp only [setd, setn, ev, nth]
        refine K.seq_pure (K.move) rfl ?_
        dsimp only [setd, setn, ev, nth]
        refine K.seq_new (K.buildSlice (bs1 _)) rfl ?_
        intro b33
        try dsimp only [setd, setn, ev, nth, over, cl, eI, eP, eT, List.map, List.append, List.drop, List.take]
        refine K.seq_upd (K.append el_31 rfl rfl (K.PtrL.own' (K.m0)) rfl rfl (by decide) (by omega) (by omega) (fun _ _ => K.rp2)) rfl ?_
        rintro ⟨g34, c34⟩ _
        try dsimp only [setd, setn, ev, nth, over, cl, eI, eP, eT, List.map, List.append, List.drop, List.take]
        refine K.seq_pure (K.assign) rfl ?_
        dsimp only [setd, setn, ev, nth]
        refine K.seq_nil ?_
        refine K.norm_block ?_
        refine K.norm_then ?_
        refine K.region_lit ?_
        refine K.seq_pure (K.add_i64 rfl rfl (by omega)) rfl ?_
        dsimp only [setd, setn, ev, nth]
        refine K.seq_pure (K.move) rfl ?_
        dsimp only [setd, setn, ev, nth]
        refine K.seq_nil ?_
        exact K.round_endW [.slice (some ⟨g34, 0, none⟩) (n1 + 1) c34, .int .i64 ((k : Int) + 1)] ⟨k + 1, _, _, _, _, rfl, rfl, by rw [selN_t (p := (fun i => flatP hs cs (rs.getD i default))) (n := k) hp, List.length_append, ← hn1]; rfl, by rw [selN_t (p := (fun i => flatP hs cs (rs.getD i default))) (n := k) hp, List.flatMap_append, ← hys], by omega, fun h => absurd h (by omega)⟩ (by simp [K.nth, intOf]; omega) (by repeat (first | exact List.Sublist.refl _ | apply List.Sublist.cons)) (by kernel_rfl)
      try replace ht30 := of_decide_eq_false ht30
      have hp : (fun i => flatP hs cs (rs.getD i default)) k = false := Bool.and_eq_false_iff.2 (.inr (decide_eq_false ht30))
      refine K.skip ?_
      refine K.norm_block ?_
      refine K.norm_then ?_
      refine K.region_lit ?_
      refine K.seq_pure (K.add_i64 rfl rfl (by omega)) rfl ?_
      dsimp only [setd, setn, ev, nth]
      refine K.seq_pure (K.move) rfl ?_
      dsimp only [setd, setn, ev, nth]
      refine K.seq_nil ?_
      exact K.round_endW [.slice Q1 n1 q1, .int .i64 ((k : Int) + 1)] ⟨k + 1, _, _, _, _, rfl, rfl, by rw [selN_f (p := (fun i => flatP hs cs (rs.getD i default))) (n := k) hp, ← hn1], by rw [selN_f (p := (fun i => flatP hs cs (rs.getD i default))) (n := k) hp, ← hys], by omega, hnil⟩ (by simp [K.nth, intOf]; omega) (by repeat (first | exact List.Sublist.refl _ | apply List.Sublist.cons)) (by kernel_rfl)
    try replace hg27 := of_decide_eq_false hg27
    have hp : (fun i => flatP hs cs (rs.getD i default)) k = false := Bool.and_eq_false_iff.2 (.inl (decide_eq_false hg27))
    refine K.seq_skip ?_ ?_
    · rfl
    try dsimp only [setd, setn, ev, nth, over, cl, eI, eP, eT, List.map, List.append, List.drop, List.take]
    refine K.seq_skip ?_ ?_
    · rfl
    try dsimp only [setd, setn, ev, nth, over, cl, eI, eP, eT, List.map, List.append, List.drop, List.take]
    refine K.seq_pure (K.pick_f rfl) rfl ?_
    dsimp only [setd, setn, ev, nth]
    refine K.seq_nil ?_
    refine K.norm_then ?_
    refine K.cond_false rfl ?_
    refine K.skip ?_
    refine K.norm_block ?_
    refine K.norm_then ?_
    refine K.region_lit ?_
    refine K.seq_pure (K.add_i64 rfl rfl (by omega)) rfl ?_
    dsimp only [setd, setn, ev, nth]
    refine K.seq_pure (K.move) rfl ?_
    dsimp only [setd, setn, ev, nth]
    refine K.seq_nil ?_
    exact K.round_endW [.slice Q1 n1 q1, .int .i64 ((k : Int) + 1)] ⟨k + 1, _, _, _, _, rfl, rfl, by rw [selN_f (p := (fun i => flatP hs cs (rs.getD i default))) (n := k) hp, ← hn1], by rw [selN_f (p := (fun i => flatP hs cs (rs.getD i default))) (n := k) hp, ← hys], by omega, hnil⟩ (by simp [K.nth, intOf]; omega) (by repeat (first | exact List.Sublist.refl _ | apply List.Sublist.cons)) (by kernel_rfl)
  try replace ht14 := of_decide_eq_false ht14
  refine K.exit ?_
  refine K.exit_then ?_
  refine K.exit_then ?_
  refine K.exit_here ?_
  refine K.norm_then ?_
  refine K.seq ?_
  refine K.region_lit ?_
  refine K.seq_pure (K.move) rfl ?_
  dsimp only [setd, setn, ev, nth]
  refine K.seq_pure (K.assign) rfl ?_
  dsimp only [setd, setn, ev, nth]
  refine K.seq_nil ?_
  refine K.norm_then ?_
  refine K.ret ?_
  refine K.end_ret (fun w _ => K.res_tmp rfl w) ?_
  have hk8 : k = rs.length := by omega
  subst hk8
  exact K.rets_n (List.Mem.head _) hn1 hys hnil rfl

set_option maxRecDepth 100000 in
theorem c19 {A B : Option Addr} {c d : Nat} {xs ys : List Int} {w : World} (hX : K.Rd w A 1 K.eI xs) (hY : K.Rd w B 1 K.eI ys) (hn : xs.length ≤ 4611686018427387904) (hm : ys.length ≤ 4611686018427387904) :
    Calls Try.prog 27 [.slice A xs.length c, .slice B ys.length d].toArray w (K.Gives (.bool (decide (xs = ys))) w) := by
  refine K.enter (args := [.slice A xs.length c, .slice B ys.length d]) Try.func27 rfl (n := 24) rfl ?_
  simp only [List.replicate, List.cons_append, List.nil_append]
  refine K.seq ?_
  refine K.region_lit ?_
  refine K.seq_pure (K.assign) rfl ?_
  dsimp only [setd, setn, ev, nth]
  refine K.seq_nil ?_
  refine K.norm_then ?_
  refine K.seq ?_
  refine K.seq ?_
  refine K.region_lit ?_
  refine K.seq_pure (K.move) rfl ?_
  dsimp only [setd, setn, ev, nth]
  refine K.seq_pure (K.len_sl sl_31 rfl) rfl ?_
  dsimp only [setd, setn, ev, nth]
  refine K.seq_pure (K.move) rfl ?_
  dsimp only [setd, setn, ev, nth]
  refine K.seq_pure (K.len_sl sl_31 rfl) rfl ?_
  dsimp only [setd, setn, ev, nth]
  refine K.seq_pure (K.neq rfl rfl) rfl ?_
  dsimp only [setd, setn, ev, nth]
  refine K.seq_nil ?_
  refine K.norm_then ?_
  refine K.cond rfl (fun ht10 => ?_) (fun ht10 => ?_)
  · try replace ht10 := of_decide_eq_true ht10
    refine K.seq ?_
    refine K.region_lit ?_
    refine K.seq_pure (K.assign) rfl ?_
    dsimp only [setd, setn, ev, nth]
    refine K.seq_nil ?_
    refine K.norm_then ?_
    refine K.ret ?_
    refine K.ret_then ?_
    refine K.end_ret (fun w _ => K.res_tmp rfl w) ?_
    exact K.gives_b rfl (decide_eq_false (fun h => ht10 (by rw [h]))).symm
  try replace ht10 := of_decide_eq_false ht10
  refine K.skip ?_
  refine K.norm_then ?_
  refine K.seq ?_
  refine K.seq ?_
  refine K.region_lit ?_
  refine K.seq_pure (K.assign) rfl ?_
  dsimp only [setd, setn, ev, nth]
  refine K.seq_nil ?_
  refine K.norm_then ?_
  refine K.block ?_
  refine K.loopW [5] [4, 11, 12, 13, 14, 15, 16, 17, 18, 19, 20, 21, 22, 23, 24, 25] (fun vi L => ∃ k : Nat, vi = [.int .i64 (k : Int)] ∧ L = [] ∧ k ≤ xs.length ∧ ∀ j, j < k → xs.getD j default = ys.getD j default) (fun vi => xs.length - (intOf (K.nth vi 0)).toNat) ?_ ?_
  · exact ⟨0, rfl, rfl, Nat.zero_le _, fun j hj => absurd hj (Nat.not_lt_zero j)⟩
  intro vi vr L hJ
  obtain ⟨k, rfl, rfl, hkn, hall⟩ := hJ
  try dsimp only [setd, setn, ev, nth, over, cl, eI, eP, eT, setM, setF, List.map, List.append, List.drop, List.take]
  refine K.seq ?_
  refine K.seq ?_
  refine K.region_lit ?_
  refine K.seq_pure (K.move) rfl ?_
  dsimp only [setd, setn, ev, nth]
  refine K.seq_pure (K.move) rfl ?_
  dsimp only [setd, setn, ev, nth]
  refine K.seq_pure (K.len_sl sl_31 rfl) rfl ?_
  dsimp only [setd, setn, ev, nth]
  refine K.seq_pure (K.lss rfl rfl) rfl ?_
  dsimp only [setd, setn, ev, nth]
  refine K.seq_nil ?_
  refine K.norm_then ?_
  refine K.cond rfl (fun ht14 => ?_) (fun ht14 => ?_)
  · try replace ht14 := of_decide_eq_true ht14
    have hk : k < xs.length := by omega
    refine K.skip ?_
    refine K.norm_then ?_
    refine K.seq ?_
    refine K.block ?_
    refine K.seq ?_
    refine K.draw_L [] Try_mixed ?_
    refine K.d_pure 0 rfl (K.move) (by kernel_rfl) rfl ?_
    dsimp only [setd, setn, ev, nth]
    refine K.d_pure 1 rfl (K.move) (by kernel_rfl) rfl ?_
    dsimp only [setd, setn, ev, nth]
    refine K.d_ix (M := []) 2 _ rfl hX.sl sl_31 rfl rfl rfl (by omega) (by kernel_rfl) rfl ?_
    intro p19 hp19
    try dsimp only [setd, setn, ev, nth, over, cl, eI, eP, eT, List.map, List.append, List.drop, List.take]
    refine K.d_mem 3 rfl (K.load1 one_3 rfl (hp19.any)) (fun _ h => h) (by kernel_rfl) (by kernel_rfl) rfl ?_
    try dsimp only [setd, setn, ev, nth, over, cl, eI, eP, eT, List.map, List.append, List.drop, List.take]
    refine K.d_pure 4 rfl (K.move) (by kernel_rfl) rfl ?_
    dsimp only [setd, setn, ev, nth]
    refine K.d_pure 5 rfl (K.move) (by kernel_rfl) rfl ?_
    dsimp only [setd, setn, ev, nth]
    refine K.d_ix (M := []) 6 _ rfl hY.sl sl_31 rfl rfl rfl (by omega) (by kernel_rfl) rfl ?_
    intro p23 hp23
    try dsimp only [setd, setn, ev, nth, over, cl, eI, eP, eT, List.map, List.append, List.drop, List.take]
    refine K.d_mem 7 rfl (K.load1 one_3 rfl (hp23.any)) (fun _ h => h) (by kernel_rfl) (by kernel_rfl) rfl ?_
    try dsimp only [setd, setn, ev, nth, over, cl, eI, eP, eT, List.map, List.append, List.drop, List.take]
    refine K.d_pure 8 rfl (K.neq rfl rfl) (by kernel_rfl) rfl ?_
    dsimp only [setd, setn, ev, nth]
    refine K.d_done (by kernel_rfl) ?_
    refine K.norm_then ?_
    refine K.cond rfl (fun ht25 => ?_) (fun ht25 => ?_)
    · try replace ht25 := of_decide_eq_true ht25
      refine K.seq ?_
      refine K.region_lit ?_
      refine K.seq_pure (K.assign) rfl ?_
      dsimp only [setd, setn, ev, nth]
      refine K.seq_nil ?_
      refine K.norm_then ?_
      refine K.ret ?_
      refine K.ret_block ?_
      refine K.ret_then ?_
      refine K.ret_then ?_
      refine K.ret_block ?_
      refine K.ret_then ?_
      refine K.end_ret (fun w _ => K.res_tmp rfl w) ?_
      exact K.gives_b rfl (decide_eq_false (fun h => ht25 (by rw [h]))).symm
    try replace ht25 := of_decide_eq_false ht25
    refine K.skip ?_
    refine K.norm_block ?_
    refine K.norm_then ?_
    refine K.region_lit ?_
    refine K.seq_pure (K.move) rfl ?_
    dsimp only [setd, setn, ev, nth]
    refine K.seq_pure (K.add_i64 rfl rfl (by omega)) rfl ?_
    dsimp only [setd, setn, ev, nth]
    refine K.seq_pure (K.assign) rfl ?_
    dsimp only [setd, setn, ev, nth]
    refine K.seq_nil ?_
    exact K.round_endW (L'' := []) [.int .i64 ((k : Int) + 1)] ⟨k + 1, rfl, rfl, by omega, K.lt_succ_case hall (Decidable.not_not.1 ht25)⟩ (by simp [K.nth, intOf]; omega) (List.nil_sublist _) (by kernel_rfl)
  try replace ht14 := of_decide_eq_false ht14
  refine K.exit ?_
  refine K.exit_then ?_
  refine K.exit_then ?_
  refine K.exit_here ?_
  refine K.norm_then ?_
  refine K.seq ?_
  refine K.region_lit ?_
  refine K.seq_pure (K.assign) rfl ?_
  dsimp only [setd, setn, ev, nth]
  refine K.seq_nil ?_
  refine K.norm_then ?_
  refine K.ret ?_
  refine K.end_ret (fun w _ => K.res_tmp rfl w) ?_
  exact K.gives_b rfl (decide_eq_true (ext_getD (by omega) (fun j hj => hall j (by omega)))).symm

set_option maxRecDepth 100000 in
theorem c33 {A B : Option Addr} {c d : Nat} {xs ys : List (Int × Int)} {w : World} (hX : K.Rd w A 2 K.eP xs) (hY : K.Rd w B 2 K.eP ys) (hn : xs.length ≤ 4611686018427387904) (hm : ys.length ≤ 4611686018427387904) :
    Calls Try.prog 38 [.slice A xs.length c, .slice B ys.length d].toArray w (K.Gives (.bool (decide (xs = ys))) w) := by
  refine K.enter (args := [.slice A xs.length c, .slice B ys.length d]) Try.func38 rfl (n := 24) rfl ?_
  simp only [List.replicate, List.cons_append, List.nil_append]
  refine K.seq ?_
  refine K.region_lit ?_
  refine K.seq_pure (K.assign) rfl ?_
  dsimp only [setd, setn, ev, nth]
  refine K.seq_nil ?_
  refine K.norm_then ?_
  refine K.seq ?_
  refine K.seq ?_
  refine K.region_lit ?_
  refine K.seq_pure (K.move) rfl ?_
  dsimp only [setd, setn, ev, nth]
  refine K.seq_pure (K.len_sl sl_78 rfl) rfl ?_
  dsimp only [setd, setn, ev, nth]
  refine K.seq_pure (K.move) rfl ?_
  dsimp only [setd, setn, ev, nth]
  refine K.seq_pure (K.len_sl sl_78 rfl) rfl ?_
  dsimp only [setd, setn, ev, nth]
  refine K.seq_pure (K.neq rfl rfl) rfl ?_
  dsimp only [setd, setn, ev, nth]
  refine K.seq_nil ?_
  refine K.norm_then ?_
  refine K.cond rfl (fun ht10 => ?_) (fun ht10 => ?_)
  · try replace ht10 := of_decide_eq_true ht10
    refine K.seq ?_
    refine K.region_lit ?_
    refine K.seq_pure (K.assign) rfl ?_
    dsimp only [setd, setn, ev, nth]
    refine K.seq_nil ?_
    refine K.norm_then ?_
    refine K.ret ?_
    refine K.ret_then ?_
    refine K.end_ret (fun w _ => K.res_tmp rfl w) ?_
    exact K.gives_b rfl (decide_eq_false (fun h => ht10 (by rw [h]))).symm
  try replace ht10 := of_decide_eq_false ht10
  refine K.skip ?_
  refine K.norm_then ?_
  refine K.seq ?_
  refine K.seq ?_
  refine K.region_lit ?_
  refine K.seq_pure (K.assign) rfl ?_
  dsimp only [setd, setn, ev, nth]
  refine K.seq_nil ?_
  refine K.norm_then ?_
  refine K.block ?_
  refine K.loopW [5] [4, 11, 12, 13, 14, 15, 16, 17, 18, 19, 20, 21, 22, 23, 24, 25] (fun vi L => ∃ k : Nat, vi = [.int .i64 (k : Int)] ∧ L = [] ∧ k ≤ xs.length ∧ ∀ j, j < k → xs.getD j default = ys.getD j default) (fun vi => xs.length - (intOf (K.nth vi 0)).toNat) ?_ ?_
  · exact ⟨0, rfl, rfl, Nat.zero_le _, fun j hj => absurd hj (Nat.not_lt_zero j)⟩
  intro vi vr L hJ
  obtain ⟨k, rfl, rfl, hkn, hall⟩ := hJ
  try dsimp only [setd, setn, ev, nth, over, cl, eI, eP, eT, setM, setF, List.map, List.append, List.drop, List.take]
  refine K.seq ?_
  refine K.seq ?_
  refine K.region_lit ?_
  refine K.seq_pure (K.move) rfl ?_
  dsimp only [setd, setn, ev, nth]
  refine K.seq_pure (K.move) rfl ?_
  dsimp only [setd, setn, ev, nth]
  refine K.seq_pure (K.len_sl sl_78 rfl) rfl ?_
  dsimp only [setd, setn, ev, nth]
  refine K.seq_pure (K.lss rfl rfl) rfl ?_
  dsimp only [setd, setn, ev, nth]
  refine K.seq_nil ?_
  refine K.norm_then ?_
  refine K.cond rfl (fun ht14 => ?_) (fun ht14 => ?_)
  · try replace ht14 := of_decide_eq_true ht14
    have hk : k < xs.length := by omega
    refine K.skip ?_
    refine K.norm_then ?_
    refine K.seq ?_
    refine K.block ?_
    refine K.seq ?_
    refine K.draw_L [] Try_mixed ?_
    refine K.d_pure 0 rfl (K.move) (by kernel_rfl) rfl ?_
    dsimp only [setd, setn, ev, nth]
    refine K.d_pure 1 rfl (K.move) (by kernel_rfl) rfl ?_
    dsimp only [setd, setn, ev, nth]
    refine K.d_ix (M := []) 2 _ rfl hX.sl sl_78 rfl rfl rfl (by omega) (by kernel_rfl) rfl ?_
    intro p19 hp19
    try dsimp only [setd, setn, ev, nth, over, cl, eI, eP, eT, List.map, List.append, List.drop, List.take]
    refine K.d_mem 3 rfl (K.loadA_p ag_36 rfl (hp19.any) rfl) (fun _ h => h) (by kernel_rfl) (by kernel_rfl) rfl ?_
    try dsimp only [setd, setn, ev, nth, over, cl, eI, eP, eT, List.map, List.append, List.drop, List.take]
    refine K.d_pure 4 rfl (K.move) (by kernel_rfl) rfl ?_
    dsimp only [setd, setn, ev, nth]
    refine K.d_pure 5 rfl (K.move) (by kernel_rfl) rfl ?_
    dsimp only [setd, setn, ev, nth]
    refine K.d_ix (M := []) 6 _ rfl hY.sl sl_78 rfl rfl rfl (by omega) (by kernel_rfl) rfl ?_
    intro p23 hp23
    try dsimp only [setd, setn, ev, nth, over, cl, eI, eP, eT, List.map, List.append, List.drop, List.take]
    refine K.d_mem 7 rfl (K.loadA_p ag_36 rfl (hp23.any) rfl) (fun _ h => h) (by kernel_rfl) (by kernel_rfl) rfl ?_
    try dsimp only [setd, setn, ev, nth, over, cl, eI, eP, eT, List.map, List.append, List.drop, List.take]
    refine K.d_pure 8 rfl (K.neq_s2 s2_27 rfl rfl) (by kernel_rfl) rfl ?_
    dsimp only [setd, setn, ev, nth]
    refine K.d_done (by kernel_rfl) ?_
    refine K.norm_then ?_
    refine K.cond rfl (fun ht25 => ?_) (fun ht25 => ?_)
    · try replace ht25 := of_decide_eq_true ht25
      refine K.seq ?_
      refine K.region_lit ?_
      refine K.seq_pure (K.assign) rfl ?_
      dsimp only [setd, setn, ev, nth]
      refine K.seq_nil ?_
      refine K.norm_then ?_
      refine K.ret ?_
      refine K.ret_block ?_
      refine K.ret_then ?_
      refine K.ret_then ?_
      refine K.ret_block ?_
      refine K.ret_then ?_
      refine K.end_ret (fun w _ => K.res_tmp rfl w) ?_
      exact K.gives_b rfl (decide_eq_false (fun h => ht25 (by rw [h]))).symm
    try replace ht25 := of_decide_eq_false ht25
    refine K.skip ?_
    refine K.norm_block ?_
    refine K.norm_then ?_
    refine K.region_lit ?_
    refine K.seq_pure (K.move) rfl ?_
    dsimp only [setd, setn, ev, nth]
    refine K.seq_pure (K.add_i64 rfl rfl (by omega)) rfl ?_
    dsimp only [setd, setn, ev, nth]
    refine K.seq_pure (K.assign) rfl ?_
    dsimp only [setd, setn, ev, nth]
    refine K.seq_nil ?_
    exact K.round_endW (L'' := []) [.int .i64 ((k : Int) + 1)] ⟨k + 1, rfl, rfl, by omega, K.lt_succ_case hall (Decidable.not_not.1 ht25)⟩ (by simp [K.nth, intOf]; omega) (List.nil_sublist _) (by kernel_rfl)
  try replace ht14 := of_decide_eq_false ht14
  refine K.exit ?_
  refine K.exit_then ?_
  refine K.exit_then ?_
  refine K.exit_here ?_
  refine K.norm_then ?_
  refine K.seq ?_
  refine K.region_lit ?_
  refine K.seq_pure (K.assign) rfl ?_
  dsimp only [setd, setn, ev, nth]
  refine K.seq_nil ?_
  refine K.norm_then ?_
  refine K.ret ?_
  refine K.end_ret (fun w _ => K.res_tmp rfl w) ?_
  exact K.gives_b rfl (decide_eq_true (ext_getD (by omega) (fun j hj => hall j (by omega)))).symm

end Go.Proofs.Ytfbglomliankmaa.Sc
end
section
set_option linter.unusedSimpArgs false
set_option linter.unusedVariables false
namespace Go.Proofs.Ytfbglomliankmaa.Cv
open Go.RowKit Go
open Go.K (setd setn ev nth over cl eI eP eT setM setF)
attribute [local irreducible] K.blk K.row
theorem s2_52 : K.eq2 Try.prog 52 = true := by kernel_rfl
theorem s2_64 : K.eq2 Try.prog 64 = true := by kernel_rfl
theorem bs1 (a : Int) : K.Bs Try.prog 31 1 [(0, .int .i64 a)] 3 [.int .i64 a] := fun w => by kernel_rfl
theorem bs3 (a b c : Int) : K.Bs Try.prog 31 3 [(0, .int .i64 a), (1, .int .i64 b), (2, .int .i64 c)] 3 [.int .i64 a, .int .i64 b, .int .i64 c] := fun w => by kernel_rfl
theorem bl45 (a b c : Int) : K.Bl Try.prog 45 [(0, .int .i64 a), (1, .int .i64 b), (2, .int .i64 c)] (.agg #[.int .i64 a, .int .i64 b, .int .i64 c]) := fun w => by kernel_rfl
theorem bl45h (a c : Int) : K.Bl Try.prog 45 [(0, .int .i64 a), (2, .int .i64 c)] (.agg #[.int .i64 a, .int .i64 0, .int .i64 c]) := fun w => by kernel_rfl
theorem bl24 (a : Int) (A : Option Addr) (n c : Nat) : K.Bl Try.prog 24 [(0, .int .i64 a), (1, .slice A n c)] (.agg #[.int .i64 a, .slice A n c]) := fun w => by kernel_rfl
theorem bl24p (A : Option Addr) (n c : Nat) : K.Bl Try.prog 24 [(1, .slice A n c)] (.agg #[.int .i64 0, .slice A n c]) := fun w => by kernel_rfl
theorem bl52 (a b : Int) : K.Bl Try.prog 52 [(0, .int .i64 a), (1, .int .i64 b)] (.agg #[.int .i64 a, .int .i64 b]) := fun w => by kernel_rfl
theorem bl64 (a b : Int) : K.Bl Try.prog 64 [(0, .int .i64 a), (1, .int .i64 b)] (.agg #[.int .i64 a, .int .i64 b]) := fun w => by kernel_rfl
theorem bl103 (a : Int) (A : Option Addr) (n c : Nat) : K.Bl Try.prog 103 [(0, .agg #[.int .i64 a, .slice A n c])] (.agg #[.int .i64 a, .slice A n c]) := fun w => by kernel_rfl
theorem bsR (a1 a2 a3 b1 b2 b3 c1 c2 c3 d1 d2 d3 : Int) : K.Bs Try.prog 22 4 [(0, .agg #[.int .i64 a1, .int .i64 a2, .int .i64 a3]), (1, .agg #[.int .i64 b1, .int .i64 b2, .int .i64 b3]), (2, .agg #[.int .i64 c1, .int .i64 c2, .int .i64 c3]), (3, .agg #[.int .i64 d1, .int .i64 d2, .int .i64 d3])] 45 [.int .i64 a1, .int .i64 a2, .int .i64 a3, .int .i64 b1, .int .i64 b2, .int .i64 b3, .int .i64 c1, .int .i64 c2, .int .i64 c3, .int .i64 d1, .int .i64 d2, .int .i64 d3] := fun w => by kernel_rfl
theorem bsT (a1 a2 a3 b1 b2 b3 : Int) : K.Bs Try.prog 22 2 [(0, .agg #[.int .i64 a1, .int .i64 a2, .int .i64 a3]), (1, .agg #[.int .i64 b1, .int .i64 b2, .int .i64 b3])] 45 [.int .i64 a1, .int .i64 a2, .int .i64 a3, .int .i64 b1, .int .i64 b2, .int .i64 b3] := fun w => by kernel_rfl
@[reducible] def eY (z : Int) : List Value := [.int .u8 z]
theorem any_1 {st : Int} {ps : List CvT} {l : List Int} {k : Nat} {b : Int} (hk : 0 < k) (h : max (ps.getD k default).lo (b - st) > min (ps.getD k default).hi (b + st)) : (ps.getD k default).lo + trn l k % ((ps.getD k default).lo - (ps.getD k default).lo + 1) = anyX st ps l k b := by
  unfold anyX anyLo anyHi; rw [if_pos hk, if_pos hk, if_pos h]
theorem any_2 {st : Int} {ps : List CvT} {l : List Int} {k : Nat} {b : Int} (hk : 0 < k) (h : ¬ max (ps.getD k default).lo (b - st) > min (ps.getD k default).hi (b + st)) : max (ps.getD k default).lo (b - st) + trn l k % (min (ps.getD k default).hi (b + st) - max (ps.getD k default).lo (b - st) + 1) = anyX st ps l k b := by
  unfold anyX anyLo anyHi; rw [if_pos hk, if_pos hk, if_neg h]
theorem any_3 {st : Int} {ps : List CvT} {l : List Int} {k : Nat} {b : Int} (hk : ¬ 0 < k) (h : ¬ (ps.getD k default).lo > (ps.getD k default).hi) : (ps.getD k default).lo + trn l k % ((ps.getD k default).hi - (ps.getD k default).lo + 1) = anyX st ps l k b := by
  unfold anyX anyLo anyHi; rw [if_neg hk, if_neg hk, if_neg h]
def wrX (st : Int) (ps : List CvT) (i : Nat) (b h : Int) : Int :=
  if h < (ps.getD i default).lo then 1 else if h > (ps.getD i default).hi then 2 else if 0 < i ∧ (h - b > st ∨ b - h > st) then 3 else 0
theorem wrX_t {st : Int} {ps : List CvT} {s : List Int} {i : Nat} {h : Int} (hi : i < s.length) : wrX st ps i ((s.take i).getD (i - 1) default) h = wrX st ps i (s.getD (i - 1) default) h := by
  unfold wrX
  by_cases h0 : 0 < i
  · rw [show (s.take i).getD (i - 1) default = s.getD (i - 1) default by rw [List.getD_eq_getElem?_getD, List.getElem?_take_of_lt (by omega), ← List.getD_eq_getElem?_getD]]
  · rw [if_neg (show ¬ (0 < i ∧ _) from fun h => h0 h.1), if_neg (show ¬ (0 < i ∧ (h - s.getD (i - 1) default > st ∨ s.getD (i - 1) default - h > st)) from fun h => h0 h.1)]
theorem wrX_1 {st : Int} {ps : List CvT} {i : Nat} {b h : Int} (h1 : h < (ps.getD i default).lo) : wrX st ps i b h = 1 := by unfold wrX; rw [if_pos h1]
theorem wrX_2 {st : Int} {ps : List CvT} {i : Nat} {b h : Int} (h1 : ¬ h < (ps.getD i default).lo) (h2 : h > (ps.getD i default).hi) : wrX st ps i b h = 2 := by unfold wrX; rw [if_neg h1, if_pos h2]
theorem wrX_3 {st : Int} {ps : List CvT} {i : Nat} {b h : Int} (h1 : ¬ h < (ps.getD i default).lo) (h2 : ¬ h > (ps.getD i default).hi) (h3 : 0 < i ∧ (h - b > st ∨ b - h > st)) : wrX st ps i b h = 3 := by unfold wrX; rw [if_neg h1, if_neg h2, if_pos h3]
theorem wrX_0 {st : Int} {ps : List CvT} {i : Nat} {b h : Int} (h1 : ¬ h < (ps.getD i default).lo) (h2 : ¬ h > (ps.getD i default).hi) (h3 : ¬ (0 < i ∧ (h - b > st ∨ b - h > st))) : wrX st ps i b h = 0 := by unfold wrX; rw [if_neg h1, if_neg h2, if_neg h3]
theorem wrg_1 {st : Int} {ps : List CvT} {s : List Int} {i : Nat} (h1 : s.getD i default < (ps.getD i default).lo) : wrg st ps s i = 1 := wrX_1 (b := s.getD (i - 1) default) h1
theorem wrg_2 {st : Int} {ps : List CvT} {s : List Int} {i : Nat} (h1 : ¬ s.getD i default < (ps.getD i default).lo) (h2 : s.getD i default > (ps.getD i default).hi) : wrg st ps s i = 2 := wrX_2 (b := s.getD (i - 1) default) h1 h2
theorem wrg_3 {st : Int} {ps : List CvT} {s : List Int} {i : Nat} (h1 : ¬ s.getD i default < (ps.getD i default).lo) (h2 : ¬ s.getD i default > (ps.getD i default).hi) (h3 : 0 < i ∧ (s.getD i default - s.getD (i - 1) default > st ∨ s.getD (i - 1) default - s.getD i default > st)) : wrg st ps s i = 3 := wrX_3 (b := s.getD (i - 1) default) h1 h2 h3
theorem wrg_00 {st : Int} {ps : List CvT} {s : List Int} {i : Nat} (h1 : ¬ s.getD i default < (ps.getD i default).lo) (h2 : ¬ s.getD i default > (ps.getD i default).hi) (h3 : ¬ (0 < i ∧ (s.getD i default - s.getD (i - 1) default > st ∨ s.getD (i - 1) default - s.getD i default > st))) : wrg st ps s i = 0 := wrX_0 (b := s.getD (i - 1) default) h1 h2 h3
theorem pE_7 {p : CvT} (h : ¬ ((0 ≤ p.bd ∧ p.bd ≤ 9000) ∧ (0 ≤ p.lo ∧ p.lo ≤ 9000) ∧ (0 ≤ p.hi ∧ p.hi ≤ 9000))) : pE p = 7 := by unfold pE; rw [if_pos h]
theorem pE_2 {p : CvT} (h : (0 ≤ p.bd ∧ p.bd ≤ 9000) ∧ (0 ≤ p.lo ∧ p.lo ≤ 9000) ∧ (0 ≤ p.hi ∧ p.hi ≤ 9000)) (h2 : ¬ (p.lo ≤ p.hi ∧ p.hi ≤ p.lo + 30)) : pE p = 2 := by unfold pE; rw [if_neg (fun h3 => h3 h), if_pos h2]

set_option maxRecDepth 100000 in
theorem c14 {n a b : Int} (w : World) :
    Calls Try.prog 14 [.int .i64 n, .int .i64 a, .int .i64 b].toArray w (K.Gives (.bool (decide (a ≤ n ∧ n ≤ b))) w) := by
  refine K.enter (args := [.int .i64 n, .int .i64 a, .int .i64 b]) Try.func14 rfl (n := 12) rfl ?_
  simp only [List.replicate, List.cons_append, List.nil_append]
  refine K.seq ?_
  refine K.region_lit ?_
  refine K.seq_pure (K.assign) rfl ?_
  dsimp only [setd, setn, ev, nth]
  refine K.seq_nil ?_
  refine K.norm_then ?_
  refine K.seq ?_
  refine K.region_lit ?_
  refine K.seq_pure (K.move) rfl ?_
  dsimp only [setd, setn, ev, nth]
  refine K.seq_pure (K.move) rfl ?_
  dsimp only [setd, setn, ev, nth]
  refine K.seq_pure (K.geq rfl rfl) rfl ?_
  dsimp only [setd, setn, ev, nth]
  refine K.seq_pure (K.move) rfl ?_
  dsimp only [setd, setn, ev, nth]
  refine K.split 10 rfl (fun hg10 => ?_) (fun hg10 => ?_)
  · try replace hg10 := of_decide_eq_true hg10
    refine K.seq_pure (K.move) rfl ?_
    dsimp only [setd, setn, ev, nth]
    refine K.seq_pure (K.move) rfl ?_
    dsimp only [setd, setn, ev, nth]
    refine K.seq_pure (K.leq rfl rfl) rfl ?_
    dsimp only [setd, setn, ev, nth]
    refine K.seq_pure (K.pick_t rfl) rfl ?_
    dsimp only [setd, setn, ev, nth]
    refine K.seq_pure (K.assign) rfl ?_
    dsimp only [setd, setn, ev, nth]
    refine K.seq_nil ?_
    refine K.norm_then ?_
    refine K.ret ?_
    refine K.end_ret (fun w _ => K.res_tmp rfl w) ?_
    exact K.gives_b rfl (by rw [eq_comm, decide_eq_decide.2 (by omega : (a ≤ n ∧ n ≤ b) ↔ n ≤ b)])
  try replace hg10 := of_decide_eq_false hg10
  refine K.seq_skip ?_ ?_
  · rfl
  try dsimp only [setd, setn, ev, nth, over, cl, eI, eP, eT, eC, List.map, List.append, List.drop, List.take]
  refine K.seq_skip ?_ ?_
  · rfl
  try dsimp only [setd, setn, ev, nth, over, cl, eI, eP, eT, eC, List.map, List.append, List.drop, List.take]
  refine K.seq_skip ?_ ?_
  · rfl
  try dsimp only [setd, setn, ev, nth, over, cl, eI, eP, eT, eC, List.map, List.append, List.drop, List.take]
  refine K.seq_pure (K.pick_f rfl) rfl ?_
  dsimp only [setd, setn, ev, nth]
  refine K.seq_pure (K.assign) rfl ?_
  dsimp only [setd, setn, ev, nth]
  refine K.seq_nil ?_
  refine K.norm_then ?_
  refine K.ret ?_
  refine K.end_ret (fun w _ => K.res_tmp rfl w) ?_
  exact K.gives_b rfl (by rw [eq_comm, decide_eq_false_iff_not]; omega)

set_option maxRecDepth 100000 in
theorem c74 {n lo hi : Int} {p q : Addr} {w : World} (hp : w.cell? p = some (.int .i64 lo)) (hq : w.cell? q = some (.int .i64 hi)) :
    Calls Try.prog 74 [.int .i64 n, .pointer (some p), .pointer (some q)].toArray w (K.Gives (.bool (decide (n < lo) || decide (n > hi))) w) := by
  refine K.enter (args := [.int .i64 n, .pointer (some p), .pointer (some q)]) Try.func74 rfl (n := 10) rfl ?_
  simp only [List.replicate, List.cons_append, List.nil_append]
  refine K.seq ?_
  refine K.region_lit ?_
  refine K.seq_pure (K.assign) rfl ?_
  dsimp only [setd, setn, ev, nth]
  refine K.seq_nil ?_
  refine K.norm_then ?_
  refine K.seq ?_
  refine K.region_lit ?_
  refine K.seq_pure (K.move) rfl ?_
  dsimp only [setd, setn, ev, nth]
  refine K.seq_sil (K.load1 one_3 rfl ((K.PtrL.cell1 hp).any)) rfl ?_
  try dsimp only [setd, setn, ev, nth, over, cl, eI, eP, eT, eC, List.map, List.append, List.drop, List.take]
  refine K.seq_pure (K.lss rfl rfl) rfl ?_
  dsimp only [setd, setn, ev, nth]
  refine K.seq_pure (K.move) rfl ?_
  dsimp only [setd, setn, ev, nth]
  refine K.split 8 rfl (fun hg8 => ?_) (fun hg8 => ?_)
  · try replace hg8 := of_decide_eq_true hg8
    refine K.seq_skip ?_ ?_
    · rfl
    try dsimp only [setd, setn, ev, nth, over, cl, eI, eP, eT, eC, List.map, List.append, List.drop, List.take]
    refine K.seq_skip ?_ ?_
    · rfl
    try dsimp only [setd, setn, ev, nth, over, cl, eI, eP, eT, eC, List.map, List.append, List.drop, List.take]
    refine K.seq_skip ?_ ?_
    · rfl
    try dsimp only [setd, setn, ev, nth, over, cl, eI, eP, eT, eC, List.map, List.append, List.drop, List.take]
    refine K.seq_pure (K.pick_t rfl) rfl ?_
    dsimp only [setd, setn, ev, nth]
    refine K.seq_pure (K.assign) rfl ?_
    dsimp only [setd, setn, ev, nth]
    refine K.seq_nil ?_
    refine K.norm_then ?_
    refine K.ret ?_
    refine K.end_ret (fun w _ => K.res_tmp rfl w) ?_
    exact K.gives_b rfl (by simp [hg8])
  try replace hg8 := of_decide_eq_false hg8
  refine K.seq_pure (K.move) rfl ?_
  dsimp only [setd, setn, ev, nth]
  refine K.seq_sil (K.load1 one_3 rfl ((K.PtrL.cell1 hq).any)) rfl ?_
  try dsimp only [setd, setn, ev, nth, over, cl, eI, eP, eT, eC, List.map, List.append, List.drop, List.take]
  refine K.seq_pure (K.gtr rfl rfl) rfl ?_
  dsimp only [setd, setn, ev, nth]
  refine K.seq_pure (K.pick_f rfl) rfl ?_
  dsimp only [setd, setn, ev, nth]
  refine K.seq_pure (K.assign) rfl ?_
  dsimp only [setd, setn, ev, nth]
  refine K.seq_nil ?_
  refine K.norm_then ?_
  refine K.ret ?_
  refine K.end_ret (fun w _ => K.res_tmp rfl w) ?_
  exact K.gives_b rfl (by simp [hg8])

set_option maxRecDepth 100000 in
theorem c45 {lo hi : Int} {A : Option Addr} {c : Nat} {xs : List Int} {w : World} (hR : K.Rd w A 1 K.eI xs) (hn : xs.length ≤ 4611686018427387904) :
    Calls Try.prog 45 [.int .i64 lo, .int .i64 hi, .slice A xs.length c].toArray w (K.Gives (.bool (outB lo hi xs)) w) := by
  refine K.enter (args := [.int .i64 lo, .int .i64 hi, .slice A xs.length c]) Try.func45 rfl (n := 7) rfl ?_
  simp only [List.replicate, List.cons_append, List.nil_append]
  refine K.seq ?_
  refine K.region_lit ?_
  refine K.seq_new (K.box) rfl ?_
  intro b3
  try dsimp only [setd, setn, ev, nth, over, cl, eI, eP, eT, eC, List.map, List.append, List.drop, List.take]
  refine K.seq_new (K.box) rfl ?_
  intro b4
  try dsimp only [setd, setn, ev, nth, over, cl, eI, eP, eT, eC, List.map, List.append, List.drop, List.take]
  refine K.seq_pure (K.assign) rfl ?_
  dsimp only [setd, setn, ev, nth]
  refine K.seq_nil ?_
  refine K.norm_then ?_
  refine K.seq ?_
  refine K.region_lit ?_
  refine K.seq_pure (K.move) rfl ?_
  dsimp only [setd, setn, ev, nth]
  refine K.seq_pure (K.mkFunc) rfl ?_
  try dsimp only [setd, setn, ev, nth, over, cl, eI, eP, eT, eC, List.map, List.append, List.drop, List.take]
  refine K.seq_call (K.call_g cal_73 (fun F w hF hw => Sc.c83 (cap := [.pointer (some ⟨b3, 0, none⟩), .pointer (some ⟨b4, 0, none⟩)]) (hR.pass hw) hn cal_74 (fun x _ w1 hb => c74 (K.cell_later hw (hF _ (K.m1)) rfl hb) (K.cell_later hw (hF _ (K.m0)) rfl hb)))) rfl ?_
  try dsimp only [setd, setn, ev, nth, over, cl, eI, eP, eT, eC, List.map, List.append, List.drop, List.take]
  refine K.seq_pure (K.assign) rfl ?_
  dsimp only [setd, setn, ev, nth]
  refine K.seq_nil ?_
  refine K.norm_then ?_
  refine K.ret ?_
  refine K.end_ret (fun w _ => K.res_tmp rfl w) ?_
  exact K.gives rfl

theorem c45_1 {lo hi x : Int} {w0 w : World} {F : List K.Chunk} {b : Nat} (hw : K.St w0 F w) (hm : K.blk b 3 [.int .i64 x] ∈ F) :
    Calls Try.prog 45 [.int .i64 lo, .int .i64 hi, .slice (some ⟨b, 0, none⟩) 1 1].toArray w (K.Gives (.bool (decide (¬ (lo ≤ x ∧ x ≤ hi)))) w) := by
  have h := c45 (lo := lo) (hi := hi) (c := 1) (xs := [x]) (K.Rd.lit hw hm (fun _ => rfl) (by decide) rfl) (by simp)
  have e : outB lo hi [x] = decide (¬ (lo ≤ x ∧ x ≤ hi)) := by
    rw [Bool.eq_iff_iff]; simp [outB]
    try omega
  rw [e] at h
  exact h
theorem c45_1f {lo hi x : Int} {w0 w : World} {F : List K.Chunk} {b : Nat} (hw : K.St w0 F w) (hm : K.blk b 3 [.int .i64 x] ∈ F) (hc : (lo ≤ x ∧ x ≤ hi)) :
    Calls Try.prog 45 [.int .i64 lo, .int .i64 hi, .slice (some ⟨b, 0, none⟩) 1 1].toArray w (K.Gives (.bool false) w) := by
  have h := c45_1 (lo := lo) (hi := hi) hw hm
  rw [decide_eq_false (fun h => h hc)] at h
  exact h

theorem c45_2 {lo hi x y : Int} {w0 w : World} {F : List K.Chunk} {b : Nat} (hw : K.St w0 F w) (hm : K.blk b 3 [.int .i64 x, .int .i64 y] ∈ F) :
    Calls Try.prog 45 [.int .i64 lo, .int .i64 hi, .slice (some ⟨b, 0, none⟩) 2 2].toArray w (K.Gives (.bool (decide (¬ ((lo ≤ x ∧ x ≤ hi) ∧ (lo ≤ y ∧ y ≤ hi))))) w) := by
  have h := c45 (lo := lo) (hi := hi) (c := 2) (xs := [x, y]) (K.Rd.lit hw hm (fun _ => rfl) (by decide) rfl) (by simp)
  have e : outB lo hi [x, y] = decide (¬ ((lo ≤ x ∧ x ≤ hi) ∧ (lo ≤ y ∧ y ≤ hi))) := by
    rw [Bool.eq_iff_iff]; simp [outB]
    try omega
  rw [e] at h
  exact h
theorem c45_2f {lo hi x y : Int} {w0 w : World} {F : List K.Chunk} {b : Nat} (hw : K.St w0 F w) (hm : K.blk b 3 [.int .i64 x, .int .i64 y] ∈ F) (hc : ((lo ≤ x ∧ x ≤ hi) ∧ (lo ≤ y ∧ y ≤ hi))) :
    Calls Try.prog 45 [.int .i64 lo, .int .i64 hi, .slice (some ⟨b, 0, none⟩) 2 2].toArray w (K.Gives (.bool false) w) := by
  have h := c45_2 (lo := lo) (hi := hi) hw hm
  rw [decide_eq_false (fun h => h hc)] at h
  exact h

theorem c45_3 {lo hi x y z : Int} {w0 w : World} {F : List K.Chunk} {b : Nat} (hw : K.St w0 F w) (hm : K.blk b 3 [.int .i64 x, .int .i64 y, .int .i64 z] ∈ F) :
    Calls Try.prog 45 [.int .i64 lo, .int .i64 hi, .slice (some ⟨b, 0, none⟩) 3 3].toArray w (K.Gives (.bool (decide (¬ ((lo ≤ x ∧ x ≤ hi) ∧ (lo ≤ y ∧ y ≤ hi) ∧ (lo ≤ z ∧ z ≤ hi))))) w) := by
  have h := c45 (lo := lo) (hi := hi) (c := 3) (xs := [x, y, z]) (K.Rd.lit hw hm (fun _ => rfl) (by decide) rfl) (by simp)
  have e : outB lo hi [x, y, z] = decide (¬ ((lo ≤ x ∧ x ≤ hi) ∧ (lo ≤ y ∧ y ≤ hi) ∧ (lo ≤ z ∧ z ≤ hi))) := by
    rw [Bool.eq_iff_iff]; simp [outB]
    try omega
  rw [e] at h
  exact h
theorem c45_3f {lo hi x y z : Int} {w0 w : World} {F : List K.Chunk} {b : Nat} (hw : K.St w0 F w) (hm : K.blk b 3 [.int .i64 x, .int .i64 y, .int .i64 z] ∈ F) (hc : ((lo ≤ x ∧ x ≤ hi) ∧ (lo ≤ y ∧ y ≤ hi) ∧ (lo ≤ z ∧ z ≤ hi))) :
    Calls Try.prog 45 [.int .i64 lo, .int .i64 hi, .slice (some ⟨b, 0, none⟩) 3 3].toArray w (K.Gives (.bool false) w) := by
  have h := c45_3 (lo := lo) (hi := hi) hw hm
  rw [decide_eq_false (fun h => h hc)] at h
  exact h

set_option maxRecDepth 100000 in
theorem c46 {st : Int} {ps : List CvT} {A : Option Addr} {c : Nat} {w : World} (hR : K.Rd w A 3 eC ps) (g : Good st ps) :
    Calls Try.prog 46 [.agg #[.int .i64 st, .slice A ps.length c]].toArray w (K.Gives (.tuple #[.int .i64 0, .int .i64 0, .int .i64 0]) w) := by
  have hgs := g.s
  have hgn := g.n
  refine K.enter (args := [.agg #[.int .i64 st, .slice A ps.length c]]) Try.func46 rfl (n := 47) rfl ?_
  simp only [List.replicate, List.cons_append, List.nil_append]
  refine K.seq ?_
  refine K.region_lit ?_
  refine K.seq_new (K.box) rfl ?_
  intro b1
  try dsimp only [setd, setn, ev, nth, over, cl, eI, eP, eT, eC, List.map, List.append, List.drop, List.take]
  refine K.seq_pure (K.assign) rfl ?_
  dsimp only [setd, setn, ev, nth]
  refine K.seq_pure (K.assign) rfl ?_
  dsimp only [setd, setn, ev, nth]
  refine K.seq_pure (K.assign) rfl ?_
  dsimp only [setd, setn, ev, nth]
  refine K.seq_nil ?_
  refine K.norm_then ?_
  refine K.seq ?_
  refine K.block ?_
  refine K.seq ?_
  refine K.region_lit ?_
  refine K.seq_pure (K.fieldAddr_lit fo_24_0 rfl) rfl ?_
  dsimp only [setd, setn, ev, nth]
  refine K.seq_sil (K.load1_own one_3 rfl (K.m0) rfl) rfl ?_
  try dsimp only [setd, setn, ev, nth, over, cl, eI, eP, eT, eC, List.map, List.append, List.drop, List.take]
  refine K.seq_new (K.buildSlice (bs1 _)) rfl ?_
  intro b10
  try dsimp only [setd, setn, ev, nth, over, cl, eI, eP, eT, eC, List.map, List.append, List.drop, List.take]
  refine K.seq_call (K.call_g cal_45 (fun F w hF hw => c45_1f hw (hF _ (K.m0)) (by omega))) rfl ?_
  try dsimp only [setd, setn, ev, nth, over, cl, eI, eP, eT, eC, List.map, List.append, List.drop, List.take]
  refine K.seq_pure (K.assign) rfl ?_
  dsimp only [setd, setn, ev, nth]
  refine K.seq_nil ?_
  refine K.norm_then ?_
  refine K.cond_false rfl ?_
  refine K.seq ?_
  refine K.region_lit ?_
  refine K.seq_pure (K.fieldAddr_lit fo_24_1 rfl) rfl ?_
  dsimp only [setd, setn, ev, nth]
  refine K.seq_sil (K.load1_own one_22 rfl (K.m1) rfl) rfl ?_
  try dsimp only [setd, setn, ev, nth, over, cl, eI, eP, eT, eC, List.map, List.append, List.drop, List.take]
  refine K.seq_pure (K.len_sl sl_22 rfl) rfl ?_
  dsimp only [setd, setn, ev, nth]
  refine K.seq_new (K.buildSlice (bs1 _)) rfl ?_
  intro b16
  try dsimp only [setd, setn, ev, nth, over, cl, eI, eP, eT, eC, List.map, List.append, List.drop, List.take]
  refine K.seq_call (K.call_g cal_45 (fun F w hF hw => c45_1f hw (hF _ (K.m0)) (by omega))) rfl ?_
  try dsimp only [setd, setn, ev, nth, over, cl, eI, eP, eT, eC, List.map, List.append, List.drop, List.take]
  refine K.seq_pure (K.assign) rfl ?_
  dsimp only [setd, setn, ev, nth]
  refine K.seq_nil ?_
  refine K.norm_then ?_
  refine K.cond_false rfl ?_
  refine K.skip ?_
  refine K.norm_block ?_
  refine K.norm_then ?_
  refine K.seq ?_
  refine K.seq ?_
  refine K.weak (List.Sublist.cons _ (List.Sublist.cons _ (List.Sublist.cons_cons _ (List.Sublist.slnil)))) ?_
  refine K.region_lit ?_
  refine K.seq_pure (K.fieldAddr_lit fo_24_1 rfl) rfl ?_
  dsimp only [setd, setn, ev, nth]
  refine K.seq_sil (K.load1_own one_22 rfl (K.m0) rfl) rfl ?_
  try dsimp only [setd, setn, ev, nth, over, cl, eI, eP, eT, eC, List.map, List.append, List.drop, List.take]
  refine K.seq_pure (K.len_sl sl_22 rfl) rfl ?_
  dsimp only [setd, setn, ev, nth]
  refine K.seq_pure (K.move) rfl ?_
  dsimp only [setd, setn, ev, nth]
  refine K.seq_nil ?_
  refine K.norm_then ?_
  refine K.block ?_
  refine K.loopW [21] [2, 3, 4, 5, 6, 22, 23, 24, 25, 26, 27, 28, 29, 30, 31, 32, 33, 34, 35, 36, 37, 38, 39, 40, 41, 42, 43, 44, 45, 46, 47] (fun vi L => ∃ k : Nat, vi = [.int .i64 (k : Int)] ∧ L = [K.blk b1 24 [.int .i64 st, .slice A ps.length c]] ∧ k ≤ ps.length) (fun vi => ps.length - (intOf (K.nth vi 0)).toNat) ?_ ?_
  · exact ⟨0, rfl, rfl, Nat.zero_le _⟩
  intro vi vr L hJ
  obtain ⟨k, rfl, rfl, hkn⟩ := hJ
  try dsimp only [setd, setn, ev, nth, over, cl, eI, eP, eT, eC, setM, setF, List.map, List.append, List.drop, List.take]
  refine K.seq ?_
  refine K.region_lit ?_
  refine K.seq_pure (K.lss rfl rfl) rfl ?_
  dsimp only [setd, setn, ev, nth]
  refine K.seq_nil ?_
  refine K.norm_then ?_
  refine K.seq ?_
  refine K.cond rfl (fun ht22 => ?_) (fun ht22 => ?_)
  · try replace ht22 := of_decide_eq_true ht22
    have hk : k < ps.length := by omega
    have hpk := g.p k hk
    refine K.skip ?_
    refine K.norm_then ?_
    refine K.seq ?_
    refine K.block ?_
    refine K.seq ?_
    refine K.region_lit ?_
    refine K.seq_pure (K.move) rfl ?_
    dsimp only [setd, setn, ev, nth]
    refine K.seq_ix (M := []) _ hR.sl sl_22 rfl rfl rfl (by omega) rfl ?_
    intro p24 hp24
    try dsimp only [setd, setn, ev, nth, over, cl, eI, eP, eT, eC, List.map, List.append, List.drop, List.take]
    refine K.seq_sil (K.loadA_p ag_45 rfl (hp24.any) rfl) rfl ?_
    try dsimp only [setd, setn, ev, nth, over, cl, eI, eP, eT, eC, List.map, List.append, List.drop, List.take]
    refine K.seq_new (K.alloc zr_45) rfl ?_
    intro b6
    try dsimp only [setd, setn, ev, nth, over, cl, eI, eP, eT, eC, List.map, List.append, List.drop, List.take]
    refine K.seq_pure (K.assign) rfl ?_
    dsimp only [setd, setn, ev, nth]
    refine K.seq_st (K.store_all sz_45 rfl rfl rfl rfl (K.rp0)) rfl ?_
    try dsimp only [setd, setn, ev, nth, over, cl, eI, eP, eT, eC, List.map, List.append, List.drop, List.take]
    refine K.seq_nil ?_
    refine K.norm_then ?_
    refine K.block ?_
    refine K.seq ?_
    refine K.region_lit ?_
    refine K.seq_pure (K.fieldAddr_lit fo_45_0 rfl) rfl ?_
    dsimp only [setd, setn, ev, nth]
    refine K.seq_sil (K.load1_own one_3 rfl (K.m0) rfl) rfl ?_
    try dsimp only [setd, setn, ev, nth, over, cl, eI, eP, eT, eC, List.map, List.append, List.drop, List.take]
    refine K.seq_pure (K.fieldAddr_lit fo_45_1 rfl) rfl ?_
    dsimp only [setd, setn, ev, nth]
    refine K.seq_sil (K.load1_own one_3 rfl (K.m0) rfl) rfl ?_
    try dsimp only [setd, setn, ev, nth, over, cl, eI, eP, eT, eC, List.map, List.append, List.drop, List.take]
    refine K.seq_pure (K.fieldAddr_lit fo_45_2 rfl) rfl ?_
    dsimp only [setd, setn, ev, nth]
    refine K.seq_sil (K.load1_own one_3 rfl (K.m0) rfl) rfl ?_
    try dsimp only [setd, setn, ev, nth, over, cl, eI, eP, eT, eC, List.map, List.append, List.drop, List.take]
    refine K.seq_new (K.buildSlice (bs3 _ _ _)) rfl ?_
    intro b33
    try dsimp only [setd, setn, ev, nth, over, cl, eI, eP, eT, eC, List.map, List.append, List.drop, List.take]
    refine K.seq_call (K.call_g cal_45 (fun F w hF hw => c45_3f hw (hF _ (K.m0)) (by omega))) rfl ?_
    try dsimp only [setd, setn, ev, nth, over, cl, eI, eP, eT, eC, List.map, List.append, List.drop, List.take]
    refine K.seq_pure (K.assign) rfl ?_
    dsimp only [setd, setn, ev, nth]
    refine K.seq_nil ?_
    refine K.norm_then ?_
    refine K.cond_false rfl ?_
    refine K.seq ?_
    refine K.region_lit ?_
    refine K.seq_pure (K.fieldAddr_lit fo_45_1 rfl) rfl ?_
    dsimp only [setd, setn, ev, nth]
    refine K.seq_sil (K.load1_own one_3 rfl (K.m1) rfl) rfl ?_
    try dsimp only [setd, setn, ev, nth, over, cl, eI, eP, eT, eC, List.map, List.append, List.drop, List.take]
    refine K.seq_pure (K.fieldAddr_lit fo_45_1 rfl) rfl ?_
    dsimp only [setd, setn, ev, nth]
    refine K.seq_sil (K.load1_own one_3 rfl (K.m1) rfl) rfl ?_
    try dsimp only [setd, setn, ev, nth, over, cl, eI, eP, eT, eC, List.map, List.append, List.drop, List.take]
    refine K.seq_pure (K.add_i64 rfl rfl (by omega)) rfl ?_
    dsimp only [setd, setn, ev, nth]
    refine K.seq_pure (K.fieldAddr_lit fo_45_2 rfl) rfl ?_
    dsimp only [setd, setn, ev, nth]
    refine K.seq_sil (K.load1_own one_3 rfl (K.m1) rfl) rfl ?_
    try dsimp only [setd, setn, ev, nth, over, cl, eI, eP, eT, eC, List.map, List.append, List.drop, List.take]
    refine K.seq_new (K.buildSlice (bs1 _)) rfl ?_
    intro b44
    try dsimp only [setd, setn, ev, nth, over, cl, eI, eP, eT, eC, List.map, List.append, List.drop, List.take]
    refine K.seq_call (K.call_g cal_45 (fun F w hF hw => c45_1f hw (hF _ (K.m0)) (by omega))) rfl ?_
    try dsimp only [setd, setn, ev, nth, over, cl, eI, eP, eT, eC, List.map, List.append, List.drop, List.take]
    refine K.seq_pure (K.assign) rfl ?_
    dsimp only [setd, setn, ev, nth]
    refine K.seq_nil ?_
    refine K.norm_then ?_
    refine K.cond_false rfl ?_
    refine K.skip ?_
    refine K.norm_block ?_
    refine K.norm_block ?_
    refine K.norm_then ?_
    refine K.region_lit ?_
    refine K.seq_pure (K.add_i64 rfl rfl (by omega)) rfl ?_
    dsimp only [setd, setn, ev, nth]
    refine K.seq_pure (K.move) rfl ?_
    dsimp only [setd, setn, ev, nth]
    refine K.seq_nil ?_
    exact K.round_endW (L'' := [K.blk b1 24 [.int .i64 st, .slice A ps.length c]]) [.int .i64 ((k : Int) + 1)] ⟨k + 1, rfl, rfl, by omega⟩ (by simp [K.nth, intOf]; omega) (List.Sublist.cons _ (List.Sublist.cons _ (List.Sublist.cons _ (List.Sublist.refl _)))) (by kernel_rfl)
  try replace ht22 := of_decide_eq_false ht22
  refine K.exit ?_
  refine K.exit_then ?_
  refine K.exit_then ?_
  refine K.exit_here ?_
  refine K.norm_then ?_
  refine K.seq ?_
  refine K.region_lit ?_
  refine K.seq_pure (K.assign) rfl ?_
  dsimp only [setd, setn, ev, nth]
  refine K.seq_pure (K.assign) rfl ?_
  dsimp only [setd, setn, ev, nth]
  refine K.seq_pure (K.assign) rfl ?_
  dsimp only [setd, setn, ev, nth]
  refine K.seq_nil ?_
  refine K.norm_then ?_
  refine K.ret ?_
  refine K.end_ret (fun w _ => K.res_ttt rfl w) ?_
  exact K.gives rfl

end Go.Proofs.Ytfbglomliankmaa.Cv
end
section
set_option linter.unusedSimpArgs false
set_option linter.unusedVariables false
namespace Go.Proofs.Ytfbglomliankmaa.Cv
open Go Go.ChangeShapes Go.WideShapes Go.Deep Go.RowKit Go.Joins
section
variable {H : Type} {enc : TypeId × Value → H} {P : Program} {w : World} {base : Nat} {spare : Nat → Bool} {held : Bool}
theorem open_slice_fields {t e : TypeId} {fs : Array Field} {fuel : Nat} {cs : List Value} {x : DataW H × List MemPlace} (ht : P.underlying t = some (.slice e)) (he : P.underlying e = some (.struct fs))
    (hone : oneCellFields P fs = true) (hC : P.cellsOf e = fs.size) (h : DataW.trod enc P w base spare held fuel t cs = some x) :
    (cs = [.slice none 0 0] ∧ x = (.nil, [])) ∨
    ∃ (a : Addr) (len cap m : Nat) (D : Nat → DataW H) (Pl : Nat → List MemPlace), cs = [.slice (some a) len cap] ∧ base ≤ a.block ∧ len ≤ cap ∧ cap ≤ maxLen ∧ m = (if spare a.block then cap else len) ∧
      x = (.slice ((List.range len).map D) ((List.range (m - len)).map fun j => D (len + j)), MemPlace.row a (m * fs.size) ++ (List.range m).flatMap Pl) ∧
      ∀ i, i < m → ∃ (ys : List (DataW H × List MemPlace)) (n : Nat), D i = .agg (ys.map (·.1)) ∧ Pl i = ys.flatMap (·.2) ∧ ys.length = fs.size ∧
        ∀ (j : Nat) (f : Field), fs[j]? = some f → ∃ (v : Value) (y : DataW H × List MemPlace), w.cell? (a.add (i * fs.size + j)) = some v ∧ ys[j]? = some y ∧ DataW.trod enc P w base spare held n f.type [v] = some y := by
  rcases open_slice ht h with h0 | ⟨a, len, cap, m, n, D, Pl, hcs, hb, hl, hm, hmm, hx, hi⟩
  · exact .inl h0
  · refine .inr ⟨a, len, cap, m, D, Pl, hcs, hb, hl, hm, hmm, by rw [hC] at hx; exact hx, fun i him => ?_⟩
    obtain ⟨cs', hc, ht'⟩ := hi i him
    rw [hC] at hc
    obtain ⟨ys, n', hn', hy, hlen, hyl, hf⟩ := DataW.trod_struct he ht'
    obtain ⟨_, hcl, hat⟩ := World.cells?_some hc
    simp only [Prod.mk.injEq] at hy
    refine ⟨ys, n', hy.1, hy.2, hyl, fun j f hj => ?_⟩
    obtain ⟨ho, hk⟩ := hone_of hone j f hj
    have hjl : j < fs.size := (Array.getElem?_eq_some_iff.1 hj).1
    have hcell := hat j hjl
    have hv : cs'[j]? = some (cs'[j]'(by omega)) := List.getElem?_eq_getElem (by omega)
    have h1 := hf j f hj
    rw [ho, hk] at h1
    have hone' : (cs'.drop j).take 1 = [cs'[j]'(by omega)] := by
      rw [List.drop_eq_getElem_cons (by omega)]
      rfl
    rw [hone'] at h1
    have hys : ys[j]? = some (ys[j]'(by omega)) := List.getElem?_eq_getElem (by omega)
    refine ⟨_, _, ?_, hys, h1.trans hys⟩
    rw [← Go.Deep.add_add, hcell, hv]
theorem list_of {E : Type} [Inhabited E] {Q : Nat → E → Prop} : ∀ {n : Nat}, (∀ i, i < n → ∃ x, Q i x) → ∃ xs : List E, xs.length = n ∧ ∀ i x, xs[i]? = some x → Q i x
  | 0, _ => ⟨[], rfl, fun i x h => by simp at h⟩
  | n + 1, h => by
    obtain ⟨xs, hl, hq⟩ := list_of (n := n) (Q := Q) (fun i hi => h i (by omega))
    obtain ⟨x, hx⟩ := h n (by omega)
    refine ⟨xs ++ [x], by simp [hl], fun i y hy => ?_⟩
    rw [List.getElem?_append] at hy
    split at hy
    · exact hq i y hy
    · rename_i h1
      have : i = n := by
        rcases Nat.lt_or_ge (i - xs.length) 1 with h2 | h2
        · omega
        · rw [List.getElem?_eq_none (by simpa using h2)] at hy; cases hy
      subst this
      rw [hl, Nat.sub_self] at hy
      simp at hy
      subst hy; exact hx
def SlD {E : Type} (w : World) (size : Nat) (e : E → List Value) (v : Value) (d : DataW H) (A : Option Addr) (c : Nat) (xs : List E) : Prop :=
  v = .slice A xs.length c ∧ K.Rd w A size e xs ∧ (d = .nil ∧ xs = [] ∨ ∃ el rest, d = .slice el rest ∧ el.length = xs.length)
theorem trod_one {t e : TypeId} {v : Value} {d : DataW H} {p : List MemPlace} {b0 : Nat} (ht : P.underlying t = some (.slice e)) (hv : Value.okWide P w .any b0 t v) (h : DataW.Trod enc P w base spare held t v d p) : ∃ fuel, DataW.trod enc P w base spare held fuel t [v] = some (d, p) := by
  obtain ⟨a, n, c, rfl⟩ := okWide_slice ht hv
  obtain ⟨fuel, hf⟩ := h
  exact ⟨fuel, by simpa [Value.cells] using hf⟩
theorem open_bytes {b0 n t e : Nat} {v : Value} {d : DataW H} {p : List MemPlace} (ht : P.underlying t = some (.array n e)) (he : P.underlying e = some (.int .u8)) (hc : P.cellsOf t = n) (h1 : P.cellsOf e = 1) (hv : Value.okWide P w .any b0 t v) (h : DataW.Trod enc P w base spare held t v d p) :
    ∃ xs : List Int, xs.length = n ∧ v = .agg (xs.map (Value.int .u8)).toArray ∧ ∀ x ∈ xs, 0 ≤ x ∧ x ≤ 255 := by
  simp only [Value.okWide, ht] at hv
  obtain ⟨cs, rfl, hsz, _⟩ := hv
  obtain ⟨fuel, hf⟩ := h
  obtain ⟨ys, m, _, _, hl, hyl, hi⟩ := DataW.trod_array ht hf
  have hcl : cs.toList.length = n := by simpa [hc] using hsz
  obtain ⟨xs, hxl, hq⟩ := list_of (n := n) (Q := fun i (x : Int) => cs.toList[i]? = some (.int .u8 x) ∧ 0 ≤ x ∧ x ≤ 255) (fun i hil => by
    have h2 := hi i hil
    rw [h1, Nat.mul_one] at h2
    have h3 : ((Value.agg cs).cells.toList.drop i).take 1 = [cs.toList[i]'(by omega)] := by
      show (cs.toList.drop i).take 1 = _
      rw [List.drop_eq_getElem_cons (by omega)]; rfl
    rw [h3, List.getElem?_eq_getElem (by omega)] at h2
    obtain ⟨a, ea, _, wa⟩ := DataW.trod_int he h2
    simp at ea
    exact ⟨a, by rw [List.getElem?_eq_getElem (by omega)]; simpa using ea, bounds_u8 wa⟩)
  refine ⟨xs, hxl, ?_, fun x hx => ?_⟩
  · congr 1
    apply Array.ext'
    apply List.ext_getElem?
    intro i
    rcases Nat.lt_or_ge i n with h4 | h4
    · have h5 : xs[i]? = some (xs[i]'(by omega)) := List.getElem?_eq_getElem (by omega)
      rw [(hq i _ h5).1, List.getElem?_map, h5]; rfl
    · rw [List.getElem?_eq_none (by omega), List.getElem?_eq_none (by simp; omega)]
  · obtain ⟨i, hi2, rfl⟩ := List.getElem_of_mem hx
    exact (hq i _ (List.getElem?_eq_getElem hi2)).2
theorem slice_bytes {t e : TypeId} {fuel : Nat} {v : Value} {y : DataW H × List MemPlace} (ht : P.underlying t = some (.slice e)) (he : P.underlying e = some (.int .u8)) (hc : P.cellsOf e = 1) (h : DataW.trod enc P w base spare held fuel t [v] = some y) :
    ∃ A c xs, SlD w 1 eY v y.1 A c xs ∧ ∀ x ∈ xs, 0 ≤ x ∧ x ≤ 255 := by
  rcases open_ints ht he hc h with ⟨hcs, hx⟩ | ⟨a, len, cap, zs, hcs, _, hl, hm, hz, hx, hcell, hwf⟩
  · simp at hcs; subst hcs
    exact ⟨none, 0, [], ⟨rfl, K.Rd.nil, .inl ⟨by rw [hx], rfl⟩⟩, by simp⟩
  · simp at hcs; subst hcs
    have hlz : len ≤ zs.length := by rw [hz]; split <;> omega
    have hlen : (zs.take len).length = len := by rw [List.length_take]; omega
    refine ⟨some a, cap, zs.take len, ⟨by rw [hlen], fun k x hk => ?_, .inr ⟨_, _, by rw [hx], by simp [lits]⟩⟩, fun x hx => bounds_u8 (hwf x (List.mem_of_mem_take hx))⟩
    have hk1 : k < len := by have := (List.getElem?_eq_some_iff.1 hk).1; omega
    have hc1 := hcell k (by omega)
    have hzk : zs.getD k 0 = x := by
      rw [List.getElem?_take, if_pos hk1] at hk
      rw [List.getD_eq_getElem?_getD, hk]; rfl
    rw [hzk] at hc1
    refine ⟨a, rfl, ?_, fun j u hu => ?_⟩
    · have := World.block_lt_of_cell? w _ hc1
      rwa [K.addr_block] at this
    · cases j with
      | zero => simp [eY] at hu; subst hu; rw [Nat.mul_one, K.addr_add0]; exact hc1
      | succ j => simp [eY] at hu
theorem slice_row {t e : TypeId} {f0 f1 f2 : Field} {fuel : Nat} {v : Value} {y : DataW H × List MemPlace} (ht : P.underlying t = some (.slice e)) (he : P.underlying e = some (.struct #[f0, f1, f2])) (hone : oneCellFields P #[f0, f1, f2] = true) (hC : P.cellsOf e = 3)
    (h0 : P.underlying f0.type = some (.int .i64)) (h1 : P.underlying f1.type = some (.int .i64)) (h2 : P.underlying f2.type = some (.int .i64)) (h : DataW.trod enc P w base spare held fuel t [v] = some y) :
    ∃ A c xs, SlD w 3 eC v y.1 A c xs := by
  rcases open_slice_fields ht he hone hC h with ⟨hcs, hx⟩ | ⟨a, len, cap, m, D, Pl, hcs, _, hl, hm, hmm, hx, hi⟩
  · simp at hcs; subst hcs
    exact ⟨none, 0, [], rfl, K.Rd.nil, .inl ⟨by rw [hx], rfl⟩⟩
  · simp at hcs; subst hcs
    have hlm : len ≤ m := by rw [hmm]; split <;> omega
    obtain ⟨xs, hxl, hq⟩ := list_of (n := len) (Q := fun i (x : CvT) => w.cell? (a.add (i * 3)) = some (.int .i64 x.bd) ∧ w.cell? (a.add (i * 3 + 1)) = some (.int .i64 x.lo) ∧ w.cell? (a.add (i * 3 + 2)) = some (.int .i64 x.hi)) (fun i hil => by
      obtain ⟨ys, n, _, _, _, hf⟩ := hi i (by omega)
      obtain ⟨v0, y0, hc0, _, ht0⟩ := hf 0 f0 rfl
      obtain ⟨v1, y1, hc1, _, ht1⟩ := hf 1 f1 rfl
      obtain ⟨v2, y2, hc2, _, ht2⟩ := hf 2 f2 rfl
      obtain ⟨a0, e0, _, _⟩ := DataW.trod_int h0 ht0
      obtain ⟨a1, e1, _, _⟩ := DataW.trod_int h1 ht1
      obtain ⟨a2, e2, _, _⟩ := DataW.trod_int h2 ht2
      simp at e0 e1 e2; subst e0 e1 e2
      exact ⟨⟨a0, a1, a2⟩, hc0, hc1, hc2⟩)
    refine ⟨some a, cap, xs, by rw [hxl], fun k x hk => ?_, .inr ⟨_, _, by rw [hx], by simp [hxl]⟩⟩
    obtain ⟨q0, q1, q2⟩ := hq k x hk
    refine ⟨a, rfl, ?_, fun j u hu => ?_⟩
    · have := World.block_lt_of_cell? w _ q0
      rwa [K.addr_block] at this
    · match j with
      | 0 => simp [eC] at hu; subst hu; rw [K.addr_add0]; exact q0
      | 1 => simp [eC] at hu; subst hu; rw [Go.Deep.add_add]; exact q1
      | 2 => simp [eC] at hu; subst hu; rw [Go.Deep.add_add]; exact q2
      | j + 3 => simp [eC] at hu
end
section
variable {H : Type} {w : World} {n c : Nat} {v : Value} {d : DataW H} {A : Option Addr}
theorem sld_len {E : Type} {e : E → List Value} {xs : List E} {t et b : Nat} (h : SlD w n e v d A c xs) (ht : Try.prog.underlying t = some (.slice et)) (hb : Try.prog.bytesOf et = b) (h8 : 8 ≤ b) (hs : ∀ n ∈ d.weights Try.prog t, n ≤ reachBytes) : xs.length ≤ 17592186043904 := by
  rcases h.2.2 with ⟨_, rfl⟩ | ⟨el, rest, rfl, hl⟩
  · simp
  · have h1 := hs ((el.length + rest.length) * b) (by simp [DataW.weights, ht, hb])
    have h2 : (el.length + rest.length) * 8 ≤ (el.length + rest.length) * b := Nat.mul_le_mul_left _ h8
    have h3 : reachBytes ≤ 140737488351232 := by decide
    omega
end
section
variable {H : Type} {enc : TypeId × Value → H} {w : World} {base : Nat} {spare : Nat → Bool} {held : Bool}
set_option maxRecDepth 100000 in
theorem open_u8s {b0 : Nat} {v : Value} {d : DataW H} {p : List MemPlace} (hv : Value.okWide Try.prog w .any b0 25 v) (h : DataW.Trod enc Try.prog w base spare held 25 v d p) (hs : ∀ n ∈ d.weights Try.prog 25, n ≤ reachBytes) : ∃ (Y : Option Addr) (cy : Nat) (ys : List Int), v = .slice Y ys.length cy ∧ K.Rd w Y 1 eY ys ∧ (∀ x ∈ ys, 0 ≤ x ∧ x ≤ 255) ∧ ys.length ≤ 140737488351232 := by
  obtain ⟨fuel, hf⟩ := trod_one Try.underlying25 hv h
  obtain ⟨A, c, xs, hx, hb⟩ := slice_bytes Try.underlying25 Try.underlying5 (by kernel_rfl) hf
  refine ⟨A, c, xs, hx.1, hx.2.1, hb, ?_⟩
  rcases hx.2.2 with ⟨_, rfl⟩ | ⟨el, rest, rfl, hl⟩
  · simp
  · have hb1 : Try.prog.bytesOf 5 = 1 := by kernel_rfl
    have h1 := hs ((el.length + rest.length) * 1) (by simp [DataW.weights, Try.underlying25, hb1])
    have h3 : reachBytes ≤ 140737488351232 := by decide
    omega
set_option maxRecDepth 100000 in
theorem open_u3 {b0 : Nat} {v : Value} {d : DataW H} {p : List MemPlace} (hv : Value.okWide Try.prog w .any b0 26 v) (h : DataW.Trod enc Try.prog w base spare held 26 v d p) : ∃ x0 x1 x2 : Int, v = .agg #[.int .u8 x0, .int .u8 x1, .int .u8 x2] ∧ (0 ≤ x0 ∧ x0 ≤ 255) ∧ (0 ≤ x1 ∧ x1 ≤ 255) ∧ (0 ≤ x2 ∧ x2 ≤ 255) := by
  obtain ⟨xs, hl, rfl, hx⟩ := open_bytes Try.underlying26 Try.underlying5 (by kernel_rfl) (by kernel_rfl) hv h
  match xs, hl with
  | [x0, x1, x2], _ => exact ⟨x0, x1, x2, rfl, hx _ (by simp), hx _ (by simp), hx _ (by simp)⟩
set_option maxRecDepth 100000 in
theorem open_row {b0 : Nat} {v : Value} {d : DataW H} {p : List MemPlace} (hv : Value.okWide Try.prog w .any b0 24 v) (h : DataW.Trod enc Try.prog w base spare held 24 v d p) (hs : ∀ n ∈ d.weights Try.prog 24, n ≤ reachBytes) :
    ∃ (st : Int) (A : Option Addr) (c : Nat) (ps : List CvT), v = .agg #[.int .i64 st, .slice A ps.length c] ∧ K.Rd w A 3 eC ps ∧ ps.length ≤ 17592186043904 := by
  obtain ⟨c0, c1, y0, y1, m, rfl, rfl, _, t0, t1⟩ := open_agg2 Try.underlying24 (by kernel_rfl) (by kernel_rfl) hv h
  obtain ⟨k, e0, _, w0⟩ := DataW.trod_int Try.underlying3 t0
  simp at e0; subst e0
  obtain ⟨A, c, ps, s1⟩ := slice_row Try.underlying22 Try.underlying45 (by kernel_rfl) (by kernel_rfl) Try.underlying3 Try.underlying3 Try.underlying3 t1
  have l1 := sld_len s1 Try.underlying22 (b := 24) (by kernel_rfl) (by omega) (fun n hn => hs n (by simp [DataW.weights, Try.underlying24, DataW.weightsEach, hn]))
  obtain ⟨rfl, r1, _⟩ := s1
  exact ⟨k, A, c, ps, rfl, r1, l1⟩
end
theorem own0 : ownKnob Try.prog.godebug = none := by kernel_rfl
theorem laidOut0 : laidOutB Try.prog = true := by kernel_rfl
end Go.Proofs.Ytfbglomliankmaa.Cv
end
section
set_option linter.unusedSimpArgs false
set_option linter.unusedVariables false
namespace Go.K
open Go.RowKit
section
variable {P : Program} {w0 : World} {L : List Chunk} {l : List Value} {d : Option Tmp} {ty : TypeId} {ps : String} {af : Array Edge} {g : Option (Nat × Bool)} {xt yt : TypeId} {x y : Operand} {a b : Bool}
end
end Go.K

namespace Go.K
open Go.RowKit
theorem flat_cut {E : Type} {e : E → List Value} {size : Nat} {rest : List Value} (hl : ∀ x, (e x).length = size) : ∀ {xs : List E} {k : Nat}, k ≤ xs.length → (xs.flatMap e ++ rest).take (k * size) = (xs.take k).flatMap e ∧ (xs.flatMap e ++ rest).drop (k * size) = (xs.drop k).flatMap e ++ rest
  | [], 0, _ => by simp
  | [], k + 1, h => by simp at h
  | x :: xs, 0, _ => by simp
  | x :: xs, k + 1, h => by
    have ih := flat_cut (rest := rest) hl (xs := xs) (k := k) (by simpa using h)
    have e1 : (k + 1) * size = (e x).length + k * size := by rw [hl, Nat.add_mul]; omega
    rw [List.flatMap_cons, List.append_assoc, e1]
    refine ⟨?_, ?_⟩
    · rw [List.take_append, List.take_of_length_le (by omega), show (e x).length + k * size - (e x).length = k * size by omega, ih.1]; simp
    · rw [List.drop_append, List.drop_of_length_le (by omega), show (e x).length + k * size - (e x).length = k * size by omega, ih.2]; simp
theorem set_cut {E : Type} {e : E → List Value} {xs : List E} {k : Nat} {x : E} {size : Nat} {rest : List Value} (hl : ∀ x, (e x).length = size) (hk : k < xs.length) : over (xs.flatMap e ++ rest) (0 + k * size) (e x) = (xs.set k x).flatMap e ++ rest := by
  have hlen : (xs.flatMap e).length = xs.length * size := flat_len hl xs
  have hfit : 0 + k * size + (e x).length ≤ (xs.flatMap e ++ rest).length := by
    rw [hl, List.length_append, hlen]
    have : (k + 1) * size ≤ xs.length * size := Nat.mul_le_mul_right _ hk
    rw [Nat.add_mul] at this; omega
  have h := List.toArray_inj (over_eq (e x) (xs.flatMap e ++ rest) (0 + k * size) hfit)
  rw [h, hl, Nat.zero_add, (flat_cut hl (by omega)).1, show k * size + size = (k + 1) * size by rw [Nat.add_mul]; omega, (flat_cut hl (by omega)).2, List.set_eq_take_append_cons_drop, if_pos hk, List.flatMap_append, List.flatMap_cons]
  simp
theorem over_app : ∀ (us xs rest : List Value) (j : Nat), j + us.length ≤ xs.length → over (xs ++ rest) j us = over xs j us ++ rest
  | [], _, _, _, _ => rfl
  | u :: us, xs, rest, j, h => by
    simp only [List.length_cons] at h
    rw [over, over, setn_eq, setn_eq, List.set_append_left _ _ (by omega)]
    exact over_app us _ rest (j + 1) (by rw [List.length_set]; omega)
section
variable {P : Program} {w0 : World} {L L' : List Chunk} {l : List Value} {d : Option Tmp} {ty : TypeId} {ps : String} {af : Array Edge} {g : Option (Nat × Bool)}
end
theorem set_cut0 {E : Type} {e : E → List Value} {xs : List E} {k : Nat} {x : E} {size : Nat} (hl : ∀ x, (e x).length = size) (hk : k < xs.length) : over (xs.flatMap e) (0 + k * size) (e x) = (xs.set k x).flatMap e := by
  have h := set_cut (rest := []) (x := x) hl hk
  simpa using h
theorem over_right : ∀ (us a b : List Value) (i : Nat), over (a ++ b) (a.length + i) us = a ++ over b i us
  | [], _, _, _ => rfl
  | u :: us, a, b, i => by
    rw [over, over, setn_eq, setn_eq, List.set_append_right _ _ (by omega), show a.length + i - a.length = i by omega, show a.length + i + 1 = a.length + (i + 1) by omega]
    exact over_right us a _ (i + 1)
theorem set_fld {E : Type} [Inhabited E] {e : E → List Value} {size j : Nat} {us : List Value} {x' : E} (hl : ∀ x, (e x).length = size) (hj : j + us.length ≤ size) : ∀ {xs : List E} {k : Nat}, k < xs.length → over (e (xs.getD k default)) j us = e x' → over (xs.flatMap e) (0 + k * size + j) us = (xs.set k x').flatMap e
  | [], _, h, _ => by simp at h
  | x :: xs, 0, _, h => by
    rw [List.flatMap_cons, show 0 + 0 * size + j = j by omega, over_app _ _ _ _ (by rw [hl]; exact hj)]
    rw [List.getD_cons_zero] at h
    rw [h]; rfl
  | x :: xs, k + 1, hk, h => by
    rw [List.getD_cons_succ] at h
    rw [List.flatMap_cons, show 0 + (k + 1) * size + j = (e x).length + (0 + k * size + j) by rw [hl, Nat.add_mul]; omega, over_right, set_fld hl hj (by simpa using hk) h]
    rfl
theorem rpe {c c' c'' : Chunk} {L L' : List Chunk} (hr : Rep c c' L L') (h : c' = c'') : Rep c c'' L L' := h ▸ hr
section
variable {P : Program} {l : List Value} {d : Option Tmp} {ty : TypeId} {ps : String} {af : Array Edge} {g : Option (Nat × Bool)} {xt yt : TypeId} {x y : Operand}
end
end Go.K

namespace Go.K
open Go.RowKit
section
variable {w0 : World} {L : List Chunk} {G : World → Prop}
end
end Go.K
end
section
set_option linter.unusedSimpArgs false
set_option linter.unusedVariables false
namespace Go.K
open Go.RowKit
def mv (b : Nat) (kvs : List (Value × Value)) : Chunk where
  foot := fun k => k = b
  holds := fun w => ∃ es clock, w.heap[b]? = some (.map es clock) ∧ es.toList.map (fun e => (e.key, e.val)) = kvs ∧ (es.toList.map (·.born)).Nodup ∧ ∀ e ∈ es.toList, e.born < clock
  loc := fun w w' h hk => by
    obtain ⟨es, clock, h1, h2⟩ := h
    exact ⟨es, clock, (hk b rfl).trans h1, h2⟩
  live := fun _ k h hk => by
    subst hk
    obtain ⟨es, clock, h1, _⟩ := h
    exact lt_of_some h1
structure MapZ (P : Program) (t kt : TypeId) (z : Value) : Prop where
  u : ∃ e, P.underlying t = some (.map kt e) ∧ (∀ w, (zeroValue e).run P w = .ok z w)
  law : WideMaps.KeyLaw P kt
section
variable {P : Program} {w0 : World} {L L' : List Chunk} {l : List Value} {d : Option Tmp} {ty : TypeId} {ps : String} {af : Array Edge} {g : Option (Nat × Bool)}
theorem mkMap_v {t : TypeId} : Loud P w0 L ⟨d, .makeMap t none, ty, ps, af, g⟩ l (fun _ : Nat => True) (fun b => .map (some b)) (fun b => [mv b []]) := fun F w _ hw => by
  refine OpT.of_run (w' := w.alloc (.map #[] 0)) ?_ ⟨w.heap.size, trivial, rfl, hw.add (D := [mv w.heap.size []]) ((Below.refl _ _).alloc (Nat.le_refl _) _) (own_one ⟨#[], 0, heap_alloc_new w _, rfl, by simp, by simp⟩ (fun k hk => by cases hk; exact Nat.le_refl _))⟩
  have := run_makeMap (P := P) t w
  simp [execOp, Sem.run_bind, this]
variable {t kt b : Nat} {kvs : List (Value × Value)} {key z0 : Value}
theorem mv_at {es : Array MapEntry} (h : es.toList.map (fun e => (e.key, e.val)) = kvs) {j : Nat} {e0 : MapEntry} (he : es.toList[j]? = some e0) : kvs[j]? = some (e0.key, e0.val) := by
  rw [← h, List.getElem?_map, he]; rfl
theorem mv_none {es : Array MapEntry} (h : es.toList.map (fun e => (e.key, e.val)) = kvs) (hne : ∀ e ∈ es.toList, e.key ≠ key) : ∀ p ∈ kvs, p.1 ≠ key := fun p hp hk => by
  rw [← h] at hp
  obtain ⟨e, he, hh⟩ := List.mem_map.1 hp
  rw [← hh] at hk
  exact hne e he hk
theorem mv_keys {es : Array MapEntry} (h : es.toList.map (fun e => (e.key, e.val)) = kvs) (hks : ∀ p ∈ kvs, ∃ q, keyOf P kt p.1 = some q) : ∀ x ∈ es.toList, ∃ l, keyOf P kt x.key = some l := fun x hx =>
  hks (x.key, x.val) (by rw [← h]; exact List.mem_map_of_mem (f := fun e : MapEntry => (e.key, e.val)) hx)
theorem lookupOk_mv {x y : Operand} (hM : MapZ P t kt z0) (hx : ev l x = .map (some b)) (hy : ev l y = key) (hm : mv b kvs ∈ L) (hk : ∃ q, keyOf P kt key = some q) (hks : ∀ p ∈ kvs, ∃ q, keyOf P kt p.1 = some q) :
    Loud P w0 L ⟨d, .lookup t x y true, ty, ps, af, g⟩ l (fun r : Value × Bool => (r.2 = false ∧ r.1 = z0 ∧ ∀ p ∈ kvs, p.1 ≠ key) ∨ (r.2 = true ∧ (key, r.1) ∈ kvs)) (fun r => .tuple #[r.1, .bool r.2]) (fun _ => []) := fun F w hF hw => by
  obtain ⟨es, clock, h1, h2, h3, h4⟩ := (hw.2.1 _ (hF _ hm)).1
  obtain ⟨e, hu, hz⟩ := hM.u
  obtain ⟨q, hq⟩ := hk
  have hall := mv_keys (P := P) (kt := kt) h2 hks
  have hc := hM.law.check w es.isEmpty hq
  rcases hM.law.find w hq es.toList hall with ⟨hf, hne⟩ | ⟨j, e0, hf, he, hkey⟩
  · refine OpT.of_run (v := .tuple #[z0, .bool false]) (w' := w) ?_ ⟨(z0, false), .inl ⟨rfl, rfl, mv_none h2 hne⟩, rfl, hw⟩
    simp [execOp, hx, hy, Instr.lookup, run_underlying hu, MapKept.run_getObj_map h1, hc, hf, hz, Result.andThen]
  · have hn0 := mv_at h2 he
    refine OpT.of_run (v := .tuple #[e0.val, .bool true]) (w' := w) ?_ ⟨(e0.val, true), .inr ⟨rfl, by rw [← hkey]; exact List.mem_of_getElem? hn0⟩, rfl, hw⟩
    simp [execOp, hx, hy, Instr.lookup, run_underlying hu, MapKept.run_getObj_map h1, hc, hf, Result.andThen]
def PutV (kvs : List (Value × Value)) (key : Value) (v : Value) (kvs' : List (Value × Value)) : Prop :=
  ((∀ p ∈ kvs, p.1 ≠ key) ∧ kvs' = kvs ++ [(key, v)]) ∨ ∃ j n, kvs[j]? = some (key, n) ∧ kvs' = kvs.set j (key, v)
theorem PutV.mem {kvs kvs' : List (Value × Value)} {key v : Value} (h : PutV kvs key v kvs') : ∀ p ∈ kvs', p ∈ kvs ∨ p = (key, v) := fun p hp => by
  rcases h with ⟨_, rfl⟩ | ⟨j, n, _, rfl⟩
  · simpa using hp
  · exact List.mem_or_eq_of_mem_set hp
theorem mapUpdate_mv {x y z : Operand} {v : Value} {M' : List (Value × Value) → List Chunk} (hM : MapZ P t kt z0) (hx : ev l x = .map (some b)) (hy : ev l y = key) (hz : ev l z = v) (hk : ∃ q, keyOf P kt key = some q) (hks : ∀ p ∈ kvs, ∃ q, keyOf P kt p.1 = some q)
    (hr : ∀ kvs', Rep (mv b kvs) (mv b kvs') L (M' kvs')) :
    Upd P w0 L ⟨d, .mapUpdate t x y z, ty, ps, af, g⟩ l (fun kvs' => PutV kvs key v kvs') (fun _ => undef) M' := fun w hw => by
  obtain ⟨es, clock, h1, h2, h3, h4⟩ := (hw.2.1 _ (hr []).mem).1
  obtain ⟨e, hu, _⟩ := hM.u
  obtain ⟨q, hq⟩ := hk
  have hall := mv_keys (P := P) (kt := kt) h2 hks
  have hlen : es.toList.length = kvs.length := by simpa using congrArg List.length h2
  have hc := hM.law.check w false hq
  have hst := hM.law.stays w hq
  rcases hM.law.find w hq es.toList hall with ⟨hf, hne⟩ | ⟨j, e0, hf, he, hkey⟩
  · refine OpT.of_skip (w' := { w with heap := w.heap.setIfInBounds b (.map (es.push ⟨key, v, clock⟩) (clock + 1)) }) ?_ ⟨kvs ++ [(key, v)], .inl ⟨mv_none h2 hne, rfl⟩, rfl, ?_⟩
    · simp [execOp, hx, hy, hz, Instr.mapUpdate, run_underlying hu, MapKept.run_getObj_map h1, hc, hf, MapKept.run_setObj_map _ h1, Result.andThen]
    · refine hw.upd (hr _) (grownBy_setMap w b _) (fun k hk => by cases hk; rfl) ⟨_, _, map_set h1, ?_, ?_, ?_⟩ (fun k hk => .inl hk)
      · simp [h2]
      · simp only [Array.toList_push, List.map_append, List.map_cons, List.map_nil]
        refine List.nodup_append.2 ⟨h3, by simp, fun a ha c hc he => ?_⟩
        obtain ⟨e1, he1, rfl⟩ := List.mem_map.1 ha
        simp at hc
        have := h4 e1 he1
        omega
      · intro e1 he1
        simp only [Array.toList_push, List.mem_append, List.mem_singleton] at he1
        rcases he1 with he1 | rfl
        · have := h4 e1 he1; omega
        · simp
  · have hn0 := mv_at h2 he
    have he' : es[j]? = some e0 := by simpa using he
    have hm : ∀ k, ((es.modify j fun e => { e with key := key, val := v }).toList)[k]? = (es.toList[k]?).map fun e => if j = k then { e with key := key, val := v } else e := fun k => by
      simp only [Array.toList_modify, List.getElem?_modify]
      split <;> rename_i h <;> simp [h]
    have hborn : (es.modify j fun e => { e with key := key, val := v }).toList.map (·.born) = es.toList.map (·.born) := by
      apply List.ext_getElem?
      intro k
      rw [List.getElem?_map, hm, List.getElem?_map, Option.map_map]
      congr 1
      funext e
      simp only [Function.comp]
      split <;> rfl
    refine OpT.of_skip (w' := { w with heap := w.heap.setIfInBounds b (.map (es.modify j fun e => { e with key := key, val := v }) clock) }) ?_ ⟨kvs.set j (key, v), .inr ⟨j, e0.val, by rw [hn0, hkey], rfl⟩, rfl, ?_⟩
    · simp [execOp, hx, hy, hz, Instr.mapUpdate, run_underlying hu, MapKept.run_getObj_map h1, hc, hf, he', hkey, hst, MapKept.run_setObj_map _ h1, Result.andThen]
    · refine hw.upd (hr _) (grownBy_setMap w b _) (fun k hk => by cases hk; rfl) ⟨_, _, map_set h1, ?_, by rw [hborn]; exact h3, ?_⟩ (fun k hk => .inl hk)
      · apply List.ext_getElem?
        intro k
        have h7 := congrArg (fun l => l[k]?) h2
        simp only [List.getElem?_map] at h7
        rw [List.getElem?_map, hm, Option.map_map]
        by_cases hjk : j = k
        · subst hjk
          have hjl : j < kvs.length := (List.getElem?_eq_some_iff.1 hn0).1
          rw [he, List.getElem?_set_self hjl]; simp
        · rw [List.getElem?_set_ne hjk, ← h7]
          cases es.toList[k]? with
          | none => rfl
          | some e1 => simp [hjk]
      · intro e1 he1
        have h8 : e1.born ∈ es.toList.map (·.born) := by rw [← hborn]; exact List.mem_map_of_mem he1
        obtain ⟨e2, he2, hh⟩ := List.mem_map.1 h8
        have := h4 e2 he2
        omega
end
end Go.K

namespace Go.K
open Go.RowKit
def mk2 (P : Program) (t : TypeId) : Option (TypeId × Nat × Value × Value) :=
  match P.underlying t with
  | some (.slice e) => match P.info? e with
    | some i => match i.zero with
      | some z => if z.cells.size = 2 ∧ i.size = 2 then some (e, i.bytes, z.cells[0]!, z.cells[1]!) else none
      | none => none
    | none => none
  | _ => none
theorem mk2_spec {P : Program} {t e b : Nat} {u v : Value} (h : mk2 P t = some (e, b, u, v)) : ∃ i z, P.underlying t = some (.slice e) ∧ P.info? e = some i ∧ i.zero = some z ∧ i.size = 2 ∧ i.bytes = b ∧ z.cells = #[u, v] := by
  unfold mk2 at h
  split at h
  · rename_i e' hs
    split at h
    · rename_i i hi
      split at h
      · rename_i z hz
        split at h
        · rename_i hc
          simp only [Option.some.injEq, Prod.mk.injEq] at h
          obtain ⟨rfl, rfl, rfl, rfl⟩ := h
          refine ⟨i, z, hs, hi, hz, hc.2, rfl, ?_⟩
          apply Array.ext
          · simp [hc.1]
          · intro j h1 h2
            have hj : j = 0 ∨ j = 1 := by simp at h2; omega
            rcases hj with rfl | rfl <;> simp [hc.1]
        · cases h
      · cases h
    · cases h
  · cases h
theorem made2 (u : Value) (n : Nat) : madeCells #[u, u] n = (List.replicate n u).toArray := by
  apply Array.ext
  · simp [madeCells]
  · intro j h1 h2
    have hj : j % 2 = 0 ∨ j % 2 = 1 := by omega
    rcases hj with h | h <;> simp [madeCells, h]
section
variable {P : Program} {w0 : World} {L L' : List Chunk} {l : List Value} {d : Option Tmp} {ty : TypeId} {ps : String} {af : Array Edge} {g : Option (Nat × Bool)}
theorem mkSlice2 {t e bytes n : Nat} {u : Value} {x y : Operand} (h : mk2 P t = some (e, bytes, u, u)) (hx : ev l x = .int .i64 (n : Int)) (hy : ev l y = .int .i64 (n : Int)) (hb : bytes * n ≤ 281474976710656) (hn : n ≤ 281474976710656) :
    Loud P w0 L ⟨d, .makeSlice t x y, ty, ps, af, g⟩ l (fun _ : Nat => True) (fun b => .slice (some ⟨b, 0, none⟩) n n) (fun b => [blk b e (List.replicate (n * 2) u)]) := fun F w _ hw => by
  obtain ⟨i, z, hs, hi, hz, h1, h2, h3⟩ := mk2_spec h
  refine OpT.of_run (w' := w.alloc (.cells (List.replicate (n * 2) u).toArray e)) ?_ ⟨w.heap.size, trivial, rfl, hw.new e (List.replicate (n * 2) u)⟩
  have hb' : (i.bytes : Int) * (n : Int) ≤ 281474976710656 := by
    rw [h2]
    have : ((bytes * n : Nat) : Int) ≤ 281474976710656 := by omega
    rwa [Int.natCast_mul] at this
  have hr := run_make (P := P) w t e i z hs hi hz .i64 .i64 n n (by omega) (Int.le_refl _) hb' (by omega)
  rw [h3, h1, Int.toNat_natCast, made2] at hr
  simp only [execOp, hx, hy, Sem.run_bind, hr, Sem.run_pure, Result.andThen_ok]
end
theorem rep_int2 {n : Nat} : List.replicate (n * 2) (Value.int .i64 0) = (List.replicate n ((0 : Int), (0 : Int))).flatMap eP := by
  induction n with
  | zero => rfl
  | succ n ih => rw [List.replicate_succ, List.flatMap_cons, ← ih, Nat.succ_mul]; rfl
section
variable {P : Program} {w0 : World} {L L' : List Chunk} {l : List Value} {d : Option Tmp} {ty : TypeId} {ps : String} {af : Array Edge} {g : Option (Nat × Bool)}
def Fd (P : Program) (t : TypeId) (f : Nat) (v v' : Value) : Prop := ∀ w, (Instr.field t v f).run P w = .ok v' w
theorem field {t : TypeId} {f : Nat} {x : Operand} {v' : Value} (h : Fd P t f (ev l x) v') : Pure P ⟨d, .field t x f, ty, ps, af, g⟩ l v' := fun w => by
  have := h w
  simp only [execOp, Sem.run_bind, this, Sem.run_pure, Result.andThen_ok]
theorem slice_lh {E : Type} {M : List Chunk} {t et size c : Nat} {x y z : Operand} {A : Option Addr} {k k' : IntKind} {e : E → List Value} {xs : List E} (m q : Nat) (h : Sl w0 M A size e xs) (hs : sl P t = some (et, size)) (hx : ev l x = .slice A xs.length c) {u v : Int} (hy : ev l y = .int k u) (hz : ev l z = .int k' v) (hu : u = (m : Int)) (hv : v = (q : Int)) (h1 : m ≤ q) (h2 : q ≤ xs.length) (h3 : xs.length ≤ c) :
    ∃ B, Pure P ⟨d, .slice t x (some y) (some z) none, ty, ps, af, g⟩ l (.slice B ((xs.take q).drop m).length (c - m)) ∧ Sl w0 M B size e ((xs.take q).drop m) := by
  subst hu hv
  obtain ⟨hu, he⟩ := elem_sl hs
  obtain ⟨i, _, hi, hn⟩ := sl_spec hs
  refine ⟨if c = m then A else A.map (fun a => a.add (m * size)), fun w => ?_, fun j x hx' => ?_⟩
  · have := run_slice_lh (P := P) w t A xs.length c hu k k' (m : Int) (q : Int) (by omega) (by omega) (by omega)
    simp only [execOp, Option.map_some, Option.map_none, hx, hy, hz, run_sliceAt_slice w t _ _ _ none hu, this, sizeOf, typeInfo, he, hi, hn, Sem.run_bind, run_program, Sem.run_pure, Result.andThen_ok, sliced, Int.toNat_natCast, List.length_drop, List.length_take, Nat.min_eq_left h2]
  · rw [List.getElem?_drop, List.getElem?_take] at hx'
    split at hx'
    · rename_i hlt
      obtain ⟨a, ha, hp⟩ := h _ _ hx'
      subst ha
      refine ⟨a.add (m * size), by rw [if_neg (by omega)]; rfl, ?_⟩
      rw [addr_add_add, ← Nat.add_mul]; exact hp
    · cases hx'
theorem seq_slh {E : Type} {M : List Chunk} {t et size c : Nat} {x y z : Operand} {A : Option Addr} {k k' : IntKind} {e : E → List Value} {xs : List E} {ops : Array Oper} {rest : List Oper} {Q : Exit → Act → World → Prop} (m q : Nat) (h : Sl w0 M A size e xs) (hs : sl P t = some (et, size)) (hx : ev l x = .slice A xs.length c) {u v : Int} (hy : ev l y = .int k u) (hz : ev l z = .int k' v) (hu : u = (m : Int)) (hv : v = (q : Int)) (h1 : m ≤ q) (h2 : q ≤ xs.length) (h3 : xs.length ≤ c)
    (hg : wantL ops.toList l g = true) (kk : ∀ B, Sl w0 M B size e ((xs.take q).drop m) → Hold w0 L (wpList P ops Q rest (fr (setd l d (.slice B ((xs.take q).drop m).length (c - m)))))) :
    Hold w0 L (wpList P ops Q (⟨d, .slice t x (some y) (some z) none, ty, ps, af, g⟩ :: rest) (fr l)) := by
  obtain ⟨B, hp, hB⟩ := slice_lh (d := d) (ty := ty) (ps := ps) (af := af) (g := g) m q h hs hx hy hz hu hv h1 h2 h3
  exact seq_pure hp hg (kk B hB)
end
end Go.K
end
section
set_option linter.unusedSimpArgs false
set_option linter.unusedVariables false
namespace Go.Proofs.Ytfbglomliankmaa.Cv
open Go
section
variable {st kind u v : Int} {ps : List CvT} {s : List Int}
theorem up_ceil {t b : Int} (hb : 1 ≤ b) : t ≤ b * ((t + b - 1) / b) := by
  have h1 := Int.mul_ediv_add_emod (t + b - 1) b
  have h2 := Int.emod_lt_of_pos (t + b - 1) (show 0 < b by omega)
  omega
theorem div_step {a b d c : Int} (hd : 0 < d) (h : a ≤ b + d * c) : a / d ≤ b / d + c := by
  have h1 := Int.ediv_le_ediv hd h
  rwa [Int.add_mul_ediv_left _ _ (by omega)] at h1
theorem cut_step {a b : Int} (hk : 1 ≤ kind ∧ kind ≤ 3) (hp : Sc.Parts u v) (h : a - b ≤ st) : Sc.cutS kind a u v - Sc.cutS kind b u v ≤ (st * u + v - 1) / v := by
  have hv : 1 ≤ v := hp.2.2.1
  have hc := up_ceil (t := st * u) hv
  generalize hC : (st * u + v - 1) / v = C at *
  have hm : (a - b) * u ≤ st * u := Int.mul_le_mul_of_nonneg_right h (by have := hp.1; omega)
  rw [Int.sub_mul] at hm
  rw [← Sc.rnd_cut hk hv, ← Sc.rnd_cut hk hv]
  unfold Sc.rndS
  split
  · have := div_step (a := a * u) (b := b * u) (d := v) (c := C) (by omega) (by omega); omega
  · split
    · have e : 2 * v * C = 2 * (v * C) := by rw [Int.mul_assoc]
      have := div_step (a := 2 * (a * u) + v) (b := 2 * (b * u) + v) (d := 2 * v) (c := C) (by omega) (by omega); omega
    · have := div_step (a := a * u + v - 1) (b := b * u + v - 1) (d := v) (c := C) (by omega) (by omega); omega
def cutP (kind u v : Int) (p : CvT) : CvT := ⟨0, Sc.cutS kind p.lo u v, Sc.cutS kind p.hi u v⟩
def cutR (kind u v : Int) (ps : List CvT) : List CvT := ps.map (cutP kind u v)
theorem cutR_len : (cutR kind u v ps).length = ps.length := by unfold cutR; rw [List.length_map]
theorem cutR_at {i : Nat} (h : i < ps.length) : (cutR kind u v ps).getD i default = cutP kind u v (ps.getD i default) := Sc.getD_map _ _ h
theorem surf_case (g : Good st ps) (h8 : ps.length ≤ 8) (hs : Surf st ps s) (hk : 1 ≤ kind ∧ kind ≤ 3) : Sc.Good kind 0 100000 s [] := by
  have hn := g.n
  refine ⟨hk, by omega, by omega, ⟨by rw [hs.l]; omega, by rw [hs.l]; omega⟩, Nat.zero_le _, fun x hx => ?_, fun x hx => by simp at hx⟩
  obtain ⟨j, hj, rfl⟩ := mem_at hx
  rw [hs.l] at hj
  have h1 := hs.b j hj
  have h2 := g.p j hj
  omega
theorem cut_surf (g : Good st ps) (hs : Surf st ps s) (hk : 1 ≤ kind ∧ kind ≤ 3) (hp : Sc.Parts u v) : Surf ((st * u + v - 1) / v) (cutR kind u v ps) (Sc.cuts kind 0 u v s) := by
  have hat : ∀ i, i < ps.length → (Sc.cuts kind 0 u v s).getD i default = Sc.cutS kind (s.getD i default) u v := fun i hi => by
    rw [Sc.cuts_at (by rw [hs.l]; exact hi)]
    show Sc.cutS kind (s.getD i default - 0) u v = _
    rw [Int.sub_zero]
  have mono : ∀ {x y : Int}, 0 ≤ x → x ≤ y → Sc.cutS kind x u v ≤ Sc.cutS kind y u v := fun h0 h => Sc.cut_mono hk h0 h (by have := hp.1; omega) hp.2.2.1 hp.2.2.1 (Int.le_refl _)
  refine ⟨by rw [Sc.cuts_len, cutR_len, hs.l], fun i hi => ?_, fun i hi => ?_⟩
  · rw [cutR_len] at hi
    rw [cutR_at hi, hat i hi]
    have h1 := hs.b i hi
    have h2 := g.p i hi
    exact ⟨mono (by omega) h1.1, mono (by omega) h1.2⟩
  · rw [cutR_len] at hi
    rw [hat _ hi, hat i (by omega)]
    have h1 := hs.d i hi
    exact ⟨cut_step hk hp h1.1, cut_step hk hp h1.2⟩
theorem top_cut (g : Good st ps) (hs : Surf st ps s) (hk : 1 ≤ kind ∧ kind ≤ 3) (hp : Sc.Parts u v) (hc : (chk ((st * u + v - 1) / v) (cutR kind u v ps)).2.2 = 0) :
    whyR ((st * u + v - 1) / v) (cutR kind u v ps) (Sc.cuts kind 0 u v s) = (0, 0, 0) ∧ bndE ((st * u + v - 1) / v) (cutR kind u v ps) = 0 ∧
    (bndL ((st * u + v - 1) / v) (cutR kind u v ps)).length = (Sc.cuts kind 0 u v s).length ∧
    ∀ j, j < (Sc.cuts kind 0 u v s).length → ((bndL ((st * u + v - 1) / v) (cutR kind u v ps)).getD j default).1 ≤ (Sc.cuts kind 0 u v s).getD j default ∧ (Sc.cuts kind 0 u v s).getD j default ≤ ((bndL ((st * u + v - 1) / v) (cutR kind u v ps)).getD j default).2 := by
  have S := cut_surf g hs hk hp
  have G := chk_good hc
  have B := surf_bnd G S
  refine ⟨surf_whyR G S, B.1, by rw [B.2.1, B.2.2.1, S.l], fun j hj => ?_⟩
  rw [B.2.1]
  exact B.2.2.2 j (by rw [← S.l]; exact hj)
end
end Go.Proofs.Ytfbglomliankmaa.Cv
end
section
set_option linter.unusedSimpArgs false
set_option linter.unusedVariables false
namespace Go.Proofs.Ytfbglomliankmaa.Cv
open Go.RowKit Go
open Go.K (setd setn ev nth over cl eI eP eT setM setF)
attribute [local irreducible] K.blk K.row

set_option maxRecDepth 100000 in
theorem c44 {st : Int} {ps : List CvT} {s : List Int} {A B : Option Addr} {c d : Nat} {w : World} (hR : K.Rd w A 3 eC ps) (hS : K.Rd w B 1 K.eI s) (g : Good st ps) (hl : s.length = ps.length) (hb : ∀ x ∈ s, 0 ≤ x ∧ x ≤ 9000) :
    Calls Try.prog 44 [.agg #[.int .i64 st, .slice A ps.length c], .slice B s.length d].toArray w (K.Gives (.tuple #[.agg #[.int .i64 st, .slice A ps.length c], .int .i64 0]) w) := by
  have hgs := g.s
  have hgn := g.n
  refine K.enter (args := [.agg #[.int .i64 st, .slice A ps.length c], .slice B s.length d]) Try.func44 rfl (n := 28) rfl ?_
  simp only [List.replicate, List.cons_append, List.nil_append]
  refine K.seq ?_
  refine K.region_lit ?_
  refine K.seq_new (K.box) rfl ?_
  intro b2
  try dsimp only [setd, setn, ev, nth, over, cl, eI, eP, eT, eC, List.map, List.append, List.drop, List.take]
  refine K.seq_new (K.alloc zr_103) rfl ?_
  intro b4
  try dsimp only [setd, setn, ev, nth, over, cl, eI, eP, eT, eC, List.map, List.append, List.drop, List.take]
  refine K.seq_pure (K.assign) rfl ?_
  dsimp only [setd, setn, ev, nth]
  refine K.seq_nil ?_
  refine K.norm_then ?_
  refine K.seq ?_
  refine K.seq ?_
  refine K.region_lit ?_
  refine K.seq_sil (K.loadA_own ag_24 rfl (K.m1) rfl) rfl ?_
  try dsimp only [setd, setn, ev, nth, over, cl, eI, eP, eT, eC, List.map, List.append, List.drop, List.take]
  refine K.seq_call (K.call_g cal_46 (fun F w hF hw => c46 (hR.pass hw) g)) rfl ?_
  try dsimp only [setd, setn, ev, nth, over, cl, eI, eP, eT, eC, List.map, List.append, List.drop, List.take]
  refine K.seq_pure (K.move) rfl ?_
  dsimp only [setd, setn, ev, nth]
  refine K.seq_pure (K.extract rfl rfl) rfl ?_
  dsimp only [setd, setn, ev, nth]
  refine K.seq_pure (K.extract rfl rfl) rfl ?_
  dsimp only [setd, setn, ev, nth]
  refine K.seq_pure (K.extract rfl rfl) rfl ?_
  dsimp only [setd, setn, ev, nth]
  refine K.seq_pure (K.assign) rfl ?_
  dsimp only [setd, setn, ev, nth]
  refine K.seq_nil ?_
  refine K.norm_then ?_
  refine K.seq ?_
  refine K.region_lit ?_
  refine K.seq_pure (K.move) rfl ?_
  dsimp only [setd, setn, ev, nth]
  refine K.seq_pure (K.Pure.eq (K.neq rfl rfl) (show _ = Value.bool false from congrArg Value.bool (decide_eq_false (fun h => h rfl)))) rfl ?_
  dsimp only [setd, setn, ev, nth]
  refine K.seq_nil ?_
  refine K.norm_then ?_
  refine K.cond_false rfl ?_
  refine K.skip ?_
  refine K.norm_then ?_
  refine K.seq ?_
  refine K.block ?_
  refine K.seq ?_
  refine K.region_lit ?_
  refine K.seq_pure (K.move) rfl ?_
  dsimp only [setd, setn, ev, nth]
  refine K.seq_pure (K.len_sl sl_31 rfl) rfl ?_
  dsimp only [setd, setn, ev, nth]
  refine K.seq_pure (K.fieldAddr_lit fo_24_1 rfl) rfl ?_
  dsimp only [setd, setn, ev, nth]
  refine K.seq_sil (K.load1_own one_22 rfl (K.m1) rfl) rfl ?_
  try dsimp only [setd, setn, ev, nth, over, cl, eI, eP, eT, eC, List.map, List.append, List.drop, List.take]
  refine K.seq_pure (K.len_sl sl_22 rfl) rfl ?_
  dsimp only [setd, setn, ev, nth]
  refine K.seq_pure (K.Pure.eq (K.neq rfl rfl) (show _ = Value.bool false from congrArg Value.bool (decide_eq_false (by omega)))) rfl ?_
  dsimp only [setd, setn, ev, nth]
  refine K.seq_pure (K.assign) rfl ?_
  dsimp only [setd, setn, ev, nth]
  refine K.seq_nil ?_
  refine K.norm_then ?_
  refine K.cond_false rfl ?_
  refine K.seq ?_
  refine K.region_lit ?_
  refine K.seq_pure (K.move) rfl ?_
  dsimp only [setd, setn, ev, nth]
  refine K.seq_call (K.call_g cal_45 (fun F w hF hw => (by have hg := c45 (lo := 0) (hi := 9000) (c := d) (hS.pass hw) (by omega); rw [outB_f hb] at hg; exact hg))) rfl ?_
  try dsimp only [setd, setn, ev, nth, over, cl, eI, eP, eT, eC, List.map, List.append, List.drop, List.take]
  refine K.seq_pure (K.assign) rfl ?_
  dsimp only [setd, setn, ev, nth]
  refine K.seq_nil ?_
  refine K.norm_then ?_
  refine K.cond_false rfl ?_
  refine K.skip ?_
  refine K.norm_block ?_
  refine K.norm_then ?_
  refine K.seq ?_
  refine K.region_lit ?_
  refine K.seq_sil (K.loadA_own ag_24 rfl (K.m1) rfl) rfl ?_
  try dsimp only [setd, setn, ev, nth, over, cl, eI, eP, eT, eC, List.map, List.append, List.drop, List.take]
  refine K.seq_pure (K.build (bl103 _ _ _ _)) rfl ?_
  try dsimp only [setd, setn, ev, nth, over, cl, eI, eP, eT, eC, List.map, List.append, List.drop, List.take]
  refine K.seq_st (K.store_all sz_103 rfl rfl rfl rfl (K.rp0)) rfl ?_
  try dsimp only [setd, setn, ev, nth, over, cl, eI, eP, eT, eC, List.map, List.append, List.drop, List.take]
  refine K.seq_pure (K.assign) rfl ?_
  dsimp only [setd, setn, ev, nth]
  refine K.seq_nil ?_
  refine K.norm_then ?_
  refine K.ret ?_
  refine K.end_ret (fun w hw => K.res_ct rfl rfl (K.run_cellA ag_103 rfl (K.m0) rfl w hw)) ?_
  exact K.gives rfl

set_option maxRecDepth 100000 in
theorem c12 {st : Int} {ps : List CvT} {s : List Int} {A B : Option Addr} {c d : Nat} {w : World} (hR : K.Rd w A 3 eC ps) (hS : K.Rd w B 1 K.eI s) (g : Good st ps) (hl : s.length = ps.length) (hb : ∀ x ∈ s, 0 ≤ x ∧ x ≤ 9000) :
    Calls Try.prog 12 [.agg #[.int .i64 st, .slice A ps.length c], .slice B s.length d].toArray w (K.Gives (.tuple #[.int .i64 (fwy st ps s).1, .int .i64 (fwy st ps s).2, .int .i64 0]) w) := by
  have hgs := g.s
  have hgn := g.n
  refine K.enter (args := [.agg #[.int .i64 st, .slice A ps.length c], .slice B s.length d]) Try.func12 rfl (n := 65) rfl ?_
  simp only [List.replicate, List.cons_append, List.nil_append]
  refine K.seq ?_
  refine K.region_lit ?_
  refine K.seq_new (K.box) rfl ?_
  intro b2
  try dsimp only [setd, setn, ev, nth, over, cl, eI, eP, eT, eC, List.map, List.append, List.drop, List.take]
  refine K.seq_pure (K.assign) rfl ?_
  dsimp only [setd, setn, ev, nth]
  refine K.seq_pure (K.assign) rfl ?_
  dsimp only [setd, setn, ev, nth]
  refine K.seq_pure (K.assign) rfl ?_
  dsimp only [setd, setn, ev, nth]
  refine K.seq_nil ?_
  refine K.norm_then ?_
  refine K.seq ?_
  refine K.region_lit ?_
  refine K.seq_sil (K.loadA_own ag_24 rfl (K.m0) rfl) rfl ?_
  try dsimp only [setd, setn, ev, nth, over, cl, eI, eP, eT, eC, List.map, List.append, List.drop, List.take]
  refine K.seq_pure (K.move) rfl ?_
  dsimp only [setd, setn, ev, nth]
  refine K.seq_call (K.call_g cal_44 (fun F w hF hw => c44 (hR.pass hw) (hS.pass hw) g hl hb)) rfl ?_
  try dsimp only [setd, setn, ev, nth, over, cl, eI, eP, eT, eC, List.map, List.append, List.drop, List.take]
  refine K.seq_pure (K.move) rfl ?_
  dsimp only [setd, setn, ev, nth]
  refine K.seq_pure (K.extract rfl rfl) rfl ?_
  dsimp only [setd, setn, ev, nth]
  refine K.seq_pure (K.extract rfl rfl) rfl ?_
  dsimp only [setd, setn, ev, nth]
  refine K.seq_new (K.alloc zr_103) rfl ?_
  intro b7
  try dsimp only [setd, setn, ev, nth, over, cl, eI, eP, eT, eC, List.map, List.append, List.drop, List.take]
  refine K.seq_st (K.store_all sz_103 rfl rfl rfl rfl (K.rp0)) rfl ?_
  try dsimp only [setd, setn, ev, nth, over, cl, eI, eP, eT, eC, List.map, List.append, List.drop, List.take]
  refine K.seq_pure (K.assign) rfl ?_
  dsimp only [setd, setn, ev, nth]
  refine K.seq_nil ?_
  refine K.norm_then ?_
  refine K.seq ?_
  refine K.seq ?_
  refine K.region_lit ?_
  refine K.seq_pure (K.move) rfl ?_
  dsimp only [setd, setn, ev, nth]
  refine K.seq_pure (K.Pure.eq (K.neq rfl rfl) (show _ = Value.bool false from congrArg Value.bool (decide_eq_false (fun h => h rfl)))) rfl ?_
  dsimp only [setd, setn, ev, nth]
  refine K.seq_nil ?_
  refine K.norm_then ?_
  refine K.cond_false rfl ?_
  refine K.skip ?_
  refine K.norm_then ?_
  refine K.seq ?_
  refine K.seq ?_
  refine K.region_lit ?_
  refine K.seq_pure (K.fieldAddr_lit fo_103_0 rfl) rfl ?_
  dsimp only [setd, setn, ev, nth]
  refine K.seq_pure (K.fieldAddr_lit fo_24_1 rfl) rfl ?_
  dsimp only [setd, setn, ev, nth]
  refine K.seq_sil (K.load1_own one_22 rfl (K.m0) rfl) rfl ?_
  try dsimp only [setd, setn, ev, nth, over, cl, eI, eP, eT, eC, List.map, List.append, List.drop, List.take]
  refine K.seq_pure (K.len_sl sl_22 rfl) rfl ?_
  dsimp only [setd, setn, ev, nth]
  refine K.seq_pure (K.move) rfl ?_
  dsimp only [setd, setn, ev, nth]
  refine K.seq_nil ?_
  refine K.norm_then ?_
  refine K.block ?_
  refine K.loopW [24] [4, 5, 6, 8, 9, 10, 25, 26, 27, 28, 29, 30, 31, 32, 33, 34, 35, 36, 37, 38, 39, 40, 41, 42, 43, 44, 45, 46, 47, 48, 49, 50, 51, 52, 53, 54, 55, 56, 57, 58, 59, 60, 61, 62, 63, 64, 65, 66] (fun vi L => ∃ k : Nat, vi = [.int .i64 (k : Int)] ∧ L = [K.blk b7 103 [.int .i64 st, .slice A ps.length c], K.blk b2 24 [.int .i64 st, .slice A ps.length c]] ∧ k ≤ ps.length ∧ ∀ j, j < k → wrg st ps s j = 0) (fun vi => ps.length - (intOf (K.nth vi 0)).toNat) ?_ ?_
  · exact ⟨0, rfl, rfl, Nat.zero_le _, fun j hj => absurd hj (Nat.not_lt_zero j)⟩
  intro vi vr L hJ
  obtain ⟨k, rfl, rfl, hkn, hall⟩ := hJ
  try dsimp only [setd, setn, ev, nth, over, cl, eI, eP, eT, eC, setM, setF, List.map, List.append, List.drop, List.take]
  refine K.seq ?_
  refine K.weak (List.Sublist.refl _) ?_
  refine K.region_lit ?_
  refine K.seq_pure (K.lss rfl rfl) rfl ?_
  dsimp only [setd, setn, ev, nth]
  refine K.seq_nil ?_
  refine K.norm_then ?_
  refine K.seq ?_
  refine K.cond rfl (fun ht25 => ?_) (fun ht25 => ?_)
  · try replace ht25 := of_decide_eq_true ht25
    have hk : k < ps.length := by omega
    have hpk := g.p k hk
    have hsk := hb _ (K.gt_mem (xs := s) (k := k) (by omega))
    refine K.skip ?_
    refine K.norm_then ?_
    refine K.seq ?_
    refine K.block ?_
    refine K.seq ?_
    refine K.region_lit ?_
    refine K.seq_pure (K.move) rfl ?_
    dsimp only [setd, setn, ev, nth]
    refine K.seq_ix (M := []) _ hR.sl sl_22 rfl rfl rfl (by omega) rfl ?_
    intro p27 hp27
    try dsimp only [setd, setn, ev, nth, over, cl, eI, eP, eT, eC, List.map, List.append, List.drop, List.take]
    refine K.seq_sil (K.loadA_p ag_45 rfl (hp27.any) rfl) rfl ?_
    try dsimp only [setd, setn, ev, nth, over, cl, eI, eP, eT, eC, List.map, List.append, List.drop, List.take]
    refine K.seq_new (K.alloc zr_45) rfl ?_
    intro b9
    try dsimp only [setd, setn, ev, nth, over, cl, eI, eP, eT, eC, List.map, List.append, List.drop, List.take]
    refine K.seq_pure (K.assign) rfl ?_
    dsimp only [setd, setn, ev, nth]
    refine K.seq_st (K.store_all sz_45 rfl rfl rfl rfl (K.rp0)) rfl ?_
    try dsimp only [setd, setn, ev, nth, over, cl, eI, eP, eT, eC, List.map, List.append, List.drop, List.take]
    refine K.seq_nil ?_
    refine K.norm_then ?_
    refine K.seq ?_
    refine K.region_lit ?_
    refine K.seq_pure (K.move) rfl ?_
    dsimp only [setd, setn, ev, nth]
    refine K.seq_pure (K.move) rfl ?_
    dsimp only [setd, setn, ev, nth]
    refine K.seq_ix (M := []) _ hS.sl sl_31 rfl rfl rfl (by omega) rfl ?_
    intro p31 hp31
    try dsimp only [setd, setn, ev, nth, over, cl, eI, eP, eT, eC, List.map, List.append, List.drop, List.take]
    refine K.seq_sil (K.load1 one_3 rfl (hp31.any)) rfl ?_
    try dsimp only [setd, setn, ev, nth, over, cl, eI, eP, eT, eC, List.map, List.append, List.drop, List.take]
    refine K.seq_pure (K.assign) rfl ?_
    dsimp only [setd, setn, ev, nth]
    refine K.seq_nil ?_
    refine K.norm_then ?_
    refine K.block ?_
    refine K.seq ?_
    refine K.region_lit ?_
    refine K.seq_pure (K.move) rfl ?_
    dsimp only [setd, setn, ev, nth]
    refine K.seq_pure (K.fieldAddr_lit fo_45_1 rfl) rfl ?_
    dsimp only [setd, setn, ev, nth]
    refine K.seq_sil (K.load1_own one_3 rfl (K.m0) rfl) rfl ?_
    try dsimp only [setd, setn, ev, nth, over, cl, eI, eP, eT, eC, List.map, List.append, List.drop, List.take]
    refine K.seq_pure (K.lss rfl rfl) rfl ?_
    dsimp only [setd, setn, ev, nth]
    refine K.seq_pure (K.assign) rfl ?_
    dsimp only [setd, setn, ev, nth]
    refine K.seq_nil ?_
    refine K.norm_then ?_
    refine K.cond rfl (fun ht33 => ?_) (fun ht33 => ?_)
    · try replace ht33 := of_decide_eq_true ht33
      refine K.seq ?_
      refine K.region_lit ?_
      refine K.seq_pure (K.move) rfl ?_
      dsimp only [setd, setn, ev, nth]
      refine K.seq_pure (K.assign) rfl ?_
      dsimp only [setd, setn, ev, nth]
      refine K.seq_pure (K.assign) rfl ?_
      dsimp only [setd, setn, ev, nth]
      refine K.seq_pure (K.assign) rfl ?_
      dsimp only [setd, setn, ev, nth]
      refine K.seq_nil ?_
      refine K.norm_then ?_
      refine K.ret ?_
      refine K.ret_block ?_
      refine K.ret_block ?_
      refine K.ret_then ?_
      refine K.ret_then ?_
      refine K.ret_block ?_
      refine K.ret_then ?_
      refine K.end_ret (fun w _ => K.res_ttt rfl w) ?_
      have hv : wrg st ps s k = 1 := wrg_1 ht33
      exact K.gives (by rw [fwy_found (by omega) hall (by rw [hv]; decide), hv]; rfl)
    try replace ht33 := of_decide_eq_false ht33
    refine K.seq ?_
    refine K.region_lit ?_
    refine K.seq_pure (K.move) rfl ?_
    dsimp only [setd, setn, ev, nth]
    refine K.seq_pure (K.fieldAddr_lit fo_45_2 rfl) rfl ?_
    dsimp only [setd, setn, ev, nth]
    refine K.seq_sil (K.load1_own one_3 rfl (K.m0) rfl) rfl ?_
    try dsimp only [setd, setn, ev, nth, over, cl, eI, eP, eT, eC, List.map, List.append, List.drop, List.take]
    refine K.seq_pure (K.gtr rfl rfl) rfl ?_
    dsimp only [setd, setn, ev, nth]
    refine K.seq_pure (K.assign) rfl ?_
    dsimp only [setd, setn, ev, nth]
    refine K.seq_nil ?_
    refine K.norm_then ?_
    refine K.cond rfl (fun ht39 => ?_) (fun ht39 => ?_)
    · try replace ht39 := of_decide_eq_true ht39
      refine K.seq ?_
      refine K.region_lit ?_
      refine K.seq_pure (K.move) rfl ?_
      dsimp only [setd, setn, ev, nth]
      refine K.seq_pure (K.assign) rfl ?_
      dsimp only [setd, setn, ev, nth]
      refine K.seq_pure (K.assign) rfl ?_
      dsimp only [setd, setn, ev, nth]
      refine K.seq_pure (K.assign) rfl ?_
      dsimp only [setd, setn, ev, nth]
      refine K.seq_nil ?_
      refine K.norm_then ?_
      refine K.ret ?_
      refine K.ret_block ?_
      refine K.ret_block ?_
      refine K.ret_then ?_
      refine K.ret_then ?_
      refine K.ret_block ?_
      refine K.ret_then ?_
      refine K.end_ret (fun w _ => K.res_ttt rfl w) ?_
      have hv : wrg st ps s k = 2 := wrg_2 ht33 ht39
      exact K.gives (by rw [fwy_found (by omega) hall (by rw [hv]; decide), hv]; rfl)
    try replace ht39 := of_decide_eq_false ht39
    refine K.seq ?_
    refine K.draw_L [] Try_mixed ?_
    refine K.d_pure 0 rfl (K.move) (by kernel_rfl) rfl ?_
    dsimp only [setd, setn, ev, nth]
    refine K.d_pure 1 rfl (K.gtr rfl rfl) (by kernel_rfl) rfl ?_
    dsimp only [setd, setn, ev, nth]
    refine K.d_pure 2 rfl (K.move) (by kernel_rfl) rfl ?_
    dsimp only [setd, setn, ev, nth]
    refine K.dsplit 48 rfl (fun hg48 => ?_) (fun hg48 => ?_)
    · try replace hg48 := of_decide_eq_true hg48
      have hsj := hb _ (K.gt_mem (xs := s) (k := k - 1) (by omega))
      refine K.d_pure 3 rfl (K.move) (by kernel_rfl) rfl ?_
      dsimp only [setd, setn, ev, nth]
      refine K.d_pure 4 rfl (K.fieldAddr_lit fo_24_0 rfl) (by kernel_rfl) rfl ?_
      dsimp only [setd, setn, ev, nth]
      refine K.d_mem 5 rfl (K.load1_own one_3 rfl (K.m2) rfl) (fun _ h => h) (by kernel_rfl) (by kernel_rfl) rfl ?_
      try dsimp only [setd, setn, ev, nth, over, cl, eI, eP, eT, eC, List.map, List.append, List.drop, List.take]
      refine K.d_pure 6 rfl (K.sub_i64 rfl rfl (by omega)) (by kernel_rfl) rfl ?_
      dsimp only [setd, setn, ev, nth]
      refine K.d_pure 7 rfl (K.move) (by kernel_rfl) rfl ?_
      dsimp only [setd, setn, ev, nth]
      refine K.d_pure 8 rfl (K.fieldAddr_lit fo_24_0 rfl) (by kernel_rfl) rfl ?_
      dsimp only [setd, setn, ev, nth]
      refine K.d_mem 9 rfl (K.load1_own one_3 rfl (K.m2) rfl) (fun _ h => h) (by kernel_rfl) (by kernel_rfl) rfl ?_
      try dsimp only [setd, setn, ev, nth, over, cl, eI, eP, eT, eC, List.map, List.append, List.drop, List.take]
      refine K.d_pure 10 rfl (K.add_i64 rfl rfl (by omega)) (by kernel_rfl) rfl ?_
      dsimp only [setd, setn, ev, nth]
      refine K.d_pure 11 rfl (K.move) (by kernel_rfl) rfl ?_
      dsimp only [setd, setn, ev, nth]
      refine K.d_pure 12 rfl (K.move) (by kernel_rfl) rfl ?_
      dsimp only [setd, setn, ev, nth]
      refine K.d_pure 13 rfl (K.sub_i64 rfl rfl (by omega)) (by kernel_rfl) rfl ?_
      dsimp only [setd, setn, ev, nth]
      refine K.d_ix (M := []) 14 (k - 1) rfl hS.sl sl_31 rfl rfl (by omega) (by omega) (by kernel_rfl) rfl ?_
      intro p60 hp60
      try dsimp only [setd, setn, ev, nth, over, cl, eI, eP, eT, eC, List.map, List.append, List.drop, List.take]
      refine K.d_mem 15 rfl (K.load1 one_3 rfl (hp60.any)) (fun _ h => h) (by kernel_rfl) (by kernel_rfl) rfl ?_
      try dsimp only [setd, setn, ev, nth, over, cl, eI, eP, eT, eC, List.map, List.append, List.drop, List.take]
      refine K.d_new 16 rfl (K.buildSlice (bs1 _)) (fun _ h => h) (by kernel_rfl) rfl ?_
      intro b62
      try dsimp only [setd, setn, ev, nth, over, cl, eI, eP, eT, eC, List.map, List.append, List.drop, List.take]
      refine K.d_call 17 rfl (K.call_g cal_45 (fun F w hF hw => c45_1 hw (hF _ (K.m0)))) (fun _ h => K.tl h) (by kernel_rfl) rfl ?_
      try dsimp only [setd, setn, ev, nth, over, cl, eI, eP, eT, eC, List.map, List.append, List.drop, List.take]
      refine K.d_pure 18 rfl (K.pick_t rfl) (by kernel_rfl) rfl ?_
      dsimp only [setd, setn, ev, nth]
      refine K.d_pure 19 rfl (K.assign) (by kernel_rfl) rfl ?_
      dsimp only [setd, setn, ev, nth]
      refine K.d_done (by kernel_rfl) ?_
      refine K.norm_then ?_
      refine K.cond rfl (fun ht45 => ?_) (fun ht45 => ?_)
      · try replace ht45 := of_decide_eq_true ht45
        refine K.seq ?_
        refine K.region_lit ?_
        refine K.seq_pure (K.move) rfl ?_
        dsimp only [setd, setn, ev, nth]
        refine K.seq_pure (K.assign) rfl ?_
        dsimp only [setd, setn, ev, nth]
        refine K.seq_pure (K.assign) rfl ?_
        dsimp only [setd, setn, ev, nth]
        refine K.seq_pure (K.assign) rfl ?_
        dsimp only [setd, setn, ev, nth]
        refine K.seq_nil ?_
        refine K.norm_then ?_
        refine K.ret ?_
        refine K.ret_block ?_
        refine K.ret_block ?_
        refine K.ret_then ?_
        refine K.ret_then ?_
        refine K.ret_block ?_
        refine K.ret_then ?_
        refine K.end_ret (fun w _ => K.res_ttt rfl w) ?_
        have hv : wrg st ps s k = 3 := wrg_3 ht33 ht39 (by omega)
        exact K.gives (by rw [fwy_found (by omega) hall (by rw [hv]; decide), hv]; rfl)
      try replace ht45 := of_decide_eq_false ht45
      refine K.skip ?_
      refine K.norm_block ?_
      refine K.norm_block ?_
      refine K.norm_then ?_
      refine K.region_lit ?_
      refine K.seq_pure (K.add_i64 rfl rfl (by omega)) rfl ?_
      dsimp only [setd, setn, ev, nth]
      refine K.seq_pure (K.move) rfl ?_
      dsimp only [setd, setn, ev, nth]
      refine K.seq_nil ?_
      have hz : wrg st ps s k = 0 := wrg_00 ht33 ht39 (fun h => by first | omega | exact ht45 (by omega))
      exact K.round_endW (L'' := [K.blk b7 103 [.int .i64 st, .slice A ps.length c], K.blk b2 24 [.int .i64 st, .slice A ps.length c]]) [.int .i64 ((k : Int) + 1)] ⟨k + 1, rfl, rfl, by omega, K.lt_succ_case hall hz⟩ (by simp [K.nth, intOf]; omega) (List.Sublist.cons _ (List.Sublist.cons _ (List.Sublist.refl _))) (by kernel_rfl)
    try replace hg48 := of_decide_eq_false hg48
    refine K.d_skip 3 rfl (by kernel_rfl) rfl ?_
    try dsimp only [setd, setn, ev, nth, over, cl, eI, eP, eT, eC, List.map, List.append, List.drop, List.take]
    refine K.d_skip 4 rfl (by kernel_rfl) rfl ?_
    try dsimp only [setd, setn, ev, nth, over, cl, eI, eP, eT, eC, List.map, List.append, List.drop, List.take]
    refine K.d_skip 5 rfl (by kernel_rfl) rfl ?_
    try dsimp only [setd, setn, ev, nth, over, cl, eI, eP, eT, eC, List.map, List.append, List.drop, List.take]
    refine K.d_skip 6 rfl (by kernel_rfl) rfl ?_
    try dsimp only [setd, setn, ev, nth, over, cl, eI, eP, eT, eC, List.map, List.append, List.drop, List.take]
    refine K.d_skip 7 rfl (by kernel_rfl) rfl ?_
    try dsimp only [setd, setn, ev, nth, over, cl, eI, eP, eT, eC, List.map, List.append, List.drop, List.take]
    refine K.d_skip 8 rfl (by kernel_rfl) rfl ?_
    try dsimp only [setd, setn, ev, nth, over, cl, eI, eP, eT, eC, List.map, List.append, List.drop, List.take]
    refine K.d_skip 9 rfl (by kernel_rfl) rfl ?_
    try dsimp only [setd, setn, ev, nth, over, cl, eI, eP, eT, eC, List.map, List.append, List.drop, List.take]
    refine K.d_skip 10 rfl (by kernel_rfl) rfl ?_
    try dsimp only [setd, setn, ev, nth, over, cl, eI, eP, eT, eC, List.map, List.append, List.drop, List.take]
    refine K.d_skip 11 rfl (by kernel_rfl) rfl ?_
    try dsimp only [setd, setn, ev, nth, over, cl, eI, eP, eT, eC, List.map, List.append, List.drop, List.take]
    refine K.d_skip 12 rfl (by kernel_rfl) rfl ?_
    try dsimp only [setd, setn, ev, nth, over, cl, eI, eP, eT, eC, List.map, List.append, List.drop, List.take]
    refine K.d_skip 13 rfl (by kernel_rfl) rfl ?_
    try dsimp only [setd, setn, ev, nth, over, cl, eI, eP, eT, eC, List.map, List.append, List.drop, List.take]
    refine K.d_skip 14 rfl (by kernel_rfl) rfl ?_
    try dsimp only [setd, setn, ev, nth, over, cl, eI, eP, eT, eC, List.map, List.append, List.drop, List.take]
    refine K.d_skip 15 rfl (by kernel_rfl) rfl ?_
    try dsimp only [setd, setn, ev, nth, over, cl, eI, eP, eT, eC, List.map, List.append, List.drop, List.take]
    refine K.d_skip 16 rfl (by kernel_rfl) rfl ?_
    try dsimp only [setd, setn, ev, nth, over, cl, eI, eP, eT, eC, List.map, List.append, List.drop, List.take]
    refine K.d_skip 17 rfl (by kernel_rfl) rfl ?_
    try dsimp only [setd, setn, ev, nth, over, cl, eI, eP, eT, eC, List.map, List.append, List.drop, List.take]
    refine K.d_pure 18 rfl (K.pick_f rfl) (by kernel_rfl) rfl ?_
    dsimp only [setd, setn, ev, nth]
    refine K.d_pure 19 rfl (K.assign) (by kernel_rfl) rfl ?_
    dsimp only [setd, setn, ev, nth]
    refine K.d_done (by kernel_rfl) ?_
    refine K.norm_then ?_
    refine K.cond_false rfl ?_
    refine K.skip ?_
    refine K.norm_block ?_
    refine K.norm_block ?_
    refine K.norm_then ?_
    refine K.region_lit ?_
    refine K.seq_pure (K.add_i64 rfl rfl (by omega)) rfl ?_
    dsimp only [setd, setn, ev, nth]
    refine K.seq_pure (K.move) rfl ?_
    dsimp only [setd, setn, ev, nth]
    refine K.seq_nil ?_
    have hz : wrg st ps s k = 0 := wrg_00 ht33 ht39 (fun h => by first | omega | exact ht45 (by omega))
    exact K.round_endW (L'' := [K.blk b7 103 [.int .i64 st, .slice A ps.length c], K.blk b2 24 [.int .i64 st, .slice A ps.length c]]) [.int .i64 ((k : Int) + 1)] ⟨k + 1, rfl, rfl, by omega, K.lt_succ_case hall hz⟩ (by simp [K.nth, intOf]; omega) (List.Sublist.cons _ (List.Sublist.refl _)) (by kernel_rfl)
  try replace ht25 := of_decide_eq_false ht25
  refine K.exit ?_
  refine K.exit_then ?_
  refine K.exit_then ?_
  refine K.exit_here ?_
  refine K.norm_then ?_
  refine K.seq ?_
  refine K.region_lit ?_
  refine K.seq_pure (K.assign) rfl ?_
  dsimp only [setd, setn, ev, nth]
  refine K.seq_pure (K.assign) rfl ?_
  dsimp only [setd, setn, ev, nth]
  refine K.seq_pure (K.assign) rfl ?_
  dsimp only [setd, setn, ev, nth]
  refine K.seq_nil ?_
  refine K.norm_then ?_
  refine K.ret ?_
  refine K.end_ret (fun w _ => K.res_ttt rfl w) ?_
  exact K.gives (by rw [fwy_none (fun j hj => hall j (by omega))]; rfl)

set_option maxRecDepth 100000 in
set_option maxHeartbeats 1000000 in
theorem c4 {st : Int} {ps : List CvT} {A : Option Addr} {c : Nat} {w : World} (hR : K.Rd w A 3 eC ps) (hn : ps.length ≤ 4611686018427387904) :
    Calls Try.prog 4 [.agg #[.int .i64 st, .slice A ps.length c]].toArray w (K.Gives (K.tup3 (chk st ps)) w) := by
  refine K.enter (args := [.agg #[.int .i64 st, .slice A ps.length c]]) Try.func4 rfl (n := 54) rfl ?_
  simp only [List.replicate, List.cons_append, List.nil_append]
  refine K.seq ?_
  refine K.region_lit ?_
  refine K.seq_new (K.box) rfl ?_
  intro b1
  try dsimp only [setd, setn, ev, nth, over, cl, eI, eP, eT, eC, List.map, List.append, List.drop, List.take]
  refine K.seq_pure (K.assign) rfl ?_
  dsimp only [setd, setn, ev, nth]
  refine K.seq_pure (K.assign) rfl ?_
  dsimp only [setd, setn, ev, nth]
  refine K.seq_pure (K.assign) rfl ?_
  dsimp only [setd, setn, ev, nth]
  refine K.seq_nil ?_
  refine K.norm_then ?_
  refine K.seq ?_
  refine K.seq ?_
  refine K.region_lit ?_
  refine K.seq_pure (K.fieldAddr_lit fo_24_0 rfl) rfl ?_
  dsimp only [setd, setn, ev, nth]
  refine K.seq_sil (K.load1_own one_3 rfl (K.m0) rfl) rfl ?_
  try dsimp only [setd, setn, ev, nth, over, cl, eI, eP, eT, eC, List.map, List.append, List.drop, List.take]
  refine K.seq_call (K.call_g cal_14 (fun F w hF hw => c14 w)) rfl ?_
  try dsimp only [setd, setn, ev, nth, over, cl, eI, eP, eT, eC, List.map, List.append, List.drop, List.take]
  first | refine K.seq_pure (K.not_d rfl) rfl ?_ | refine K.seq_pure (K.not_ rfl) rfl ?_
  try dsimp only [setd, setn, ev, nth, over, cl, eI, eP, eT, eC, List.map, List.append, List.drop, List.take]
  refine K.seq_nil ?_
  refine K.norm_then ?_
  refine K.cond rfl (fun ht10 => ?_) (fun ht10 => ?_)
  · try replace ht10 := of_decide_eq_true ht10
    refine K.seq ?_
    refine K.region_lit ?_
    refine K.seq_pure (K.assign) rfl ?_
    dsimp only [setd, setn, ev, nth]
    refine K.seq_pure (K.assign) rfl ?_
    dsimp only [setd, setn, ev, nth]
    refine K.seq_pure (K.assign) rfl ?_
    dsimp only [setd, setn, ev, nth]
    refine K.seq_nil ?_
    refine K.norm_then ?_
    refine K.ret ?_
    refine K.ret_then ?_
    refine K.end_ret (fun w _ => K.res_ttt rfl w) ?_
    exact K.gives (by rw [chk_1 (by omega)]; rfl)
  try replace ht10 := of_decide_eq_false ht10
  refine K.skip ?_
  refine K.norm_then ?_
  refine K.seq ?_
  refine K.seq ?_
  refine K.region_lit ?_
  refine K.seq_pure (K.fieldAddr_lit fo_24_1 rfl) rfl ?_
  dsimp only [setd, setn, ev, nth]
  refine K.seq_sil (K.load1_own one_22 rfl (K.m0) rfl) rfl ?_
  try dsimp only [setd, setn, ev, nth, over, cl, eI, eP, eT, eC, List.map, List.append, List.drop, List.take]
  refine K.seq_pure (K.len_sl sl_22 rfl) rfl ?_
  dsimp only [setd, setn, ev, nth]
  refine K.seq_call (K.call_g cal_14 (fun F w hF hw => c14 w)) rfl ?_
  try dsimp only [setd, setn, ev, nth, over, cl, eI, eP, eT, eC, List.map, List.append, List.drop, List.take]
  first | refine K.seq_pure (K.not_d rfl) rfl ?_ | refine K.seq_pure (K.not_ rfl) rfl ?_
  try dsimp only [setd, setn, ev, nth, over, cl, eI, eP, eT, eC, List.map, List.append, List.drop, List.take]
  refine K.seq_nil ?_
  refine K.norm_then ?_
  refine K.cond rfl (fun ht15 => ?_) (fun ht15 => ?_)
  · try replace ht15 := of_decide_eq_true ht15
    refine K.seq ?_
    refine K.region_lit ?_
    refine K.seq_pure (K.assign) rfl ?_
    dsimp only [setd, setn, ev, nth]
    refine K.seq_pure (K.assign) rfl ?_
    dsimp only [setd, setn, ev, nth]
    refine K.seq_pure (K.assign) rfl ?_
    dsimp only [setd, setn, ev, nth]
    refine K.seq_nil ?_
    refine K.norm_then ?_
    refine K.ret ?_
    refine K.ret_then ?_
    refine K.end_ret (fun w _ => K.res_ttt rfl w) ?_
    exact K.gives (by rw [chk_2 (by omega) (by omega)]; rfl)
  try replace ht15 := of_decide_eq_false ht15
  refine K.skip ?_
  refine K.norm_then ?_
  refine K.seq ?_
  refine K.seq ?_
  refine K.weak (List.Sublist.refl _) ?_
  refine K.region_lit ?_
  refine K.seq_pure (K.assign) rfl ?_
  dsimp only [setd, setn, ev, nth]
  refine K.seq_nil ?_
  refine K.norm_then ?_
  refine K.block ?_
  refine K.loopW [5] [2, 3, 4, 6, 16, 17, 18, 19, 20, 21, 22, 23, 24, 25, 26, 27, 28, 29, 30, 31, 32, 33, 34, 35, 36, 37, 38, 39, 40, 41, 42, 43, 44, 45, 46, 47, 48, 49, 50, 51, 52, 53, 54] (fun vi L => ∃ k : Nat, vi = [.int .i64 (k : Int)] ∧ L = [K.blk b1 24 [.int .i64 st, .slice A ps.length c]] ∧ k ≤ ps.length ∧ ∀ j, j < k → pE (ps.getD j default) = 0) (fun vi => ps.length - (intOf (K.nth vi 0)).toNat) ?_ ?_
  · exact ⟨0, rfl, rfl, Nat.zero_le _, fun j hj => absurd hj (Nat.not_lt_zero j)⟩
  intro vi vr L hJ
  obtain ⟨k, rfl, rfl, hkn, hall⟩ := hJ
  try dsimp only [setd, setn, ev, nth, over, cl, eI, eP, eT, eC, setM, setF, List.map, List.append, List.drop, List.take]
  refine K.seq ?_
  refine K.seq ?_
  refine K.region_lit ?_
  refine K.seq_pure (K.move) rfl ?_
  dsimp only [setd, setn, ev, nth]
  refine K.seq_pure (K.fieldAddr_lit fo_24_1 rfl) rfl ?_
  dsimp only [setd, setn, ev, nth]
  refine K.seq_sil (K.load1_own one_22 rfl (K.m0) rfl) rfl ?_
  try dsimp only [setd, setn, ev, nth, over, cl, eI, eP, eT, eC, List.map, List.append, List.drop, List.take]
  refine K.seq_pure (K.len_sl sl_22 rfl) rfl ?_
  dsimp only [setd, setn, ev, nth]
  refine K.seq_pure (K.lss rfl rfl) rfl ?_
  dsimp only [setd, setn, ev, nth]
  refine K.seq_nil ?_
  refine K.norm_then ?_
  refine K.cond rfl (fun ht20 => ?_) (fun ht20 => ?_)
  · try replace ht20 := of_decide_eq_true ht20
    have hk : k < ps.length := by omega
    refine K.skip ?_
    refine K.norm_then ?_
    refine K.seq ?_
    refine K.block ?_
    refine K.seq ?_
    refine K.region_lit ?_
    refine K.seq_pure (K.fieldAddr_lit fo_24_1 rfl) rfl ?_
    dsimp only [setd, setn, ev, nth]
    refine K.seq_sil (K.load1_own one_22 rfl (K.m0) rfl) rfl ?_
    try dsimp only [setd, setn, ev, nth, over, cl, eI, eP, eT, eC, List.map, List.append, List.drop, List.take]
    refine K.seq_pure (K.move) rfl ?_
    dsimp only [setd, setn, ev, nth]
    refine K.seq_ix (M := []) _ hR.sl sl_22 rfl rfl rfl (by omega) rfl ?_
    intro p26 hp26
    try dsimp only [setd, setn, ev, nth, over, cl, eI, eP, eT, eC, List.map, List.append, List.drop, List.take]
    refine K.seq_sil (K.loadA_p ag_45 rfl (hp26.any) rfl) rfl ?_
    try dsimp only [setd, setn, ev, nth, over, cl, eI, eP, eT, eC, List.map, List.append, List.drop, List.take]
    refine K.seq_new (K.alloc zr_45) rfl ?_
    intro b6
    try dsimp only [setd, setn, ev, nth, over, cl, eI, eP, eT, eC, List.map, List.append, List.drop, List.take]
    refine K.seq_st (K.store_all sz_45 rfl rfl rfl rfl (K.rp0)) rfl ?_
    try dsimp only [setd, setn, ev, nth, over, cl, eI, eP, eT, eC, List.map, List.append, List.drop, List.take]
    refine K.seq_nil ?_
    refine K.norm_then ?_
    refine K.seq ?_
    refine K.seq ?_
    refine K.region_lit ?_
    refine K.seq_pure (K.fieldAddr_lit fo_45_0 rfl) rfl ?_
    dsimp only [setd, setn, ev, nth]
    refine K.seq_sil (K.load1_own one_3 rfl (K.m0) rfl) rfl ?_
    try dsimp only [setd, setn, ev, nth, over, cl, eI, eP, eT, eC, List.map, List.append, List.drop, List.take]
    refine K.seq_call (K.call_g cal_14 (fun F w hF hw => c14 w)) rfl ?_
    try dsimp only [setd, setn, ev, nth, over, cl, eI, eP, eT, eC, List.map, List.append, List.drop, List.take]
    first | refine K.seq_pure (K.not_d rfl) rfl ?_ | refine K.seq_pure (K.not_ rfl) rfl ?_
    try dsimp only [setd, setn, ev, nth, over, cl, eI, eP, eT, eC, List.map, List.append, List.drop, List.take]
    refine K.seq_pure (K.move) rfl ?_
    dsimp only [setd, setn, ev, nth]
    refine K.split 32 rfl (fun hg32 => ?_) (fun hg32 => ?_)
    · try replace hg32 := of_decide_eq_true hg32
      refine K.seq_skip ?_ ?_
      · rfl
      try dsimp only [setd, setn, ev, nth, over, cl, eI, eP, eT, eC, List.map, List.append, List.drop, List.take]
      refine K.seq_skip ?_ ?_
      · rfl
      try dsimp only [setd, setn, ev, nth, over, cl, eI, eP, eT, eC, List.map, List.append, List.drop, List.take]
      refine K.seq_skip ?_ ?_
      · rfl
      try dsimp only [setd, setn, ev, nth, over, cl, eI, eP, eT, eC, List.map, List.append, List.drop, List.take]
      refine K.seq_skip ?_ ?_
      · rfl
      try dsimp only [setd, setn, ev, nth, over, cl, eI, eP, eT, eC, List.map, List.append, List.drop, List.take]
      refine K.seq_pure (K.pick_t rfl) rfl ?_
      dsimp only [setd, setn, ev, nth]
      refine K.seq_pure (K.move) rfl ?_
      dsimp only [setd, setn, ev, nth]
      refine K.seq_skip ?_ ?_
      · rfl
      try dsimp only [setd, setn, ev, nth, over, cl, eI, eP, eT, eC, List.map, List.append, List.drop, List.take]
      refine K.seq_skip ?_ ?_
      · rfl
      try dsimp only [setd, setn, ev, nth, over, cl, eI, eP, eT, eC, List.map, List.append, List.drop, List.take]
      refine K.seq_skip ?_ ?_
      · rfl
      try dsimp only [setd, setn, ev, nth, over, cl, eI, eP, eT, eC, List.map, List.append, List.drop, List.take]
      refine K.seq_skip ?_ ?_
      · rfl
      try dsimp only [setd, setn, ev, nth, over, cl, eI, eP, eT, eC, List.map, List.append, List.drop, List.take]
      refine K.seq_pure (K.pick_t rfl) rfl ?_
      dsimp only [setd, setn, ev, nth]
      refine K.seq_nil ?_
      refine K.norm_then ?_
      refine K.cond_true rfl ?_
      refine K.seq ?_
      refine K.region_lit ?_
      refine K.seq_pure (K.move) rfl ?_
      dsimp only [setd, setn, ev, nth]
      refine K.seq_pure (K.assign) rfl ?_
      dsimp only [setd, setn, ev, nth]
      refine K.seq_pure (K.assign) rfl ?_
      dsimp only [setd, setn, ev, nth]
      refine K.seq_pure (K.assign) rfl ?_
      dsimp only [setd, setn, ev, nth]
      refine K.seq_nil ?_
      refine K.norm_then ?_
      refine K.ret ?_
      refine K.ret_then ?_
      refine K.ret_block ?_
      refine K.ret_then ?_
      refine K.ret_then ?_
      refine K.ret_block ?_
      refine K.ret_then ?_
      refine K.end_ret (fun w _ => K.res_ttt rfl w) ?_
      first
        | (have hv : pE (ps.getD k default) = 7 := pE_7 (by omega)
           exact K.gives (by rw [chk_3 (by omega) (by omega) hk hall (by rw [hv]; decide), hv]; rfl))
        | (have hv : pE (ps.getD k default) = 2 := pE_2 (by omega) (by omega)
           exact K.gives (by rw [chk_3 (by omega) (by omega) hk hall (by rw [hv]; decide), hv]; rfl))
        | exact K.gives (by rw [chk_0 (by omega) (by omega) (fun j hj => hall j (by omega))]; rfl)
    try replace hg32 := of_decide_eq_false hg32
    refine K.seq_pure (K.fieldAddr_lit fo_45_1 rfl) rfl ?_
    dsimp only [setd, setn, ev, nth]
    refine K.seq_sil (K.load1_own one_3 rfl (K.m0) rfl) rfl ?_
    try dsimp only [setd, setn, ev, nth, over, cl, eI, eP, eT, eC, List.map, List.append, List.drop, List.take]
    refine K.seq_call (K.call_g cal_14 (fun F w hF hw => c14 w)) rfl ?_
    try dsimp only [setd, setn, ev, nth, over, cl, eI, eP, eT, eC, List.map, List.append, List.drop, List.take]
    first | refine K.seq_pure (K.not_d rfl) rfl ?_ | refine K.seq_pure (K.not_ rfl) rfl ?_
    try dsimp only [setd, setn, ev, nth, over, cl, eI, eP, eT, eC, List.map, List.append, List.drop, List.take]
    refine K.seq_pure (K.pick_f rfl) rfl ?_
    dsimp only [setd, setn, ev, nth]
    refine K.seq_pure (K.move) rfl ?_
    dsimp only [setd, setn, ev, nth]
    refine K.split 38 rfl (fun hg38 => ?_) (fun hg38 => ?_)
    · try replace hg38 := of_decide_eq_true hg38
      refine K.seq_skip ?_ ?_
      · rfl
      try dsimp only [setd, setn, ev, nth, over, cl, eI, eP, eT, eC, List.map, List.append, List.drop, List.take]
      refine K.seq_skip ?_ ?_
      · rfl
      try dsimp only [setd, setn, ev, nth, over, cl, eI, eP, eT, eC, List.map, List.append, List.drop, List.take]
      refine K.seq_skip ?_ ?_
      · rfl
      try dsimp only [setd, setn, ev, nth, over, cl, eI, eP, eT, eC, List.map, List.append, List.drop, List.take]
      refine K.seq_skip ?_ ?_
      · rfl
      try dsimp only [setd, setn, ev, nth, over, cl, eI, eP, eT, eC, List.map, List.append, List.drop, List.take]
      refine K.seq_pure (K.pick_t rfl) rfl ?_
      dsimp only [setd, setn, ev, nth]
      refine K.seq_nil ?_
      refine K.norm_then ?_
      refine K.cond_true rfl ?_
      refine K.seq ?_
      refine K.region_lit ?_
      refine K.seq_pure (K.move) rfl ?_
      dsimp only [setd, setn, ev, nth]
      refine K.seq_pure (K.assign) rfl ?_
      dsimp only [setd, setn, ev, nth]
      refine K.seq_pure (K.assign) rfl ?_
      dsimp only [setd, setn, ev, nth]
      refine K.seq_pure (K.assign) rfl ?_
      dsimp only [setd, setn, ev, nth]
      refine K.seq_nil ?_
      refine K.norm_then ?_
      refine K.ret ?_
      refine K.ret_then ?_
      refine K.ret_block ?_
      refine K.ret_then ?_
      refine K.ret_then ?_
      refine K.ret_block ?_
      refine K.ret_then ?_
      refine K.end_ret (fun w _ => K.res_ttt rfl w) ?_
      first
        | (have hv : pE (ps.getD k default) = 7 := pE_7 (by omega)
           exact K.gives (by rw [chk_3 (by omega) (by omega) hk hall (by rw [hv]; decide), hv]; rfl))
        | (have hv : pE (ps.getD k default) = 2 := pE_2 (by omega) (by omega)
           exact K.gives (by rw [chk_3 (by omega) (by omega) hk hall (by rw [hv]; decide), hv]; rfl))
        | exact K.gives (by rw [chk_0 (by omega) (by omega) (fun j hj => hall j (by omega))]; rfl)
    try replace hg38 := of_decide_eq_false hg38
    refine K.seq_pure (K.fieldAddr_lit fo_45_2 rfl) rfl ?_
    dsimp only [setd, setn, ev, nth]
    refine K.seq_sil (K.load1_own one_3 rfl (K.m0) rfl) rfl ?_
    try dsimp only [setd, setn, ev, nth, over, cl, eI, eP, eT, eC, List.map, List.append, List.drop, List.take]
    refine K.seq_call (K.call_g cal_14 (fun F w hF hw => c14 w)) rfl ?_
    try dsimp only [setd, setn, ev, nth, over, cl, eI, eP, eT, eC, List.map, List.append, List.drop, List.take]
    first | refine K.seq_pure (K.not_d rfl) rfl ?_ | refine K.seq_pure (K.not_ rfl) rfl ?_
    try dsimp only [setd, setn, ev, nth, over, cl, eI, eP, eT, eC, List.map, List.append, List.drop, List.take]
    refine K.seq_pure (K.pick_f rfl) rfl ?_
    dsimp only [setd, setn, ev, nth]
    refine K.seq_nil ?_
    refine K.norm_then ?_
    refine K.cond rfl (fun ht43 => ?_) (fun ht43 => ?_)
    · try replace ht43 := of_decide_eq_true ht43
      refine K.seq ?_
      refine K.region_lit ?_
      refine K.seq_pure (K.move) rfl ?_
      dsimp only [setd, setn, ev, nth]
      refine K.seq_pure (K.assign) rfl ?_
      dsimp only [setd, setn, ev, nth]
      refine K.seq_pure (K.assign) rfl ?_
      dsimp only [setd, setn, ev, nth]
      refine K.seq_pure (K.assign) rfl ?_
      dsimp only [setd, setn, ev, nth]
      refine K.seq_nil ?_
      refine K.norm_then ?_
      refine K.ret ?_
      refine K.ret_then ?_
      refine K.ret_block ?_
      refine K.ret_then ?_
      refine K.ret_then ?_
      refine K.ret_block ?_
      refine K.ret_then ?_
      refine K.end_ret (fun w _ => K.res_ttt rfl w) ?_
      first
        | (have hv : pE (ps.getD k default) = 7 := pE_7 (by omega)
           exact K.gives (by rw [chk_3 (by omega) (by omega) hk hall (by rw [hv]; decide), hv]; rfl))
        | (have hv : pE (ps.getD k default) = 2 := pE_2 (by omega) (by omega)
           exact K.gives (by rw [chk_3 (by omega) (by omega) hk hall (by rw [hv]; decide), hv]; rfl))
        | exact K.gives (by rw [chk_0 (by omega) (by omega) (fun j hj => hall j (by omega))]; rfl)
    try replace ht43 := of_decide_eq_false ht43
    refine K.skip ?_
    refine K.norm_then ?_
    refine K.seq ?_
    refine K.region_lit ?_
    refine K.seq_pure (K.fieldAddr_lit fo_45_2 rfl) rfl ?_
    dsimp only [setd, setn, ev, nth]
    refine K.seq_sil (K.load1_own one_3 rfl (K.m0) rfl) rfl ?_
    try dsimp only [setd, setn, ev, nth, over, cl, eI, eP, eT, eC, List.map, List.append, List.drop, List.take]
    refine K.seq_pure (K.fieldAddr_lit fo_45_1 rfl) rfl ?_
    dsimp only [setd, setn, ev, nth]
    refine K.seq_sil (K.load1_own one_3 rfl (K.m0) rfl) rfl ?_
    try dsimp only [setd, setn, ev, nth, over, cl, eI, eP, eT, eC, List.map, List.append, List.drop, List.take]
    refine K.seq_pure (K.fieldAddr_lit fo_45_1 rfl) rfl ?_
    dsimp only [setd, setn, ev, nth]
    refine K.seq_sil (K.load1_own one_3 rfl (K.m0) rfl) rfl ?_
    try dsimp only [setd, setn, ev, nth, over, cl, eI, eP, eT, eC, List.map, List.append, List.drop, List.take]
    refine K.seq_pure (K.add_i64 rfl rfl (by omega)) rfl ?_
    dsimp only [setd, setn, ev, nth]
    refine K.seq_call (K.call_g cal_14 (fun F w hF hw => c14 w)) rfl ?_
    try dsimp only [setd, setn, ev, nth, over, cl, eI, eP, eT, eC, List.map, List.append, List.drop, List.take]
    first | refine K.seq_pure (K.not_d rfl) rfl ?_ | refine K.seq_pure (K.not_ rfl) rfl ?_
    try dsimp only [setd, setn, ev, nth, over, cl, eI, eP, eT, eC, List.map, List.append, List.drop, List.take]
    refine K.seq_nil ?_
    refine K.norm_then ?_
    refine K.cond rfl (fun ht53 => ?_) (fun ht53 => ?_)
    · try replace ht53 := of_decide_eq_true ht53
      refine K.seq ?_
      refine K.region_lit ?_
      refine K.seq_pure (K.move) rfl ?_
      dsimp only [setd, setn, ev, nth]
      refine K.seq_pure (K.assign) rfl ?_
      dsimp only [setd, setn, ev, nth]
      refine K.seq_pure (K.assign) rfl ?_
      dsimp only [setd, setn, ev, nth]
      refine K.seq_pure (K.assign) rfl ?_
      dsimp only [setd, setn, ev, nth]
      refine K.seq_nil ?_
      refine K.norm_then ?_
      refine K.ret ?_
      refine K.ret_block ?_
      refine K.ret_then ?_
      refine K.ret_then ?_
      refine K.ret_block ?_
      refine K.ret_then ?_
      refine K.end_ret (fun w _ => K.res_ttt rfl w) ?_
      first
        | (have hv : pE (ps.getD k default) = 7 := pE_7 (by omega)
           exact K.gives (by rw [chk_3 (by omega) (by omega) hk hall (by rw [hv]; decide), hv]; rfl))
        | (have hv : pE (ps.getD k default) = 2 := pE_2 (by omega) (by omega)
           exact K.gives (by rw [chk_3 (by omega) (by omega) hk hall (by rw [hv]; decide), hv]; rfl))
        | exact K.gives (by rw [chk_0 (by omega) (by omega) (fun j hj => hall j (by omega))]; rfl)
    try replace ht53 := of_decide_eq_false ht53
    refine K.skip ?_
    refine K.norm_block ?_
    refine K.norm_then ?_
    refine K.region_lit ?_
    refine K.seq_pure (K.move) rfl ?_
    dsimp only [setd, setn, ev, nth]
    refine K.seq_pure (K.add_i64 rfl rfl (by omega)) rfl ?_
    dsimp only [setd, setn, ev, nth]
    refine K.seq_pure (K.assign) rfl ?_
    dsimp only [setd, setn, ev, nth]
    refine K.seq_nil ?_
    have hz : pE (ps.getD k default) = 0 := pE_0.2 (by omega)
    exact K.round_endW (L'' := [K.blk b1 24 [.int .i64 st, .slice A ps.length c]]) [.int .i64 ((k : Int) + 1)] ⟨k + 1, rfl, rfl, by omega, K.lt_succ_case hall hz⟩ (by simp [K.nth, intOf]; omega) (List.Sublist.cons _ (List.Sublist.refl _)) (by kernel_rfl)
  try replace ht20 := of_decide_eq_false ht20
  refine K.exit ?_
  refine K.exit_then ?_
  refine K.exit_then ?_
  refine K.exit_here ?_
  refine K.norm_then ?_
  refine K.seq ?_
  refine K.region_lit ?_
  refine K.seq_pure (K.assign) rfl ?_
  dsimp only [setd, setn, ev, nth]
  refine K.seq_pure (K.assign) rfl ?_
  dsimp only [setd, setn, ev, nth]
  refine K.seq_pure (K.assign) rfl ?_
  dsimp only [setd, setn, ev, nth]
  refine K.seq_nil ?_
  refine K.norm_then ?_
  refine K.ret ?_
  refine K.end_ret (fun w _ => K.res_ttt rfl w) ?_
  first
    | (have hv : pE (ps.getD k default) = 7 := pE_7 (by omega)
       exact K.gives (by rw [chk_3 (by omega) (by omega) hk hall (by rw [hv]; decide), hv]; rfl))
    | (have hv : pE (ps.getD k default) = 2 := pE_2 (by omega) (by omega)
       exact K.gives (by rw [chk_3 (by omega) (by omega) hk hall (by rw [hv]; decide), hv]; rfl))
    | exact K.gives (by rw [chk_0 (by omega) (by omega) (fun j hj => hall j (by omega))]; rfl)

set_option maxRecDepth 100000 in
theorem c40 {st h : Int} {ps : List CvT} {bs : List Int} {A B : Option Addr} {c d : Nat} {w : World} (hR : K.Rd w A 3 eC ps) (hS : K.Rd w B 1 K.eI bs) (g : Good st ps) (hi : bs.length < ps.length) (hb : ∀ x ∈ bs, 0 ≤ x ∧ x ≤ 9000) (hh : 0 ≤ h ∧ h ≤ 9000) :
    Calls Try.prog 40 [.agg #[.int .i64 st, .slice A ps.length c], .slice B bs.length d, .int .i64 h].toArray w (K.Gives (.int .i64 (wrX st ps bs.length (bs.getD (bs.length - 1) default) h)) w) := by
  have hgs := g.s
  have hgn := g.n
  have hpk := g.p _ hi
  refine K.enter (args := [.agg #[.int .i64 st, .slice A ps.length c], .slice B bs.length d, .int .i64 h]) Try.func40 rfl (n := 49) rfl ?_
  simp only [List.replicate, List.cons_append, List.nil_append]
  refine K.seq ?_
  refine K.region_lit ?_
  refine K.seq_new (K.box) rfl ?_
  intro b3
  try dsimp only [setd, setn, ev, nth, over, cl, eI, eP, eT, eC, List.map, List.append, List.drop, List.take]
  refine K.seq_pure (K.assign) rfl ?_
  dsimp only [setd, setn, ev, nth]
  refine K.seq_nil ?_
  refine K.norm_then ?_
  refine K.seq ?_
  refine K.region_lit ?_
  refine K.seq_pure (K.move) rfl ?_
  dsimp only [setd, setn, ev, nth]
  refine K.seq_pure (K.len_sl sl_31 rfl) rfl ?_
  dsimp only [setd, setn, ev, nth]
  refine K.seq_pure (K.assign) rfl ?_
  dsimp only [setd, setn, ev, nth]
  refine K.seq_nil ?_
  refine K.norm_then ?_
  refine K.seq ?_
  refine K.seq ?_
  refine K.region_lit ?_
  refine K.seq_pure (K.move) rfl ?_
  dsimp only [setd, setn, ev, nth]
  refine K.seq_pure (K.fieldAddr_lit fo_24_1 rfl) rfl ?_
  dsimp only [setd, setn, ev, nth]
  refine K.seq_sil (K.load1_own one_22 rfl (K.m0) rfl) rfl ?_
  try dsimp only [setd, setn, ev, nth, over, cl, eI, eP, eT, eC, List.map, List.append, List.drop, List.take]
  refine K.seq_pure (K.move) rfl ?_
  dsimp only [setd, setn, ev, nth]
  refine K.seq_ix (M := []) _ hR.sl sl_22 rfl rfl rfl (by omega) rfl ?_
  intro p14 hp14
  try dsimp only [setd, setn, ev, nth, over, cl, eI, eP, eT, eC, List.map, List.append, List.drop, List.take]
  refine K.seq_pure (K.fieldAddr fo_45_1 rfl) rfl ?_
  dsimp only [setd, setn, ev, nth]
  refine K.seq_sil (K.load1 one_3 rfl ((K.PtrL.fld hp14 (k := 1)).any)) rfl ?_
  try dsimp only [setd, setn, ev, nth, over, cl, eI, eP, eT, eC, List.map, List.append, List.drop, List.take]
  refine K.seq_pure (K.lss rfl rfl) rfl ?_
  dsimp only [setd, setn, ev, nth]
  refine K.seq_nil ?_
  refine K.norm_then ?_
  refine K.cond rfl (fun ht17 => ?_) (fun ht17 => ?_)
  · try replace ht17 := of_decide_eq_true ht17
    refine K.seq ?_
    refine K.region_lit ?_
    refine K.seq_pure (K.assign) rfl ?_
    dsimp only [setd, setn, ev, nth]
    refine K.seq_nil ?_
    refine K.norm_then ?_
    refine K.ret ?_
    refine K.ret_then ?_
    refine K.end_ret (fun w _ => K.res_tmp rfl w) ?_
    exact K.gives_i rfl (wrX_1 ht17).symm
  try replace ht17 := of_decide_eq_false ht17
  refine K.skip ?_
  refine K.norm_then ?_
  refine K.seq ?_
  refine K.seq ?_
  refine K.region_lit ?_
  refine K.seq_pure (K.move) rfl ?_
  dsimp only [setd, setn, ev, nth]
  refine K.seq_pure (K.fieldAddr_lit fo_24_1 rfl) rfl ?_
  dsimp only [setd, setn, ev, nth]
  refine K.seq_sil (K.load1_own one_22 rfl (K.m0) rfl) rfl ?_
  try dsimp only [setd, setn, ev, nth, over, cl, eI, eP, eT, eC, List.map, List.append, List.drop, List.take]
  refine K.seq_pure (K.move) rfl ?_
  dsimp only [setd, setn, ev, nth]
  refine K.seq_ix (M := []) _ hR.sl sl_22 rfl rfl rfl (by omega) rfl ?_
  intro p22 hp22
  try dsimp only [setd, setn, ev, nth, over, cl, eI, eP, eT, eC, List.map, List.append, List.drop, List.take]
  refine K.seq_pure (K.fieldAddr fo_45_2 rfl) rfl ?_
  dsimp only [setd, setn, ev, nth]
  refine K.seq_sil (K.load1 one_3 rfl ((K.PtrL.fld hp22 (k := 2)).any)) rfl ?_
  try dsimp only [setd, setn, ev, nth, over, cl, eI, eP, eT, eC, List.map, List.append, List.drop, List.take]
  refine K.seq_pure (K.gtr rfl rfl) rfl ?_
  dsimp only [setd, setn, ev, nth]
  refine K.seq_nil ?_
  refine K.norm_then ?_
  refine K.cond rfl (fun ht25 => ?_) (fun ht25 => ?_)
  · try replace ht25 := of_decide_eq_true ht25
    refine K.seq ?_
    refine K.region_lit ?_
    refine K.seq_pure (K.assign) rfl ?_
    dsimp only [setd, setn, ev, nth]
    refine K.seq_nil ?_
    refine K.norm_then ?_
    refine K.ret ?_
    refine K.ret_then ?_
    refine K.end_ret (fun w _ => K.res_tmp rfl w) ?_
    exact K.gives_i rfl (wrX_2 ht17 ht25).symm
  try replace ht25 := of_decide_eq_false ht25
  refine K.skip ?_
  refine K.norm_then ?_
  refine K.seq ?_
  refine K.seq ?_
  refine K.draw_L [] Try_mixed ?_
  refine K.d_pure 0 rfl (K.move) (by kernel_rfl) rfl ?_
  dsimp only [setd, setn, ev, nth]
  refine K.d_pure 1 rfl (K.gtr rfl rfl) (by kernel_rfl) rfl ?_
  dsimp only [setd, setn, ev, nth]
  refine K.d_pure 2 rfl (K.move) (by kernel_rfl) rfl ?_
  dsimp only [setd, setn, ev, nth]
  refine K.dsplit 28 rfl (fun hg28 => ?_) (fun hg28 => ?_)
  · try replace hg28 := of_decide_eq_true hg28
    have hsj := hb _ (K.gt_mem (xs := bs) (k := bs.length - 1) (by omega))
    refine K.d_pure 3 rfl (K.move) (by kernel_rfl) rfl ?_
    dsimp only [setd, setn, ev, nth]
    refine K.d_pure 4 rfl (K.move) (by kernel_rfl) rfl ?_
    dsimp only [setd, setn, ev, nth]
    refine K.d_pure 5 rfl (K.move) (by kernel_rfl) rfl ?_
    dsimp only [setd, setn, ev, nth]
    refine K.d_pure 6 rfl (K.sub_i64 rfl rfl (by omega)) (by kernel_rfl) rfl ?_
    dsimp only [setd, setn, ev, nth]
    refine K.d_ix (M := []) 7 (bs.length - 1) rfl hS.sl sl_31 rfl rfl (by omega) (by omega) (by kernel_rfl) rfl ?_
    intro p33 hp33
    try dsimp only [setd, setn, ev, nth, over, cl, eI, eP, eT, eC, List.map, List.append, List.drop, List.take]
    refine K.d_mem 8 rfl (K.load1 one_3 rfl (hp33.any)) (fun _ h => h) (by kernel_rfl) (by kernel_rfl) rfl ?_
    try dsimp only [setd, setn, ev, nth, over, cl, eI, eP, eT, eC, List.map, List.append, List.drop, List.take]
    refine K.d_pure 9 rfl (K.sub_i64 rfl rfl (by omega)) (by kernel_rfl) rfl ?_
    dsimp only [setd, setn, ev, nth]
    refine K.d_pure 10 rfl (K.fieldAddr_lit fo_24_0 rfl) (by kernel_rfl) rfl ?_
    dsimp only [setd, setn, ev, nth]
    refine K.d_mem 11 rfl (K.load1_own one_3 rfl (K.m0) rfl) (fun _ h => h) (by kernel_rfl) (by kernel_rfl) rfl ?_
    try dsimp only [setd, setn, ev, nth, over, cl, eI, eP, eT, eC, List.map, List.append, List.drop, List.take]
    refine K.d_pure 12 rfl (K.gtr rfl rfl) (by kernel_rfl) rfl ?_
    dsimp only [setd, setn, ev, nth]
    refine K.d_pure 13 rfl (K.move) (by kernel_rfl) rfl ?_
    dsimp only [setd, setn, ev, nth]
    refine K.dsplit 39 rfl (fun hg39 => ?_) (fun hg39 => ?_)
    · try replace hg39 := of_decide_eq_true hg39
      refine K.d_skip 14 rfl (by kernel_rfl) rfl ?_
      try dsimp only [setd, setn, ev, nth, over, cl, eI, eP, eT, eC, List.map, List.append, List.drop, List.take]
      refine K.d_skip 15 rfl (by kernel_rfl) rfl ?_
      try dsimp only [setd, setn, ev, nth, over, cl, eI, eP, eT, eC, List.map, List.append, List.drop, List.take]
      refine K.d_skip 16 rfl (by kernel_rfl) rfl ?_
      try dsimp only [setd, setn, ev, nth, over, cl, eI, eP, eT, eC, List.map, List.append, List.drop, List.take]
      refine K.d_skip 17 rfl (by kernel_rfl) rfl ?_
      try dsimp only [setd, setn, ev, nth, over, cl, eI, eP, eT, eC, List.map, List.append, List.drop, List.take]
      refine K.d_skip 18 rfl (by kernel_rfl) rfl ?_
      try dsimp only [setd, setn, ev, nth, over, cl, eI, eP, eT, eC, List.map, List.append, List.drop, List.take]
      refine K.d_skip 19 rfl (by kernel_rfl) rfl ?_
      try dsimp only [setd, setn, ev, nth, over, cl, eI, eP, eT, eC, List.map, List.append, List.drop, List.take]
      refine K.d_skip 20 rfl (by kernel_rfl) rfl ?_
      try dsimp only [setd, setn, ev, nth, over, cl, eI, eP, eT, eC, List.map, List.append, List.drop, List.take]
      refine K.d_skip 21 rfl (by kernel_rfl) rfl ?_
      try dsimp only [setd, setn, ev, nth, over, cl, eI, eP, eT, eC, List.map, List.append, List.drop, List.take]
      refine K.d_skip 22 rfl (by kernel_rfl) rfl ?_
      try dsimp only [setd, setn, ev, nth, over, cl, eI, eP, eT, eC, List.map, List.append, List.drop, List.take]
      refine K.d_skip 23 rfl (by kernel_rfl) rfl ?_
      try dsimp only [setd, setn, ev, nth, over, cl, eI, eP, eT, eC, List.map, List.append, List.drop, List.take]
      refine K.d_pure 24 rfl (K.pick_t rfl) (by kernel_rfl) rfl ?_
      dsimp only [setd, setn, ev, nth]
      refine K.d_pure 25 rfl (K.pick_t rfl) (by kernel_rfl) rfl ?_
      dsimp only [setd, setn, ev, nth]
      refine K.d_done (by kernel_rfl) ?_
      refine K.norm_then ?_
      refine K.cond_true rfl ?_
      refine K.seq ?_
      refine K.region_lit ?_
      refine K.seq_pure (K.assign) rfl ?_
      dsimp only [setd, setn, ev, nth]
      refine K.seq_nil ?_
      refine K.norm_then ?_
      refine K.ret ?_
      refine K.ret_then ?_
      refine K.end_ret (fun w _ => K.res_tmp rfl w) ?_
      first
        | exact K.gives_i rfl (wrX_3 ht17 ht25 (by omega)).symm
        | exact K.gives_i rfl (wrX_0 ht17 ht25 (fun h => by omega)).symm
    try replace hg39 := of_decide_eq_false hg39
    refine K.d_pure 14 rfl (K.move) (by kernel_rfl) rfl ?_
    dsimp only [setd, setn, ev, nth]
    refine K.d_pure 15 rfl (K.move) (by kernel_rfl) rfl ?_
    dsimp only [setd, setn, ev, nth]
    refine K.d_pure 16 rfl (K.sub_i64 rfl rfl (by omega)) (by kernel_rfl) rfl ?_
    dsimp only [setd, setn, ev, nth]
    refine K.d_ix (M := []) 17 (bs.length - 1) rfl hS.sl sl_31 rfl rfl (by omega) (by omega) (by kernel_rfl) rfl ?_
    intro p43 hp43
    try dsimp only [setd, setn, ev, nth, over, cl, eI, eP, eT, eC, List.map, List.append, List.drop, List.take]
    refine K.d_mem 18 rfl (K.load1 one_3 rfl (hp43.any)) (fun _ h => h) (by kernel_rfl) (by kernel_rfl) rfl ?_
    try dsimp only [setd, setn, ev, nth, over, cl, eI, eP, eT, eC, List.map, List.append, List.drop, List.take]
    refine K.d_pure 19 rfl (K.move) (by kernel_rfl) rfl ?_
    dsimp only [setd, setn, ev, nth]
    refine K.d_pure 20 rfl (K.sub_i64 rfl rfl (by omega)) (by kernel_rfl) rfl ?_
    dsimp only [setd, setn, ev, nth]
    refine K.d_pure 21 rfl (K.fieldAddr_lit fo_24_0 rfl) (by kernel_rfl) rfl ?_
    dsimp only [setd, setn, ev, nth]
    refine K.d_mem 22 rfl (K.load1_own one_3 rfl (K.m0) rfl) (fun _ h => h) (by kernel_rfl) (by kernel_rfl) rfl ?_
    try dsimp only [setd, setn, ev, nth, over, cl, eI, eP, eT, eC, List.map, List.append, List.drop, List.take]
    refine K.d_pure 23 rfl (K.gtr rfl rfl) (by kernel_rfl) rfl ?_
    dsimp only [setd, setn, ev, nth]
    refine K.d_pure 24 rfl (K.pick_f rfl) (by kernel_rfl) rfl ?_
    dsimp only [setd, setn, ev, nth]
    refine K.d_pure 25 rfl (K.pick_t rfl) (by kernel_rfl) rfl ?_
    dsimp only [setd, setn, ev, nth]
    refine K.d_done (by kernel_rfl) ?_
    refine K.norm_then ?_
    refine K.cond rfl (fun ht51 => ?_) (fun ht51 => ?_)
    · try replace ht51 := of_decide_eq_true ht51
      refine K.seq ?_
      refine K.region_lit ?_
      refine K.seq_pure (K.assign) rfl ?_
      dsimp only [setd, setn, ev, nth]
      refine K.seq_nil ?_
      refine K.norm_then ?_
      refine K.ret ?_
      refine K.ret_then ?_
      refine K.end_ret (fun w _ => K.res_tmp rfl w) ?_
      first
        | exact K.gives_i rfl (wrX_3 ht17 ht25 (by omega)).symm
        | exact K.gives_i rfl (wrX_0 ht17 ht25 (fun h => by omega)).symm
    try replace ht51 := of_decide_eq_false ht51
    refine K.skip ?_
    refine K.norm_then ?_
    refine K.seq ?_
    refine K.region_lit ?_
    refine K.seq_pure (K.assign) rfl ?_
    dsimp only [setd, setn, ev, nth]
    refine K.seq_nil ?_
    refine K.norm_then ?_
    refine K.ret ?_
    refine K.end_ret (fun w _ => K.res_tmp rfl w) ?_
    first
      | exact K.gives_i rfl (wrX_3 ht17 ht25 (by omega)).symm
      | exact K.gives_i rfl (wrX_0 ht17 ht25 (fun h => by omega)).symm
  try replace hg28 := of_decide_eq_false hg28
  refine K.d_skip 3 rfl (by kernel_rfl) rfl ?_
  try dsimp only [setd, setn, ev, nth, over, cl, eI, eP, eT, eC, List.map, List.append, List.drop, List.take]
  refine K.d_skip 4 rfl (by kernel_rfl) rfl ?_
  try dsimp only [setd, setn, ev, nth, over, cl, eI, eP, eT, eC, List.map, List.append, List.drop, List.take]
  refine K.d_skip 5 rfl (by kernel_rfl) rfl ?_
  try dsimp only [setd, setn, ev, nth, over, cl, eI, eP, eT, eC, List.map, List.append, List.drop, List.take]
  refine K.d_skip 6 rfl (by kernel_rfl) rfl ?_
  try dsimp only [setd, setn, ev, nth, over, cl, eI, eP, eT, eC, List.map, List.append, List.drop, List.take]
  refine K.d_skip 7 rfl (by kernel_rfl) rfl ?_
  try dsimp only [setd, setn, ev, nth, over, cl, eI, eP, eT, eC, List.map, List.append, List.drop, List.take]
  refine K.d_skip 8 rfl (by kernel_rfl) rfl ?_
  try dsimp only [setd, setn, ev, nth, over, cl, eI, eP, eT, eC, List.map, List.append, List.drop, List.take]
  refine K.d_skip 9 rfl (by kernel_rfl) rfl ?_
  try dsimp only [setd, setn, ev, nth, over, cl, eI, eP, eT, eC, List.map, List.append, List.drop, List.take]
  refine K.d_skip 10 rfl (by kernel_rfl) rfl ?_
  try dsimp only [setd, setn, ev, nth, over, cl, eI, eP, eT, eC, List.map, List.append, List.drop, List.take]
  refine K.d_skip 11 rfl (by kernel_rfl) rfl ?_
  try dsimp only [setd, setn, ev, nth, over, cl, eI, eP, eT, eC, List.map, List.append, List.drop, List.take]
  refine K.d_skip 12 rfl (by kernel_rfl) rfl ?_
  try dsimp only [setd, setn, ev, nth, over, cl, eI, eP, eT, eC, List.map, List.append, List.drop, List.take]
  refine K.d_skip 13 rfl (by kernel_rfl) rfl ?_
  try dsimp only [setd, setn, ev, nth, over, cl, eI, eP, eT, eC, List.map, List.append, List.drop, List.take]
  refine K.d_skip 14 rfl (by kernel_rfl) rfl ?_
  try dsimp only [setd, setn, ev, nth, over, cl, eI, eP, eT, eC, List.map, List.append, List.drop, List.take]
  refine K.d_skip 15 rfl (by kernel_rfl) rfl ?_
  try dsimp only [setd, setn, ev, nth, over, cl, eI, eP, eT, eC, List.map, List.append, List.drop, List.take]
  refine K.d_skip 16 rfl (by kernel_rfl) rfl ?_
  try dsimp only [setd, setn, ev, nth, over, cl, eI, eP, eT, eC, List.map, List.append, List.drop, List.take]
  refine K.d_skip 17 rfl (by kernel_rfl) rfl ?_
  try dsimp only [setd, setn, ev, nth, over, cl, eI, eP, eT, eC, List.map, List.append, List.drop, List.take]
  refine K.d_skip 18 rfl (by kernel_rfl) rfl ?_
  try dsimp only [setd, setn, ev, nth, over, cl, eI, eP, eT, eC, List.map, List.append, List.drop, List.take]
  refine K.d_skip 19 rfl (by kernel_rfl) rfl ?_
  try dsimp only [setd, setn, ev, nth, over, cl, eI, eP, eT, eC, List.map, List.append, List.drop, List.take]
  refine K.d_skip 20 rfl (by kernel_rfl) rfl ?_
  try dsimp only [setd, setn, ev, nth, over, cl, eI, eP, eT, eC, List.map, List.append, List.drop, List.take]
  refine K.d_skip 21 rfl (by kernel_rfl) rfl ?_
  try dsimp only [setd, setn, ev, nth, over, cl, eI, eP, eT, eC, List.map, List.append, List.drop, List.take]
  refine K.d_skip 22 rfl (by kernel_rfl) rfl ?_
  try dsimp only [setd, setn, ev, nth, over, cl, eI, eP, eT, eC, List.map, List.append, List.drop, List.take]
  refine K.d_skip 23 rfl (by kernel_rfl) rfl ?_
  try dsimp only [setd, setn, ev, nth, over, cl, eI, eP, eT, eC, List.map, List.append, List.drop, List.take]
  refine K.d_skip 24 rfl (by kernel_rfl) rfl ?_
  try dsimp only [setd, setn, ev, nth, over, cl, eI, eP, eT, eC, List.map, List.append, List.drop, List.take]
  refine K.d_pure 25 rfl (K.pick_f rfl) (by kernel_rfl) rfl ?_
  dsimp only [setd, setn, ev, nth]
  refine K.d_done (by kernel_rfl) ?_
  refine K.norm_then ?_
  refine K.cond_false rfl ?_
  refine K.skip ?_
  refine K.norm_then ?_
  refine K.seq ?_
  refine K.region_lit ?_
  refine K.seq_pure (K.assign) rfl ?_
  dsimp only [setd, setn, ev, nth]
  refine K.seq_nil ?_
  refine K.norm_then ?_
  refine K.ret ?_
  refine K.end_ret (fun w _ => K.res_tmp rfl w) ?_
  first
    | exact K.gives_i rfl (wrX_3 ht17 ht25 (by omega)).symm
    | exact K.gives_i rfl (wrX_0 ht17 ht25 (fun h => by omega)).symm

theorem c40n {st h : Int} {ps : List CvT} {bs : List Int} {A B : Option Addr} {c d n : Nat} {w : World} (hR : K.Rd w A 3 eC ps) (hS : K.Rd w B 1 K.eI bs) (g : Good st ps) (hnl : bs.length = n) (hi : n < ps.length) (hb : ∀ x ∈ bs, 0 ≤ x ∧ x ≤ 9000) (hh : 0 ≤ h ∧ h ≤ 9000) : Calls Try.prog 40 [.agg #[.int .i64 st, .slice A ps.length c], .slice B n d, .int .i64 h].toArray w (K.Gives (.int .i64 (wrX st ps n (bs.getD (n - 1) default) h)) w) := by
  subst hnl
  exact c40 hR hS g hi hb hh


set_option maxRecDepth 100000 in
theorem c8 {st : Int} {ps : List CvT} {s : List Int} {A B : Option Addr} {c d : Nat} {w : World} (hR : K.Rd w A 3 eC ps) (hS : K.Rd w B 1 K.eI s) (g : Good st ps) (hl : s.length = ps.length) (hb : ∀ x ∈ s, 0 ≤ x ∧ x ≤ 9000) (hd : s.length ≤ d) :
    Calls Try.prog 8 [.agg #[.int .i64 st, .slice A ps.length c], .slice B s.length d].toArray w (K.Gives (.tuple #[.int .i64 (fwy st ps s).1, .int .i64 (fwy st ps s).2]) w) := by
  have hgs := g.s
  have hgn := g.n
  refine K.enter (args := [.agg #[.int .i64 st, .slice A ps.length c], .slice B s.length d]) Try.func8 rfl (n := 25) rfl ?_
  simp only [List.replicate, List.cons_append, List.nil_append]
  refine K.seq ?_
  refine K.region_lit ?_
  refine K.seq_new (K.box) rfl ?_
  intro b2
  try dsimp only [setd, setn, ev, nth, over, cl, eI, eP, eT, eC, List.map, List.append, List.drop, List.take]
  refine K.seq_pure (K.assign) rfl ?_
  dsimp only [setd, setn, ev, nth]
  refine K.seq_pure (K.assign) rfl ?_
  dsimp only [setd, setn, ev, nth]
  refine K.seq_nil ?_
  refine K.norm_then ?_
  refine K.seq ?_
  refine K.seq ?_
  refine K.region_lit ?_
  refine K.seq_pure (K.assign) rfl ?_
  dsimp only [setd, setn, ev, nth]
  refine K.seq_nil ?_
  refine K.norm_then ?_
  refine K.block ?_
  refine K.loopW [6] [4, 5, 7, 8, 9, 10, 11, 12, 13, 14, 15, 16, 17, 18, 19, 20, 21, 22, 23, 24, 25, 26] (fun vi L => ∃ k : Nat, vi = [.int .i64 (k : Int)] ∧ L = [K.blk b2 24 [.int .i64 st, .slice A ps.length c]] ∧ k ≤ s.length ∧ ∀ j, j < k → wrg st ps s j = 0) (fun vi => s.length - (intOf (K.nth vi 0)).toNat) ?_ ?_
  · exact ⟨0, rfl, rfl, Nat.zero_le _, fun j hj => absurd hj (Nat.not_lt_zero j)⟩
  intro vi vr L hJ
  obtain ⟨k, rfl, rfl, hkn, hall⟩ := hJ
  try dsimp only [setd, setn, ev, nth, over, cl, eI, eP, eT, eC, setM, setF, List.map, List.append, List.drop, List.take]
  refine K.seq ?_
  refine K.seq ?_
  refine K.region_lit ?_
  refine K.seq_pure (K.move) rfl ?_
  dsimp only [setd, setn, ev, nth]
  refine K.seq_pure (K.move) rfl ?_
  dsimp only [setd, setn, ev, nth]
  refine K.seq_pure (K.len_sl sl_31 rfl) rfl ?_
  dsimp only [setd, setn, ev, nth]
  refine K.seq_pure (K.lss rfl rfl) rfl ?_
  dsimp only [setd, setn, ev, nth]
  refine K.seq_nil ?_
  refine K.norm_then ?_
  refine K.cond rfl (fun ht11 => ?_) (fun ht11 => ?_)
  · try replace ht11 := of_decide_eq_true ht11
    have hk : k < s.length := by omega
    have hsk := hb _ (K.gt_mem hk)
    refine K.skip ?_
    refine K.norm_then ?_
    refine K.seq ?_
    refine K.block ?_
    refine K.seq ?_
    refine K.draw_L [] Try_mixed ?_
    refine K.d_mem 0 rfl (K.loadA_own ag_24 rfl (K.m0) rfl) (fun _ h => h) (by kernel_rfl) (by kernel_rfl) rfl ?_
    try dsimp only [setd, setn, ev, nth, over, cl, eI, eP, eT, eC, List.map, List.append, List.drop, List.take]
    refine K.d_pure 1 rfl (K.move) (by kernel_rfl) rfl ?_
    dsimp only [setd, setn, ev, nth]
    refine K.d_pure 2 rfl (K.move) (by kernel_rfl) rfl ?_
    dsimp only [setd, setn, ev, nth]
    refine K.d_pure 3 rfl (K.slice_hi k sl_31 rfl rfl rfl (by omega)) (by kernel_rfl) rfl ?_
    try dsimp only [setd, setn, ev, nth, over, cl, eI, eP, eT, eC, List.map, List.append, List.drop, List.take]
    refine K.d_pure 4 rfl (K.move) (by kernel_rfl) rfl ?_
    dsimp only [setd, setn, ev, nth]
    refine K.d_pure 5 rfl (K.move) (by kernel_rfl) rfl ?_
    dsimp only [setd, setn, ev, nth]
    refine K.d_ix (M := []) 6 _ rfl hS.sl sl_31 rfl rfl rfl (by omega) (by kernel_rfl) rfl ?_
    intro p20 hp20
    try dsimp only [setd, setn, ev, nth, over, cl, eI, eP, eT, eC, List.map, List.append, List.drop, List.take]
    refine K.d_mem 7 rfl (K.load1 one_3 rfl (hp20.any)) (fun _ h => h) (by kernel_rfl) (by kernel_rfl) rfl ?_
    try dsimp only [setd, setn, ev, nth, over, cl, eI, eP, eT, eC, List.map, List.append, List.drop, List.take]
    refine K.d_call 8 rfl (K.call_g cal_40 (fun F w hF hw => (by have hT := (hS.pass hw).take k; have hg := c40n (c := c) (d := d) (n := k) (h := s.getD k default) (hR.pass hw) hT g (by rw [List.length_take]; omega) (by omega) (fun x hx => hb x (List.mem_of_mem_take hx)) hsk; rw [wrX_t (by omega)] at hg; exact hg))) (fun _ h => h) (by kernel_rfl) rfl ?_
    try dsimp only [setd, setn, ev, nth, over, cl, eI, eP, eT, eC, List.map, List.append, List.drop, List.take]
    refine K.d_pure 9 rfl (K.assign) (by kernel_rfl) rfl ?_
    dsimp only [setd, setn, ev, nth]
    refine K.d_done (by kernel_rfl) ?_
    refine K.norm_then ?_
    refine K.seq ?_
    refine K.region_lit ?_
    refine K.seq_pure (K.move) rfl ?_
    dsimp only [setd, setn, ev, nth]
    refine K.seq_pure (K.neq rfl rfl) rfl ?_
    dsimp only [setd, setn, ev, nth]
    refine K.seq_nil ?_
    refine K.norm_then ?_
    refine K.cond rfl (fun ht24 => ?_) (fun ht24 => ?_)
    · try replace ht24 := of_decide_eq_true ht24
      refine K.seq ?_
      refine K.region_lit ?_
      refine K.seq_pure (K.move) rfl ?_
      dsimp only [setd, setn, ev, nth]
      refine K.seq_pure (K.move) rfl ?_
      dsimp only [setd, setn, ev, nth]
      refine K.seq_pure (K.assign) rfl ?_
      dsimp only [setd, setn, ev, nth]
      refine K.seq_pure (K.assign) rfl ?_
      dsimp only [setd, setn, ev, nth]
      refine K.seq_nil ?_
      refine K.norm_then ?_
      refine K.ret ?_
      refine K.ret_block ?_
      refine K.ret_then ?_
      refine K.ret_then ?_
      refine K.ret_block ?_
      refine K.ret_then ?_
      refine K.end_ret (fun w _ => K.res_tmp2 rfl w) ?_
      exact K.gives (by rw [fwy_found (by omega) hall ht24]; rfl)
    try replace ht24 := of_decide_eq_false ht24
    refine K.skip ?_
    refine K.norm_block ?_
    refine K.norm_then ?_
    refine K.region_lit ?_
    refine K.seq_pure (K.move) rfl ?_
    dsimp only [setd, setn, ev, nth]
    refine K.seq_pure (K.add_i64 rfl rfl (by omega)) rfl ?_
    dsimp only [setd, setn, ev, nth]
    refine K.seq_pure (K.assign) rfl ?_
    dsimp only [setd, setn, ev, nth]
    refine K.seq_nil ?_
    exact K.round_endW (L'' := [K.blk b2 24 [.int .i64 st, .slice A ps.length c]]) [.int .i64 ((k : Int) + 1)] ⟨k + 1, rfl, rfl, by omega, K.lt_succ_case hall (Decidable.not_not.1 ht24)⟩ (by simp [K.nth, intOf]; omega) (List.Sublist.refl _) (by kernel_rfl)
  try replace ht11 := of_decide_eq_false ht11
  refine K.exit ?_
  refine K.exit_then ?_
  refine K.exit_then ?_
  refine K.exit_here ?_
  refine K.norm_then ?_
  refine K.seq ?_
  refine K.region_lit ?_
  refine K.seq_pure (K.assign) rfl ?_
  dsimp only [setd, setn, ev, nth]
  refine K.seq_pure (K.assign) rfl ?_
  dsimp only [setd, setn, ev, nth]
  refine K.seq_nil ?_
  refine K.norm_then ?_
  refine K.ret ?_
  refine K.end_ret (fun w _ => K.res_tmp2 rfl w) ?_
  exact K.gives (by rw [fwy_none (fun j hj => hall j (by omega))]; rfl)

end Go.Proofs.Ytfbglomliankmaa.Cv
end
section
set_option linter.unusedSimpArgs false
set_option linter.unusedVariables false
namespace Go.Proofs.Ytfbglomliankmaa.Cv
open Go.RowKit Go
open Go.K (setd setn ev nth over cl eI eP eT setM setF)
attribute [local irreducible] K.blk K.row

set_option maxRecDepth 100000 in
theorem c39 {Y : Option Addr} {cy n : Nat} {ys : List Int} {w : World} (hY : K.Rd w Y 1 eY ys) (hyb : ∀ x ∈ ys, 0 ≤ x ∧ x ≤ 255) (hyl : ys.length ≤ 140737488351232) (hn : n ≤ 1000) :
    Calls Try.prog 39 [.slice Y ys.length cy, .int .i64 (n : Int)].toArray w (K.Gives (.int .i64 (trn ys n)) w) := by
  refine K.enter (args := [.slice Y ys.length cy, .int .i64 (n : Int)]) Try.func39 rfl (n := 14) rfl ?_
  simp only [List.replicate, List.cons_append, List.nil_append]
  refine K.seq ?_
  refine K.region_lit ?_
  refine K.seq_pure (K.assign) rfl ?_
  dsimp only [setd, setn, ev, nth]
  refine K.seq_nil ?_
  refine K.norm_then ?_
  refine K.seq ?_
  refine K.seq ?_
  refine K.region_lit ?_
  refine K.seq_pure (K.move) rfl ?_
  dsimp only [setd, setn, ev, nth]
  refine K.seq_pure (K.len_sl sl_25 rfl) rfl ?_
  dsimp only [setd, setn, ev, nth]
  refine K.seq_pure (K.eql rfl rfl) rfl ?_
  dsimp only [setd, setn, ev, nth]
  refine K.seq_nil ?_
  refine K.norm_then ?_
  refine K.cond rfl (fun ht7 => ?_) (fun ht7 => ?_)
  · try replace ht7 := of_decide_eq_true ht7
    refine K.seq ?_
    refine K.region_lit ?_
    refine K.seq_pure (K.assign) rfl ?_
    dsimp only [setd, setn, ev, nth]
    refine K.seq_nil ?_
    refine K.norm_then ?_
    refine K.ret ?_
    refine K.ret_then ?_
    refine K.end_ret (fun w _ => K.res_tmp rfl w) ?_
    exact K.gives_i rfl (by unfold trn; rw [if_pos (by omega)])
  try replace ht7 := of_decide_eq_false ht7
  have hpos : 0 < ys.length := by omega
  have hlt := Nat.mod_lt n hpos
  have hx := hyb _ (K.gt_mem hlt)
  refine K.skip ?_
  refine K.norm_then ?_
  refine K.seq ?_
  refine K.region_lit ?_
  refine K.seq_pure (K.move) rfl ?_
  dsimp only [setd, setn, ev, nth]
  refine K.seq_pure (K.move) rfl ?_
  dsimp only [setd, setn, ev, nth]
  refine K.seq_pure (K.move) rfl ?_
  dsimp only [setd, setn, ev, nth]
  refine K.seq_pure (K.len_sl sl_25 rfl) rfl ?_
  dsimp only [setd, setn, ev, nth]
  refine K.seq_pure (K.Pure.eq (K.rem_i64 rfl rfl (by omega) (by omega)) (show _ = Value.int .i64 ((n % ys.length : Nat) : Int) from by rw [Int.natCast_emod])) rfl ?_
  dsimp only [setd, setn, ev, nth]
  refine K.seq_ix (M := []) (n % ys.length) hY.sl sl_25 rfl rfl rfl (by omega) rfl ?_
  intro p13 hp13
  try dsimp only [setd, setn, ev, nth, over, cl, eI, eP, eT, eC, List.map, List.append, List.drop, List.take]
  refine K.seq_sil (K.load1 one_5 rfl (hp13.any)) rfl ?_
  try dsimp only [setd, setn, ev, nth, over, cl, eI, eP, eT, eC, List.map, List.append, List.drop, List.take]
  refine K.seq_pure (K.Pure.eq (K.conv_int ik_5 ik_3 rfl) (show _ = Value.int .i64 (ys.getD (n % ys.length) default) from by rw [IntWalk.i64_in _ (by omega)])) rfl ?_
  try dsimp only [setd, setn, ev, nth, over, cl, eI, eP, eT, eC, List.map, List.append, List.drop, List.take]
  refine K.seq_pure (K.assign) rfl ?_
  dsimp only [setd, setn, ev, nth]
  refine K.seq_nil ?_
  refine K.norm_then ?_
  refine K.ret ?_
  refine K.end_ret (fun w _ => K.res_tmp rfl w) ?_
  exact K.gives_i rfl (by unfold trn; rw [if_neg (by omega)])

set_option maxRecDepth 100000 in
set_option maxHeartbeats 1000000 in
theorem c7 {st : Int} {ps : List CvT} {ys : List Int} {A Y : Option Addr} {c cy : Nat} {w : World} (hR : K.Rd w A 3 eC ps) (g : Good st ps) (hY : K.Rd w Y 1 eY ys) (hyb : ∀ x ∈ ys, 0 ≤ x ∧ x ≤ 255) (hyl : ys.length ≤ 140737488351232) :
    Calls Try.prog 7 [.agg #[.int .i64 st, .slice A ps.length c], .slice Y ys.length cy].toArray w (K.RetS 3 1 K.eI (anyS st ps ys ps.length) w) := by
  have hgs := g.s
  have hgn := g.n
  refine K.enter (args := [.agg #[.int .i64 st, .slice A ps.length c], .slice Y ys.length cy]) Try.func7 rfl (n := 67) rfl ?_
  simp only [List.replicate, List.cons_append, List.nil_append]
  refine K.seq ?_
  refine K.region_lit ?_
  refine K.seq_new (K.box) rfl ?_
  intro b2
  try dsimp only [setd, setn, ev, nth, over, cl, eI, eP, eT, eC, List.map, List.append, List.drop, List.take]
  refine K.seq_pure (K.assign) rfl ?_
  dsimp only [setd, setn, ev, nth]
  refine K.seq_nil ?_
  refine K.norm_then ?_
  refine K.seq ?_
  refine K.region_lit ?_
  refine K.seq_pure (K.assign) rfl ?_
  dsimp only [setd, setn, ev, nth]
  refine K.seq_nil ?_
  refine K.norm_then ?_
  refine K.seq ?_
  refine K.seq ?_
  refine K.region_lit ?_
  refine K.nil_row (e := 3) (size := 1) ?_
  refine K.seq_pure (K.assign) rfl ?_
  dsimp only [setd, setn, ev, nth]
  refine K.seq_nil ?_
  refine K.norm_then ?_
  refine K.block ?_
  refine K.loopW [5, 6] [7, 8, 9, 10, 11, 12, 13, 14, 15, 16, 17, 18, 19, 20, 21, 22, 23, 24, 25, 26, 27, 28, 29, 30, 31, 32, 33, 34, 35, 36, 37, 38, 39, 40, 41, 42, 43, 44, 45, 46, 47, 48, 49, 50, 51, 52, 53, 54, 55, 56, 57, 58, 59, 60, 61, 62, 63, 64, 65, 66, 67] (fun vi L => ∃ (k : Nat) (Q1 : Option Addr) (q1 : Nat), vi = [.slice Q1 (anyS st ps ys k).length q1, .int .i64 (k : Int)] ∧ L = [K.row (.slice Q1 (anyS st ps ys k).length q1) 3 1 (anyS st ps ys k).length ((anyS st ps ys k).flatMap K.eI), K.blk b2 24 [.int .i64 st, .slice A ps.length c]] ∧ k ≤ ps.length) (fun vi => ps.length - (intOf (K.nth vi 1)).toNat) ?_ ?_
  · exact ⟨0, none, 0, rfl, rfl, Nat.zero_le _⟩
  intro vi vr L hJ
  obtain ⟨k, Q1, q1, rfl, rfl, hkn⟩ := hJ
  try dsimp only [setd, setn, ev, nth, over, cl, eI, eP, eT, eC, setM, setF, List.map, List.append, List.drop, List.take]
  refine K.seq ?_
  refine K.seq ?_
  refine K.region_lit ?_
  refine K.seq_pure (K.move) rfl ?_
  dsimp only [setd, setn, ev, nth]
  refine K.seq_pure (K.fieldAddr_lit fo_24_1 rfl) rfl ?_
  dsimp only [setd, setn, ev, nth]
  refine K.seq_sil (K.load1_own one_22 rfl (K.m1) rfl) rfl ?_
  try dsimp only [setd, setn, ev, nth, over, cl, eI, eP, eT, eC, List.map, List.append, List.drop, List.take]
  refine K.seq_pure (K.len_sl sl_22 rfl) rfl ?_
  dsimp only [setd, setn, ev, nth]
  refine K.seq_pure (K.lss rfl rfl) rfl ?_
  dsimp only [setd, setn, ev, nth]
  refine K.seq_nil ?_
  refine K.norm_then ?_
  refine K.cond rfl (fun ht14 => ?_) (fun ht14 => ?_)
  · try replace ht14 := of_decide_eq_true ht14
    have hk : k < ps.length := by omega
    have hpk := g.p k hk
    have htb := trn_bd hyb k
    have hal : (anyS st ps ys k).length = k := anyS_len
    have hall := anyS_bd g hyb k (by omega)
    have hax : 0 ≤ (anyX st ps ys k ((anyS st ps ys k).getD (k - 1) default)) ∧ (anyX st ps ys k ((anyS st ps ys k).getD (k - 1) default)) ≤ 9000 := anyX_bd g hyb (by
      by_cases e : k < 1
      · have e0 : k = 0 := by omega
        subst e0; exact ⟨by simp [anyS], by simp [anyS]⟩
      · exact hall _ (K.gt_mem (by omega))) hk
    refine K.skip ?_
    refine K.norm_then ?_
    refine K.seq ?_
    refine K.block ?_
    refine K.seq ?_
    refine K.region_lit ?_
    refine K.seq_pure (K.fieldAddr_lit fo_24_1 rfl) rfl ?_
    dsimp only [setd, setn, ev, nth]
    refine K.seq_sil (K.load1_own one_22 rfl (K.m1) rfl) rfl ?_
    try dsimp only [setd, setn, ev, nth, over, cl, eI, eP, eT, eC, List.map, List.append, List.drop, List.take]
    refine K.seq_pure (K.move) rfl ?_
    dsimp only [setd, setn, ev, nth]
    refine K.seq_ix (M := []) _ hR.sl sl_22 rfl rfl rfl (by omega) rfl ?_
    intro p20 hp20
    try dsimp only [setd, setn, ev, nth, over, cl, eI, eP, eT, eC, List.map, List.append, List.drop, List.take]
    refine K.seq_sil (K.loadA_p ag_45 rfl (hp20.any) rfl) rfl ?_
    try dsimp only [setd, setn, ev, nth, over, cl, eI, eP, eT, eC, List.map, List.append, List.drop, List.take]
    refine K.seq_new (K.alloc zr_45) rfl ?_
    intro b7
    try dsimp only [setd, setn, ev, nth, over, cl, eI, eP, eT, eC, List.map, List.append, List.drop, List.take]
    refine K.seq_st (K.store_all sz_45 rfl rfl rfl rfl (K.rp0)) rfl ?_
    try dsimp only [setd, setn, ev, nth, over, cl, eI, eP, eT, eC, List.map, List.append, List.drop, List.take]
    refine K.seq_nil ?_
    refine K.norm_then ?_
    refine K.seq ?_
    refine K.draw_L [] Try_mixed ?_
    refine K.d_pure 0 rfl (K.fieldAddr_lit fo_45_1 rfl) (by kernel_rfl) rfl ?_
    dsimp only [setd, setn, ev, nth]
    refine K.d_mem 1 rfl (K.load1_own one_3 rfl (K.m0) rfl) (fun _ h => h) (by kernel_rfl) (by kernel_rfl) rfl ?_
    try dsimp only [setd, setn, ev, nth, over, cl, eI, eP, eT, eC, List.map, List.append, List.drop, List.take]
    refine K.d_pure 2 rfl (K.fieldAddr_lit fo_45_2 rfl) (by kernel_rfl) rfl ?_
    dsimp only [setd, setn, ev, nth]
    refine K.d_mem 3 rfl (K.load1_own one_3 rfl (K.m0) rfl) (fun _ h => h) (by kernel_rfl) (by kernel_rfl) rfl ?_
    try dsimp only [setd, setn, ev, nth, over, cl, eI, eP, eT, eC, List.map, List.append, List.drop, List.take]
    refine K.d_pure 4 rfl (K.assign) (by kernel_rfl) rfl ?_
    dsimp only [setd, setn, ev, nth]
    refine K.d_pure 5 rfl (K.assign) (by kernel_rfl) rfl ?_
    dsimp only [setd, setn, ev, nth]
    refine K.d_done (by kernel_rfl) ?_
    refine K.norm_then ?_
    refine K.seq ?_
    refine K.seq ?_
    refine K.region_lit ?_
    refine K.seq_pure (K.move) rfl ?_
    dsimp only [setd, setn, ev, nth]
    refine K.seq_pure (K.gtr rfl rfl) rfl ?_
    dsimp only [setd, setn, ev, nth]
    refine K.seq_nil ?_
    refine K.norm_then ?_
    refine K.cond rfl (fun ht27 => ?_) (fun ht27 => ?_)
    · try replace ht27 := of_decide_eq_true ht27
      have hbj := hall _ (K.gt_mem (xs := (anyS st ps ys k)) (k := k - 1) (by omega))
      refine K.use_row (A := Q1) K.m1 (fun hq1 => ?_)
      refine K.draw_L [] Try_mixed ?_
      refine K.d_pure 0 rfl (K.move) (by kernel_rfl) rfl ?_
      dsimp only [setd, setn, ev, nth]
      refine K.d_pure 1 rfl (K.move) (by kernel_rfl) rfl ?_
      dsimp only [setd, setn, ev, nth]
      refine K.d_pure 2 rfl (K.move) (by kernel_rfl) rfl ?_
      dsimp only [setd, setn, ev, nth]
      refine K.d_pure 3 rfl (K.sub_i64 rfl rfl (by omega)) (by kernel_rfl) rfl ?_
      dsimp only [setd, setn, ev, nth]
      refine K.d_ix (M := [K.row (.slice Q1 (anyS st ps ys k).length q1) 3 1 (anyS st ps ys k).length ((anyS st ps ys k).flatMap K.eI)]) 4 (k - 1) rfl (K.Sl.own (w0 := w) (t := 3) (c := q1) (e := K.eI) hq1 (fun _ => rfl)) sl_31 rfl rfl (by omega) (by omega) (by kernel_rfl) rfl ?_
      intro p32 hp32
      try dsimp only [setd, setn, ev, nth, over, cl, eI, eP, eT, eC, List.map, List.append, List.drop, List.take]
      refine K.d_mem 5 rfl (K.load1 one_3 rfl (hp32.at1 (K.m1))) (fun _ h => h) (by kernel_rfl) (by kernel_rfl) rfl ?_
      try dsimp only [setd, setn, ev, nth, over, cl, eI, eP, eT, eC, List.map, List.append, List.drop, List.take]
      refine K.d_pure 6 rfl (K.fieldAddr_lit fo_24_0 rfl) (by kernel_rfl) rfl ?_
      dsimp only [setd, setn, ev, nth]
      refine K.d_mem 7 rfl (K.load1_own one_3 rfl (K.m2) rfl) (fun _ h => h) (by kernel_rfl) (by kernel_rfl) rfl ?_
      try dsimp only [setd, setn, ev, nth, over, cl, eI, eP, eT, eC, List.map, List.append, List.drop, List.take]
      refine K.d_pure 8 rfl (K.sub_i64 rfl rfl (by omega)) (by kernel_rfl) rfl ?_
      dsimp only [setd, setn, ev, nth]
      refine K.d_pure 9 rfl (K.max_int rfl rfl) (by kernel_rfl) rfl ?_
      dsimp only [setd, setn, ev, nth]
      refine K.d_pure 10 rfl (K.move) (by kernel_rfl) rfl ?_
      dsimp only [setd, setn, ev, nth]
      refine K.d_pure 11 rfl (K.move) (by kernel_rfl) rfl ?_
      dsimp only [setd, setn, ev, nth]
      refine K.d_pure 12 rfl (K.move) (by kernel_rfl) rfl ?_
      dsimp only [setd, setn, ev, nth]
      refine K.d_pure 13 rfl (K.sub_i64 rfl rfl (by omega)) (by kernel_rfl) rfl ?_
      dsimp only [setd, setn, ev, nth]
      refine K.d_ix (M := [K.row (.slice Q1 (anyS st ps ys k).length q1) 3 1 (anyS st ps ys k).length ((anyS st ps ys k).flatMap K.eI)]) 14 (k - 1) rfl (K.Sl.own (w0 := w) (t := 3) (c := q1) (e := K.eI) hq1 (fun _ => rfl)) sl_31 rfl rfl (by omega) (by omega) (by kernel_rfl) rfl ?_
      intro p42 hp42
      try dsimp only [setd, setn, ev, nth, over, cl, eI, eP, eT, eC, List.map, List.append, List.drop, List.take]
      refine K.d_mem 15 rfl (K.load1 one_3 rfl (hp42.at1 (K.m1))) (fun _ h => h) (by kernel_rfl) (by kernel_rfl) rfl ?_
      try dsimp only [setd, setn, ev, nth, over, cl, eI, eP, eT, eC, List.map, List.append, List.drop, List.take]
      refine K.d_pure 16 rfl (K.fieldAddr_lit fo_24_0 rfl) (by kernel_rfl) rfl ?_
      dsimp only [setd, setn, ev, nth]
      refine K.d_mem 17 rfl (K.load1_own one_3 rfl (K.m2) rfl) (fun _ h => h) (by kernel_rfl) (by kernel_rfl) rfl ?_
      try dsimp only [setd, setn, ev, nth, over, cl, eI, eP, eT, eC, List.map, List.append, List.drop, List.take]
      refine K.d_pure 18 rfl (K.add_i64 rfl rfl (by omega)) (by kernel_rfl) rfl ?_
      dsimp only [setd, setn, ev, nth]
      refine K.d_pure 19 rfl (K.min_int rfl rfl) (by kernel_rfl) rfl ?_
      dsimp only [setd, setn, ev, nth]
      refine K.d_pure 20 rfl (K.assign) (by kernel_rfl) rfl ?_
      dsimp only [setd, setn, ev, nth]
      refine K.d_pure 21 rfl (K.assign) (by kernel_rfl) rfl ?_
      dsimp only [setd, setn, ev, nth]
      refine K.d_done (by kernel_rfl) ?_
      refine K.norm_then ?_
      refine K.seq ?_
      refine K.seq ?_
      refine K.region_lit ?_
      refine K.seq_pure (K.move) rfl ?_
      dsimp only [setd, setn, ev, nth]
      refine K.seq_pure (K.move) rfl ?_
      dsimp only [setd, setn, ev, nth]
      refine K.seq_pure (K.gtr rfl rfl) rfl ?_
      dsimp only [setd, setn, ev, nth]
      refine K.seq_nil ?_
      refine K.norm_then ?_
      refine K.cond rfl (fun ht50 => ?_) (fun ht50 => ?_)
      · try replace ht50 := of_decide_eq_true ht50
        have hmd := Int.emod_nonneg (trn ys k) (show (ps.getD k default).lo - (ps.getD k default).lo + 1 ≠ 0 by omega)
        have hmd2 := Int.emod_lt_of_pos (trn ys k) (show 0 < (ps.getD k default).lo - (ps.getD k default).lo + 1 by omega)
        refine K.draw_L [] Try_mixed ?_
        refine K.d_pure 0 rfl (K.fieldAddr_lit fo_45_1 rfl) (by kernel_rfl) rfl ?_
        dsimp only [setd, setn, ev, nth]
        refine K.d_mem 1 rfl (K.load1_own one_3 rfl (K.m0) rfl) (fun _ h => h) (by kernel_rfl) (by kernel_rfl) rfl ?_
        try dsimp only [setd, setn, ev, nth, over, cl, eI, eP, eT, eC, List.map, List.append, List.drop, List.take]
        refine K.d_pure 2 rfl (K.fieldAddr_lit fo_45_1 rfl) (by kernel_rfl) rfl ?_
        dsimp only [setd, setn, ev, nth]
        refine K.d_mem 3 rfl (K.load1_own one_3 rfl (K.m0) rfl) (fun _ h => h) (by kernel_rfl) (by kernel_rfl) rfl ?_
        try dsimp only [setd, setn, ev, nth, over, cl, eI, eP, eT, eC, List.map, List.append, List.drop, List.take]
        refine K.d_pure 4 rfl (K.assign) (by kernel_rfl) rfl ?_
        dsimp only [setd, setn, ev, nth]
        refine K.d_pure 5 rfl (K.assign) (by kernel_rfl) rfl ?_
        dsimp only [setd, setn, ev, nth]
        refine K.d_done (by kernel_rfl) ?_
        refine K.norm_then ?_
        refine K.region_lit ?_
        refine K.seq_pure (K.move) rfl ?_
        dsimp only [setd, setn, ev, nth]
        refine K.seq_pure (K.move) rfl ?_
        dsimp only [setd, setn, ev, nth]
        refine K.seq_pure (K.move) rfl ?_
        dsimp only [setd, setn, ev, nth]
        refine K.seq_pure (K.move) rfl ?_
        dsimp only [setd, setn, ev, nth]
        refine K.seq_call (K.call_g cal_39 (fun F w hF hw => c39 (hY.pass hw) hyb hyl (by omega))) rfl ?_
        try dsimp only [setd, setn, ev, nth, over, cl, eI, eP, eT, eC, List.map, List.append, List.drop, List.take]
        refine K.seq_pure (K.move) rfl ?_
        dsimp only [setd, setn, ev, nth]
        refine K.seq_pure (K.move) rfl ?_
        dsimp only [setd, setn, ev, nth]
        refine K.seq_pure (K.sub_i64 rfl rfl (by omega)) rfl ?_
        dsimp only [setd, setn, ev, nth]
        refine K.seq_pure (K.add_i64 rfl rfl (by omega)) rfl ?_
        dsimp only [setd, setn, ev, nth]
        refine K.seq_pure (K.rem_i64 rfl rfl (by omega) (by omega)) rfl ?_
        dsimp only [setd, setn, ev, nth]
        refine K.seq_pure (K.Pure.eq (K.add_i64 rfl rfl (by omega)) (show _ = Value.int .i64 (anyX st ps ys k ((anyS st ps ys k).getD (k - 1) default)) from congrArg (Value.int .i64) (by first | exact any_1 (by omega) ht50 | exact any_2 (by omega) ht50 | exact any_3 (by omega) ht50))) rfl ?_
        dsimp only [setd, setn, ev, nth]
        refine K.seq_new (K.buildSlice (bs1 _)) rfl ?_
        intro b66
        try dsimp only [setd, setn, ev, nth, over, cl, eI, eP, eT, eC, List.map, List.append, List.drop, List.take]
        refine K.seq_upd (K.append el_31 rfl rfl (K.PtrL.own' (K.m0)) rfl rfl (by decide) (by rw [anyS_len]; omega) (by rw [anyS_len]; omega) (fun _ _ => K.rp2)) rfl ?_
        rintro ⟨g67, c67⟩ _
        try dsimp only [setd, setn, ev, nth, over, cl, eI, eP, eT, eC, List.map, List.append, List.drop, List.take]
        refine K.seq_pure (K.assign) rfl ?_
        dsimp only [setd, setn, ev, nth]
        refine K.seq_nil ?_
        refine K.norm_block ?_
        refine K.norm_then ?_
        refine K.region_lit ?_
        refine K.seq_pure (K.move) rfl ?_
        dsimp only [setd, setn, ev, nth]
        refine K.seq_pure (K.add_i64 rfl rfl (by omega)) rfl ?_
        dsimp only [setd, setn, ev, nth]
        refine K.seq_pure (K.assign) rfl ?_
        dsimp only [setd, setn, ev, nth]
        refine K.seq_nil ?_
        exact K.round_endW (L'' := [K.row (.slice (some ⟨g67, 0, none⟩) ((anyS st ps ys k).length + 1) c67) 3 1 ((anyS st ps ys k).length + 1) ((anyS st ps ys k).flatMap K.eI ++ [.int .i64 (anyX st ps ys k ((anyS st ps ys k).getD (k - 1) default))]), K.blk b2 24 [.int .i64 st, .slice A ps.length c]]) [.slice (some ⟨g67, 0, none⟩) ((anyS st ps ys k).length + 1) c67, .int .i64 ((k : Int) + 1)] ⟨k + 1, some ⟨g67, 0, none⟩, c67, by rw [anyS, List.length_append]; rfl, by rw [anyS, List.length_append, List.flatMap_append]; rfl, by omega⟩ (by simp [K.nth, intOf]; omega) (List.Sublist.cons _ (List.Sublist.cons _ (List.Sublist.refl _))) (by kernel_rfl)
      try replace ht50 := of_decide_eq_false ht50
      first
        | (have hmd := Int.emod_nonneg (trn ys k) (show min (ps.getD k default).hi (((anyS st ps ys k).getD (k - 1) default) + st) - max (ps.getD k default).lo (((anyS st ps ys k).getD (k - 1) default) - st) + 1 ≠ 0 by omega)
           have hmd2 := Int.emod_lt_of_pos (trn ys k) (show 0 < min (ps.getD k default).hi (((anyS st ps ys k).getD (k - 1) default) + st) - max (ps.getD k default).lo (((anyS st ps ys k).getD (k - 1) default) - st) + 1 by omega)
           have hmx : True := trivial)
        | (have hmx : True := trivial)
      have hmd3 := Int.emod_nonneg (trn ys k) (show (ps.getD k default).hi - (ps.getD k default).lo + 1 ≠ 0 by omega)
      have hmd4 := Int.emod_lt_of_pos (trn ys k) (show 0 < (ps.getD k default).hi - (ps.getD k default).lo + 1 by omega)
      refine K.skip ?_
      refine K.norm_then ?_
      refine K.region_lit ?_
      refine K.seq_pure (K.move) rfl ?_
      dsimp only [setd, setn, ev, nth]
      refine K.seq_pure (K.move) rfl ?_
      dsimp only [setd, setn, ev, nth]
      refine K.seq_pure (K.move) rfl ?_
      dsimp only [setd, setn, ev, nth]
      refine K.seq_pure (K.move) rfl ?_
      dsimp only [setd, setn, ev, nth]
      refine K.seq_call (K.call_g cal_39 (fun F w hF hw => c39 (hY.pass hw) hyb hyl (by omega))) rfl ?_
      try dsimp only [setd, setn, ev, nth, over, cl, eI, eP, eT, eC, List.map, List.append, List.drop, List.take]
      refine K.seq_pure (K.move) rfl ?_
      dsimp only [setd, setn, ev, nth]
      refine K.seq_pure (K.move) rfl ?_
      dsimp only [setd, setn, ev, nth]
      refine K.seq_pure (K.sub_i64 rfl rfl (by omega)) rfl ?_
      dsimp only [setd, setn, ev, nth]
      refine K.seq_pure (K.add_i64 rfl rfl (by omega)) rfl ?_
      dsimp only [setd, setn, ev, nth]
      refine K.seq_pure (K.rem_i64 rfl rfl (by omega) (by omega)) rfl ?_
      dsimp only [setd, setn, ev, nth]
      refine K.seq_pure (K.Pure.eq (K.add_i64 rfl rfl (by omega)) (show _ = Value.int .i64 (anyX st ps ys k ((anyS st ps ys k).getD (k - 1) default)) from congrArg (Value.int .i64) (by first | exact any_1 (by omega) ht50 | exact any_2 (by omega) ht50 | exact any_3 (by omega) ht50))) rfl ?_
      dsimp only [setd, setn, ev, nth]
      refine K.seq_new (K.buildSlice (bs1 _)) rfl ?_
      intro b66
      try dsimp only [setd, setn, ev, nth, over, cl, eI, eP, eT, eC, List.map, List.append, List.drop, List.take]
      refine K.seq_upd (K.append el_31 rfl rfl (K.PtrL.own' (K.m0)) rfl rfl (by decide) (by rw [anyS_len]; omega) (by rw [anyS_len]; omega) (fun _ _ => K.rp2)) rfl ?_
      rintro ⟨g67, c67⟩ _
      try dsimp only [setd, setn, ev, nth, over, cl, eI, eP, eT, eC, List.map, List.append, List.drop, List.take]
      refine K.seq_pure (K.assign) rfl ?_
      dsimp only [setd, setn, ev, nth]
      refine K.seq_nil ?_
      refine K.norm_block ?_
      refine K.norm_then ?_
      refine K.region_lit ?_
      refine K.seq_pure (K.move) rfl ?_
      dsimp only [setd, setn, ev, nth]
      refine K.seq_pure (K.add_i64 rfl rfl (by omega)) rfl ?_
      dsimp only [setd, setn, ev, nth]
      refine K.seq_pure (K.assign) rfl ?_
      dsimp only [setd, setn, ev, nth]
      refine K.seq_nil ?_
      exact K.round_endW (L'' := [K.row (.slice (some ⟨g67, 0, none⟩) ((anyS st ps ys k).length + 1) c67) 3 1 ((anyS st ps ys k).length + 1) ((anyS st ps ys k).flatMap K.eI ++ [.int .i64 (anyX st ps ys k ((anyS st ps ys k).getD (k - 1) default))]), K.blk b2 24 [.int .i64 st, .slice A ps.length c]]) [.slice (some ⟨g67, 0, none⟩) ((anyS st ps ys k).length + 1) c67, .int .i64 ((k : Int) + 1)] ⟨k + 1, some ⟨g67, 0, none⟩, c67, by rw [anyS, List.length_append]; rfl, by rw [anyS, List.length_append, List.flatMap_append]; rfl, by omega⟩ (by simp [K.nth, intOf]; omega) (List.Sublist.cons _ (List.Sublist.cons _ (List.Sublist.refl _))) (by kernel_rfl)
    try replace ht27 := of_decide_eq_false ht27
    refine K.skip ?_
    refine K.norm_then ?_
    refine K.seq ?_
    refine K.seq ?_
    refine K.region_lit ?_
    refine K.seq_pure (K.move) rfl ?_
    dsimp only [setd, setn, ev, nth]
    refine K.seq_pure (K.move) rfl ?_
    dsimp only [setd, setn, ev, nth]
    refine K.seq_pure (K.gtr rfl rfl) rfl ?_
    dsimp only [setd, setn, ev, nth]
    refine K.seq_nil ?_
    refine K.norm_then ?_
    refine K.cond rfl (fun ht50 => ?_) (fun ht50 => ?_)
    · try replace ht50 := of_decide_eq_true ht50
      have hmd := Int.emod_nonneg (trn ys k) (show (ps.getD k default).lo - (ps.getD k default).lo + 1 ≠ 0 by omega)
      have hmd2 := Int.emod_lt_of_pos (trn ys k) (show 0 < (ps.getD k default).lo - (ps.getD k default).lo + 1 by omega)
      exact absurd ht50 (by omega)
    try replace ht50 := of_decide_eq_false ht50
    first
      | (have hmd := Int.emod_nonneg (trn ys k) (show min (ps.getD k default).hi (((anyS st ps ys k).getD (k - 1) default) + st) - max (ps.getD k default).lo (((anyS st ps ys k).getD (k - 1) default) - st) + 1 ≠ 0 by omega)
         have hmd2 := Int.emod_lt_of_pos (trn ys k) (show 0 < min (ps.getD k default).hi (((anyS st ps ys k).getD (k - 1) default) + st) - max (ps.getD k default).lo (((anyS st ps ys k).getD (k - 1) default) - st) + 1 by omega)
         have hmx : True := trivial)
      | (have hmx : True := trivial)
    have hmd3 := Int.emod_nonneg (trn ys k) (show (ps.getD k default).hi - (ps.getD k default).lo + 1 ≠ 0 by omega)
    have hmd4 := Int.emod_lt_of_pos (trn ys k) (show 0 < (ps.getD k default).hi - (ps.getD k default).lo + 1 by omega)
    refine K.skip ?_
    refine K.norm_then ?_
    refine K.region_lit ?_
    refine K.seq_pure (K.move) rfl ?_
    dsimp only [setd, setn, ev, nth]
    refine K.seq_pure (K.move) rfl ?_
    dsimp only [setd, setn, ev, nth]
    refine K.seq_pure (K.move) rfl ?_
    dsimp only [setd, setn, ev, nth]
    refine K.seq_pure (K.move) rfl ?_
    dsimp only [setd, setn, ev, nth]
    refine K.seq_call (K.call_g cal_39 (fun F w hF hw => c39 (hY.pass hw) hyb hyl (by omega))) rfl ?_
    try dsimp only [setd, setn, ev, nth, over, cl, eI, eP, eT, eC, List.map, List.append, List.drop, List.take]
    refine K.seq_pure (K.move) rfl ?_
    dsimp only [setd, setn, ev, nth]
    refine K.seq_pure (K.move) rfl ?_
    dsimp only [setd, setn, ev, nth]
    refine K.seq_pure (K.sub_i64 rfl rfl (by omega)) rfl ?_
    dsimp only [setd, setn, ev, nth]
    refine K.seq_pure (K.add_i64 rfl rfl (by omega)) rfl ?_
    dsimp only [setd, setn, ev, nth]
    refine K.seq_pure (K.rem_i64 rfl rfl (by omega) (by omega)) rfl ?_
    dsimp only [setd, setn, ev, nth]
    refine K.seq_pure (K.Pure.eq (K.add_i64 rfl rfl (by omega)) (show _ = Value.int .i64 (anyX st ps ys k ((anyS st ps ys k).getD (k - 1) default)) from congrArg (Value.int .i64) (by first | exact any_1 (by omega) ht50 | exact any_2 (by omega) ht50 | exact any_3 (by omega) ht50))) rfl ?_
    dsimp only [setd, setn, ev, nth]
    refine K.seq_new (K.buildSlice (bs1 _)) rfl ?_
    intro b66
    try dsimp only [setd, setn, ev, nth, over, cl, eI, eP, eT, eC, List.map, List.append, List.drop, List.take]
    refine K.seq_upd (K.append el_31 rfl rfl (K.PtrL.own' (K.m0)) rfl rfl (by decide) (by rw [anyS_len]; omega) (by rw [anyS_len]; omega) (fun _ _ => K.rp2)) rfl ?_
    rintro ⟨g67, c67⟩ _
    try dsimp only [setd, setn, ev, nth, over, cl, eI, eP, eT, eC, List.map, List.append, List.drop, List.take]
    refine K.seq_pure (K.assign) rfl ?_
    dsimp only [setd, setn, ev, nth]
    refine K.seq_nil ?_
    refine K.norm_block ?_
    refine K.norm_then ?_
    refine K.region_lit ?_
    refine K.seq_pure (K.move) rfl ?_
    dsimp only [setd, setn, ev, nth]
    refine K.seq_pure (K.add_i64 rfl rfl (by omega)) rfl ?_
    dsimp only [setd, setn, ev, nth]
    refine K.seq_pure (K.assign) rfl ?_
    dsimp only [setd, setn, ev, nth]
    refine K.seq_nil ?_
    exact K.round_endW (L'' := [K.row (.slice (some ⟨g67, 0, none⟩) ((anyS st ps ys k).length + 1) c67) 3 1 ((anyS st ps ys k).length + 1) ((anyS st ps ys k).flatMap K.eI ++ [.int .i64 (anyX st ps ys k ((anyS st ps ys k).getD (k - 1) default))]), K.blk b2 24 [.int .i64 st, .slice A ps.length c]]) [.slice (some ⟨g67, 0, none⟩) ((anyS st ps ys k).length + 1) c67, .int .i64 ((k : Int) + 1)] ⟨k + 1, some ⟨g67, 0, none⟩, c67, by rw [anyS, List.length_append]; rfl, by rw [anyS, List.length_append, List.flatMap_append]; rfl, by omega⟩ (by simp [K.nth, intOf]; omega) (List.Sublist.cons _ (List.Sublist.cons _ (List.Sublist.refl _))) (by kernel_rfl)
  try replace ht14 := of_decide_eq_false ht14
  refine K.exit ?_
  refine K.exit_then ?_
  refine K.exit_then ?_
  refine K.exit_here ?_
  refine K.norm_then ?_
  refine K.seq ?_
  refine K.region_lit ?_
  refine K.seq_pure (K.move) rfl ?_
  dsimp only [setd, setn, ev, nth]
  refine K.seq_pure (K.assign) rfl ?_
  dsimp only [setd, setn, ev, nth]
  refine K.seq_nil ?_
  refine K.norm_then ?_
  refine K.ret ?_
  refine K.end_ret (fun w _ => K.res_tmp rfl w) ?_
  have e0 : k = ps.length := by omega
  subst e0
  exact K.rets_s K.m0 rfl rfl rfl

set_option maxRecDepth 100000 in
theorem c24 {A B : Option Addr} {c d : Nat} {xs : List (Int × Int)} {w : World} (hX : K.Rd w A 2 K.eP xs) (hY : K.Rd w B 2 K.eP xs) (hn : xs.length ≤ 4611686018427387904) :
    Calls Try.prog 24 [.slice A xs.length c, .slice B xs.length d].toArray w (K.Gives (.bool true) w) := by
  refine K.enter (args := [.slice A xs.length c, .slice B xs.length d]) Try.func24 rfl (n := 24) rfl ?_
  simp only [List.replicate, List.cons_append, List.nil_append]
  refine K.seq ?_
  refine K.region_lit ?_
  refine K.seq_pure (K.assign) rfl ?_
  dsimp only [setd, setn, ev, nth]
  refine K.seq_nil ?_
  refine K.norm_then ?_
  refine K.seq ?_
  refine K.seq ?_
  refine K.region_lit ?_
  refine K.seq_pure (K.move) rfl ?_
  dsimp only [setd, setn, ev, nth]
  refine K.seq_pure (K.len_sl sl_48 rfl) rfl ?_
  dsimp only [setd, setn, ev, nth]
  refine K.seq_pure (K.move) rfl ?_
  dsimp only [setd, setn, ev, nth]
  refine K.seq_pure (K.len_sl sl_48 rfl) rfl ?_
  dsimp only [setd, setn, ev, nth]
  refine K.seq_pure (K.Pure.eq (K.neq rfl rfl) (show _ = Value.bool false from congrArg Value.bool (decide_eq_false (fun h => h rfl)))) rfl ?_
  dsimp only [setd, setn, ev, nth]
  refine K.seq_nil ?_
  refine K.norm_then ?_
  refine K.cond_false rfl ?_
  refine K.skip ?_
  refine K.norm_then ?_
  refine K.seq ?_
  refine K.seq ?_
  refine K.region_lit ?_
  refine K.seq_pure (K.assign) rfl ?_
  dsimp only [setd, setn, ev, nth]
  refine K.seq_nil ?_
  refine K.norm_then ?_
  refine K.block ?_
  refine K.loopW [5] [4, 11, 12, 13, 14, 15, 16, 17, 18, 19, 20, 21, 22, 23, 24, 25] (fun vi L => ∃ k : Nat, vi = [.int .i64 (k : Int)] ∧ L = [] ∧ k ≤ xs.length) (fun vi => xs.length - (intOf (K.nth vi 0)).toNat) ?_ ?_
  · exact ⟨0, rfl, rfl, Nat.zero_le _⟩
  intro vi vr L hJ
  obtain ⟨k, rfl, rfl, hkn⟩ := hJ
  try dsimp only [setd, setn, ev, nth, over, cl, eI, eP, eT, eC, setM, setF, List.map, List.append, List.drop, List.take]
  refine K.seq ?_
  refine K.seq ?_
  refine K.region_lit ?_
  refine K.seq_pure (K.move) rfl ?_
  dsimp only [setd, setn, ev, nth]
  refine K.seq_pure (K.move) rfl ?_
  dsimp only [setd, setn, ev, nth]
  refine K.seq_pure (K.len_sl sl_48 rfl) rfl ?_
  dsimp only [setd, setn, ev, nth]
  refine K.seq_pure (K.lss rfl rfl) rfl ?_
  dsimp only [setd, setn, ev, nth]
  refine K.seq_nil ?_
  refine K.norm_then ?_
  refine K.cond rfl (fun ht14 => ?_) (fun ht14 => ?_)
  · try replace ht14 := of_decide_eq_true ht14
    have hk : k < xs.length := by omega
    refine K.skip ?_
    refine K.norm_then ?_
    refine K.seq ?_
    refine K.block ?_
    refine K.seq ?_
    refine K.draw_L [] Try_mixed ?_
    refine K.d_pure 0 rfl (K.move) (by kernel_rfl) rfl ?_
    dsimp only [setd, setn, ev, nth]
    refine K.d_pure 1 rfl (K.move) (by kernel_rfl) rfl ?_
    dsimp only [setd, setn, ev, nth]
    refine K.d_ix (M := []) 2 _ rfl hX.sl sl_48 rfl rfl rfl (by omega) (by kernel_rfl) rfl ?_
    intro p19 hp19
    try dsimp only [setd, setn, ev, nth, over, cl, eI, eP, eT, eC, List.map, List.append, List.drop, List.take]
    refine K.d_mem 3 rfl (K.loadA_p ag_52 rfl (hp19.any) rfl) (fun _ h => h) (by kernel_rfl) (by kernel_rfl) rfl ?_
    try dsimp only [setd, setn, ev, nth, over, cl, eI, eP, eT, eC, List.map, List.append, List.drop, List.take]
    refine K.d_pure 4 rfl (K.move) (by kernel_rfl) rfl ?_
    dsimp only [setd, setn, ev, nth]
    refine K.d_pure 5 rfl (K.move) (by kernel_rfl) rfl ?_
    dsimp only [setd, setn, ev, nth]
    refine K.d_ix (M := []) 6 _ rfl hY.sl sl_48 rfl rfl rfl (by omega) (by kernel_rfl) rfl ?_
    intro p23 hp23
    try dsimp only [setd, setn, ev, nth, over, cl, eI, eP, eT, eC, List.map, List.append, List.drop, List.take]
    refine K.d_mem 7 rfl (K.loadA_p ag_52 rfl (hp23.any) rfl) (fun _ h => h) (by kernel_rfl) (by kernel_rfl) rfl ?_
    try dsimp only [setd, setn, ev, nth, over, cl, eI, eP, eT, eC, List.map, List.append, List.drop, List.take]
    refine K.d_pure 8 rfl (K.Pure.eq (K.neq_s2 s2_52 rfl rfl) (show _ = Value.bool false from congrArg Value.bool (decide_eq_false (fun h => h rfl)))) (by kernel_rfl) rfl ?_
    dsimp only [setd, setn, ev, nth]
    refine K.d_done (by kernel_rfl) ?_
    refine K.norm_then ?_
    refine K.cond_false rfl ?_
    refine K.skip ?_
    refine K.norm_block ?_
    refine K.norm_then ?_
    refine K.region_lit ?_
    refine K.seq_pure (K.move) rfl ?_
    dsimp only [setd, setn, ev, nth]
    refine K.seq_pure (K.add_i64 rfl rfl (by omega)) rfl ?_
    dsimp only [setd, setn, ev, nth]
    refine K.seq_pure (K.assign) rfl ?_
    dsimp only [setd, setn, ev, nth]
    refine K.seq_nil ?_
    exact K.round_endW (L'' := []) [.int .i64 ((k : Int) + 1)] ⟨k + 1, rfl, rfl, by omega⟩ (by simp [K.nth, intOf]; omega) (List.nil_sublist _) (by kernel_rfl)
  try replace ht14 := of_decide_eq_false ht14
  refine K.exit ?_
  refine K.exit_then ?_
  refine K.exit_then ?_
  refine K.exit_here ?_
  refine K.norm_then ?_
  refine K.seq ?_
  refine K.region_lit ?_
  refine K.seq_pure (K.assign) rfl ?_
  dsimp only [setd, setn, ev, nth]
  refine K.seq_nil ?_
  refine K.norm_then ?_
  refine K.ret ?_
  refine K.end_ret (fun w _ => K.res_tmp rfl w) ?_
  exact K.gives rfl

set_option maxRecDepth 100000 in
theorem c26 {A B : Option Addr} {c d : Nat} {xs : List (Int × Int)} {w : World} (hX : K.Rd w A 2 K.eP xs) (hY : K.Rd w B 2 K.eP xs) (hn : xs.length ≤ 4611686018427387904) :
    Calls Try.prog 26 [.slice A xs.length c, .slice B xs.length d].toArray w (K.Gives (.bool true) w) := by
  refine K.enter (args := [.slice A xs.length c, .slice B xs.length d]) Try.func26 rfl (n := 24) rfl ?_
  simp only [List.replicate, List.cons_append, List.nil_append]
  refine K.seq ?_
  refine K.region_lit ?_
  refine K.seq_pure (K.assign) rfl ?_
  dsimp only [setd, setn, ev, nth]
  refine K.seq_nil ?_
  refine K.norm_then ?_
  refine K.seq ?_
  refine K.seq ?_
  refine K.region_lit ?_
  refine K.seq_pure (K.move) rfl ?_
  dsimp only [setd, setn, ev, nth]
  refine K.seq_pure (K.len_sl sl_59 rfl) rfl ?_
  dsimp only [setd, setn, ev, nth]
  refine K.seq_pure (K.move) rfl ?_
  dsimp only [setd, setn, ev, nth]
  refine K.seq_pure (K.len_sl sl_59 rfl) rfl ?_
  dsimp only [setd, setn, ev, nth]
  refine K.seq_pure (K.Pure.eq (K.neq rfl rfl) (show _ = Value.bool false from congrArg Value.bool (decide_eq_false (fun h => h rfl)))) rfl ?_
  dsimp only [setd, setn, ev, nth]
  refine K.seq_nil ?_
  refine K.norm_then ?_
  refine K.cond_false rfl ?_
  refine K.skip ?_
  refine K.norm_then ?_
  refine K.seq ?_
  refine K.seq ?_
  refine K.region_lit ?_
  refine K.seq_pure (K.assign) rfl ?_
  dsimp only [setd, setn, ev, nth]
  refine K.seq_nil ?_
  refine K.norm_then ?_
  refine K.block ?_
  refine K.loopW [5] [4, 11, 12, 13, 14, 15, 16, 17, 18, 19, 20, 21, 22, 23, 24, 25] (fun vi L => ∃ k : Nat, vi = [.int .i64 (k : Int)] ∧ L = [] ∧ k ≤ xs.length) (fun vi => xs.length - (intOf (K.nth vi 0)).toNat) ?_ ?_
  · exact ⟨0, rfl, rfl, Nat.zero_le _⟩
  intro vi vr L hJ
  obtain ⟨k, rfl, rfl, hkn⟩ := hJ
  try dsimp only [setd, setn, ev, nth, over, cl, eI, eP, eT, eC, setM, setF, List.map, List.append, List.drop, List.take]
  refine K.seq ?_
  refine K.seq ?_
  refine K.region_lit ?_
  refine K.seq_pure (K.move) rfl ?_
  dsimp only [setd, setn, ev, nth]
  refine K.seq_pure (K.move) rfl ?_
  dsimp only [setd, setn, ev, nth]
  refine K.seq_pure (K.len_sl sl_59 rfl) rfl ?_
  dsimp only [setd, setn, ev, nth]
  refine K.seq_pure (K.lss rfl rfl) rfl ?_
  dsimp only [setd, setn, ev, nth]
  refine K.seq_nil ?_
  refine K.norm_then ?_
  refine K.cond rfl (fun ht14 => ?_) (fun ht14 => ?_)
  · try replace ht14 := of_decide_eq_true ht14
    have hk : k < xs.length := by omega
    refine K.skip ?_
    refine K.norm_then ?_
    refine K.seq ?_
    refine K.block ?_
    refine K.seq ?_
    refine K.draw_L [] Try_mixed ?_
    refine K.d_pure 0 rfl (K.move) (by kernel_rfl) rfl ?_
    dsimp only [setd, setn, ev, nth]
    refine K.d_pure 1 rfl (K.move) (by kernel_rfl) rfl ?_
    dsimp only [setd, setn, ev, nth]
    refine K.d_ix (M := []) 2 _ rfl hX.sl sl_59 rfl rfl rfl (by omega) (by kernel_rfl) rfl ?_
    intro p19 hp19
    try dsimp only [setd, setn, ev, nth, over, cl, eI, eP, eT, eC, List.map, List.append, List.drop, List.take]
    refine K.d_mem 3 rfl (K.loadA_p ag_64 rfl (hp19.any) rfl) (fun _ h => h) (by kernel_rfl) (by kernel_rfl) rfl ?_
    try dsimp only [setd, setn, ev, nth, over, cl, eI, eP, eT, eC, List.map, List.append, List.drop, List.take]
    refine K.d_pure 4 rfl (K.move) (by kernel_rfl) rfl ?_
    dsimp only [setd, setn, ev, nth]
    refine K.d_pure 5 rfl (K.move) (by kernel_rfl) rfl ?_
    dsimp only [setd, setn, ev, nth]
    refine K.d_ix (M := []) 6 _ rfl hY.sl sl_59 rfl rfl rfl (by omega) (by kernel_rfl) rfl ?_
    intro p23 hp23
    try dsimp only [setd, setn, ev, nth, over, cl, eI, eP, eT, eC, List.map, List.append, List.drop, List.take]
    refine K.d_mem 7 rfl (K.loadA_p ag_64 rfl (hp23.any) rfl) (fun _ h => h) (by kernel_rfl) (by kernel_rfl) rfl ?_
    try dsimp only [setd, setn, ev, nth, over, cl, eI, eP, eT, eC, List.map, List.append, List.drop, List.take]
    refine K.d_pure 8 rfl (K.Pure.eq (K.neq_s2 s2_64 rfl rfl) (show _ = Value.bool false from congrArg Value.bool (decide_eq_false (fun h => h rfl)))) (by kernel_rfl) rfl ?_
    dsimp only [setd, setn, ev, nth]
    refine K.d_done (by kernel_rfl) ?_
    refine K.norm_then ?_
    refine K.cond_false rfl ?_
    refine K.skip ?_
    refine K.norm_block ?_
    refine K.norm_then ?_
    refine K.region_lit ?_
    refine K.seq_pure (K.move) rfl ?_
    dsimp only [setd, setn, ev, nth]
    refine K.seq_pure (K.add_i64 rfl rfl (by omega)) rfl ?_
    dsimp only [setd, setn, ev, nth]
    refine K.seq_pure (K.assign) rfl ?_
    dsimp only [setd, setn, ev, nth]
    refine K.seq_nil ?_
    exact K.round_endW (L'' := []) [.int .i64 ((k : Int) + 1)] ⟨k + 1, rfl, rfl, by omega⟩ (by simp [K.nth, intOf]; omega) (List.nil_sublist _) (by kernel_rfl)
  try replace ht14 := of_decide_eq_false ht14
  refine K.exit ?_
  refine K.exit_then ?_
  refine K.exit_then ?_
  refine K.exit_here ?_
  refine K.norm_then ?_
  refine K.seq ?_
  refine K.region_lit ?_
  refine K.seq_pure (K.assign) rfl ?_
  dsimp only [setd, setn, ev, nth]
  refine K.seq_nil ?_
  refine K.norm_then ?_
  refine K.ret ?_
  refine K.end_ret (fun w _ => K.res_tmp rfl w) ?_
  exact K.gives rfl

set_option maxRecDepth 100000 in
theorem c15 {z : Int} (w : World) :
    Calls Try.prog 15 [.int .i64 z].toArray w (K.Ret (fun _ : Nat => True) (fun b => .agg #[.int .i64 z, .slice (some ⟨b, 0, none⟩) 4 4]) (fun b => [K.blk b 45 (rowR.flatMap eC)]) w) := by
  refine K.enter (args := [.int .i64 z]) Try.func15 rfl (n := 9) rfl ?_
  simp only [List.replicate, List.cons_append, List.nil_append]
  refine K.seq ?_
  refine K.region_lit ?_
  refine K.seq_new (K.alloc zr_24) rfl ?_
  intro b2
  try dsimp only [setd, setn, ev, nth, over, cl, eI, eP, eT, eC, List.map, List.append, List.drop, List.take]
  refine K.seq_nil ?_
  refine K.norm_then ?_
  refine K.seq ?_
  refine K.region_lit ?_
  refine K.seq_pure (K.move) rfl ?_
  dsimp only [setd, setn, ev, nth]
  refine K.seq_pure (K.build (bl45 _ _ _)) rfl ?_
  try dsimp only [setd, setn, ev, nth, over, cl, eI, eP, eT, eC, List.map, List.append, List.drop, List.take]
  refine K.seq_pure (K.build (bl45 _ _ _)) rfl ?_
  try dsimp only [setd, setn, ev, nth, over, cl, eI, eP, eT, eC, List.map, List.append, List.drop, List.take]
  refine K.seq_pure (K.build (bl45 _ _ _)) rfl ?_
  try dsimp only [setd, setn, ev, nth, over, cl, eI, eP, eT, eC, List.map, List.append, List.drop, List.take]
  refine K.seq_pure (K.build (bl45 _ _ _)) rfl ?_
  try dsimp only [setd, setn, ev, nth, over, cl, eI, eP, eT, eC, List.map, List.append, List.drop, List.take]
  refine K.seq_new (K.buildSlice (bsR _ _ _ _ _ _ _ _ _ _ _ _)) rfl ?_
  intro b8
  try dsimp only [setd, setn, ev, nth, over, cl, eI, eP, eT, eC, List.map, List.append, List.drop, List.take]
  refine K.seq_pure (K.build (bl24 _ _ _ _)) rfl ?_
  try dsimp only [setd, setn, ev, nth, over, cl, eI, eP, eT, eC, List.map, List.append, List.drop, List.take]
  refine K.seq_st (K.store_all sz_24 rfl rfl rfl rfl (K.rp1)) rfl ?_
  try dsimp only [setd, setn, ev, nth, over, cl, eI, eP, eT, eC, List.map, List.append, List.drop, List.take]
  refine K.seq_nil ?_
  refine K.norm_then ?_
  refine K.ret ?_
  refine K.end_ret (fun w hw => K.res_c rfl rfl (K.run_cellA ag_24 rfl (K.m1) rfl w hw)) ?_
  exact K.rets b8 trivial rfl (List.Sublist.cons_cons _ (List.nil_sublist _))

set_option maxRecDepth 100000 in
theorem c23 (w : World) :
    Calls Try.prog 23 [].toArray w (K.Ret (fun _ : Nat => True) (fun b => .agg #[.int .i64 0, .slice (some ⟨b, 0, none⟩) 2 2]) (fun b => [K.blk b 45 (rowT.flatMap eC)]) w) := by
  refine K.enter (args := []) Try.func23 rfl (n := 5) rfl ?_
  simp only [List.replicate, List.cons_append, List.nil_append]
  refine K.seq ?_
  refine K.region_lit ?_
  refine K.seq_new (K.alloc zr_24) rfl ?_
  intro b0
  try dsimp only [setd, setn, ev, nth, over, cl, eI, eP, eT, eC, List.map, List.append, List.drop, List.take]
  refine K.seq_nil ?_
  refine K.norm_then ?_
  refine K.seq ?_
  refine K.region_lit ?_
  refine K.seq_pure (K.build (bl45h _ _)) rfl ?_
  try dsimp only [setd, setn, ev, nth, over, cl, eI, eP, eT, eC, List.map, List.append, List.drop, List.take]
  refine K.seq_pure (K.build (bl45h _ _)) rfl ?_
  try dsimp only [setd, setn, ev, nth, over, cl, eI, eP, eT, eC, List.map, List.append, List.drop, List.take]
  refine K.seq_new (K.buildSlice (bsT _ _ _ _ _ _)) rfl ?_
  intro b3
  try dsimp only [setd, setn, ev, nth, over, cl, eI, eP, eT, eC, List.map, List.append, List.drop, List.take]
  refine K.seq_pure (K.build (bl24p _ _ _)) rfl ?_
  try dsimp only [setd, setn, ev, nth, over, cl, eI, eP, eT, eC, List.map, List.append, List.drop, List.take]
  refine K.seq_st (K.store_all sz_24 rfl rfl rfl rfl (K.rp1)) rfl ?_
  try dsimp only [setd, setn, ev, nth, over, cl, eI, eP, eT, eC, List.map, List.append, List.drop, List.take]
  refine K.seq_nil ?_
  refine K.norm_then ?_
  refine K.ret ?_
  refine K.end_ret (fun w hw => K.res_c rfl rfl (K.run_cellA ag_24 rfl (K.m1) rfl w hw)) ?_
  exact K.rets b3 trivial rfl (List.Sublist.cons_cons _ (List.nil_sublist _))

set_option maxRecDepth 100000 in
theorem c25 {a b : Int} (w : World) :
    Calls Try.prog 25 [.int .i64 a, .int .i64 b].toArray w (K.Gives (.agg #[.int .i64 a, .int .i64 b]) w) := by
  refine K.enter (args := [.int .i64 a, .int .i64 b]) Try.func25 rfl (n := 6) rfl ?_
  simp only [List.replicate, List.cons_append, List.nil_append]
  refine K.seq ?_
  refine K.region_lit ?_
  refine K.seq_new (K.alloc zr_52) rfl ?_
  intro b4
  try dsimp only [setd, setn, ev, nth, over, cl, eI, eP, eT, eC, List.map, List.append, List.drop, List.take]
  refine K.seq_nil ?_
  refine K.norm_then ?_
  refine K.seq ?_
  refine K.region_lit ?_
  refine K.seq_pure (K.move) rfl ?_
  dsimp only [setd, setn, ev, nth]
  refine K.seq_pure (K.move) rfl ?_
  dsimp only [setd, setn, ev, nth]
  refine K.seq_pure (K.build (bl52 _ _)) rfl ?_
  try dsimp only [setd, setn, ev, nth, over, cl, eI, eP, eT, eC, List.map, List.append, List.drop, List.take]
  refine K.seq_st (K.store_all sz_52 rfl rfl rfl rfl (K.rp0)) rfl ?_
  try dsimp only [setd, setn, ev, nth, over, cl, eI, eP, eT, eC, List.map, List.append, List.drop, List.take]
  refine K.seq_nil ?_
  refine K.norm_then ?_
  refine K.ret ?_
  refine K.end_ret (fun w hw => K.res_c rfl rfl (K.run_cellA ag_52 rfl (K.m0) rfl w hw)) ?_
  exact K.gives rfl

set_option maxRecDepth 100000 in
theorem c21 {a b : Int} (w : World) :
    Calls Try.prog 21 [.int .i64 a, .int .i64 b].toArray w (K.Gives (.agg #[.int .i64 a, .int .i64 b]) w) := by
  refine K.enter (args := [.int .i64 a, .int .i64 b]) Try.func21 rfl (n := 6) rfl ?_
  simp only [List.replicate, List.cons_append, List.nil_append]
  refine K.seq ?_
  refine K.region_lit ?_
  refine K.seq_new (K.alloc zr_64) rfl ?_
  intro b4
  try dsimp only [setd, setn, ev, nth, over, cl, eI, eP, eT, eC, List.map, List.append, List.drop, List.take]
  refine K.seq_nil ?_
  refine K.norm_then ?_
  refine K.seq ?_
  refine K.region_lit ?_
  refine K.seq_pure (K.move) rfl ?_
  dsimp only [setd, setn, ev, nth]
  refine K.seq_pure (K.move) rfl ?_
  dsimp only [setd, setn, ev, nth]
  refine K.seq_pure (K.build (bl64 _ _)) rfl ?_
  try dsimp only [setd, setn, ev, nth, over, cl, eI, eP, eT, eC, List.map, List.append, List.drop, List.take]
  refine K.seq_st (K.store_all sz_64 rfl rfl rfl rfl (K.rp0)) rfl ?_
  try dsimp only [setd, setn, ev, nth, over, cl, eI, eP, eT, eC, List.map, List.append, List.drop, List.take]
  refine K.seq_nil ?_
  refine K.norm_then ?_
  refine K.ret ?_
  refine K.end_ret (fun w hw => K.res_c rfl rfl (K.run_cellA ag_64 rfl (K.m0) rfl w hw)) ?_
  exact K.gives rfl

set_option maxRecDepth 100000 in
theorem c77 {x : Int × Int} (w : World) :
    Calls Try.prog 77 [.agg (K.eP x).toArray].toArray w (K.Gives (.bool (decide (x.1 > x.2))) w) := by
  refine K.enter (args := [.agg (K.eP x).toArray]) Try.func77 rfl (n := 7) rfl ?_
  simp only [List.replicate, List.cons_append, List.nil_append]
  refine K.seq ?_
  refine K.region_lit ?_
  refine K.seq_new (K.box) rfl ?_
  intro b1
  try dsimp only [setd, setn, ev, nth, over, cl, eI, eP, eT, eC, List.map, List.append, List.drop, List.take]
  refine K.seq_pure (K.assign) rfl ?_
  dsimp only [setd, setn, ev, nth]
  refine K.seq_nil ?_
  refine K.norm_then ?_
  refine K.seq ?_
  refine K.region_lit ?_
  refine K.seq_pure (K.fieldAddr_lit fo_52_0 rfl) rfl ?_
  dsimp only [setd, setn, ev, nth]
  refine K.seq_sil (K.load1_own one_3 rfl (K.m0) rfl) rfl ?_
  try dsimp only [setd, setn, ev, nth, over, cl, eI, eP, eT, eC, List.map, List.append, List.drop, List.take]
  refine K.seq_pure (K.fieldAddr_lit fo_52_1 rfl) rfl ?_
  dsimp only [setd, setn, ev, nth]
  refine K.seq_sil (K.load1_own one_3 rfl (K.m0) rfl) rfl ?_
  try dsimp only [setd, setn, ev, nth, over, cl, eI, eP, eT, eC, List.map, List.append, List.drop, List.take]
  refine K.seq_pure (K.gtr rfl rfl) rfl ?_
  dsimp only [setd, setn, ev, nth]
  refine K.seq_pure (K.assign) rfl ?_
  dsimp only [setd, setn, ev, nth]
  refine K.seq_nil ?_
  refine K.norm_then ?_
  refine K.ret ?_
  refine K.end_ret (fun w _ => K.res_tmp rfl w) ?_
  exact K.gives rfl

set_option maxRecDepth 100000 in
theorem c96 {A : Option Addr} {c f : Nat} {cap : List Value} {xs : List (Int × Int)} {p : (Int × Int) → Bool} {w : World} (hR : K.Rd w A 2 K.eP xs) (hn : xs.length ≤ 4611686018427387904) (hcal : K.callable Try.prog f = true) (hf : ∀ x ∈ xs, ∀ w1, Below w.heap.size w w1 → Calls Try.prog f ([Value.agg (K.eP x).toArray] ++ cap).toArray w1 (K.Gives (.bool (p x)) w1)) :
    Calls Try.prog 96 [.slice A xs.length c, .func (.func f) #[] cap.toArray].toArray w (K.Gives (.int .i64 (K.idx p xs)) w) := by
  refine K.enter (args := [.slice A xs.length c, .func (.func f) #[] cap.toArray]) Try.func96 rfl (n := 17) rfl ?_
  simp only [List.replicate, List.cons_append, List.nil_append]
  refine K.seq ?_
  refine K.region_lit ?_
  refine K.seq_pure (K.assign) rfl ?_
  dsimp only [setd, setn, ev, nth]
  refine K.seq_nil ?_
  refine K.norm_then ?_
  refine K.seq ?_
  refine K.seq ?_
  refine K.region_lit ?_
  refine K.seq_pure (K.move) rfl ?_
  dsimp only [setd, setn, ev, nth]
  refine K.seq_pure (K.len_sl sl_48 rfl) rfl ?_
  dsimp only [setd, setn, ev, nth]
  refine K.seq_pure (K.move) rfl ?_
  dsimp only [setd, setn, ev, nth]
  refine K.seq_nil ?_
  refine K.norm_then ?_
  refine K.block ?_
  refine K.loopW [8] [4, 5, 9, 10, 11, 12, 13, 14, 15, 16, 17, 18] (fun vi L => ∃ k : Nat, vi = [.int .i64 (k : Int)] ∧ L = [] ∧ k ≤ xs.length ∧ ∀ j, j < k → p (xs.getD j default) = false) (fun vi => xs.length - (intOf (K.nth vi 0)).toNat) ?_ ?_
  · exact ⟨0, rfl, rfl, Nat.zero_le _, fun j hj => absurd hj (Nat.not_lt_zero j)⟩
  intro vi vr L hJ
  obtain ⟨k, rfl, rfl, hkn, hall⟩ := hJ
  try dsimp only [setd, setn, ev, nth, over, cl, eI, eP, eT, eC, setM, setF, List.map, List.append, List.drop, List.take]
  refine K.seq ?_
  refine K.region_lit ?_
  refine K.seq_pure (K.lss rfl rfl) rfl ?_
  dsimp only [setd, setn, ev, nth]
  refine K.seq_nil ?_
  refine K.norm_then ?_
  refine K.seq ?_
  refine K.cond rfl (fun ht9 => ?_) (fun ht9 => ?_)
  · try replace ht9 := of_decide_eq_true ht9
    have hk : k < xs.length := by omega
    refine K.skip ?_
    refine K.norm_then ?_
    refine K.seq ?_
    refine K.block ?_
    refine K.seq ?_
    refine K.region_lit ?_
    refine K.seq_pure (K.move) rfl ?_
    dsimp only [setd, setn, ev, nth]
    refine K.seq_pure (K.assign) rfl ?_
    dsimp only [setd, setn, ev, nth]
    refine K.seq_nil ?_
    refine K.norm_then ?_
    refine K.seq ?_
    refine K.region_lit ?_
    refine K.seq_pure (K.move) rfl ?_
    dsimp only [setd, setn, ev, nth]
    refine K.seq_pure (K.move) rfl ?_
    dsimp only [setd, setn, ev, nth]
    refine K.seq_pure (K.move) rfl ?_
    dsimp only [setd, setn, ev, nth]
    refine K.seq_ix (M := []) _ hR.sl sl_48 rfl rfl rfl (by omega) rfl ?_
    intro p14 hp14
    try dsimp only [setd, setn, ev, nth, over, cl, eI, eP, eT, eC, List.map, List.append, List.drop, List.take]
    refine K.seq_sil (K.loadA_p ag_52 rfl (hp14.any) rfl) rfl ?_
    try dsimp only [setd, setn, ev, nth, over, cl, eI, eP, eT, eC, List.map, List.append, List.drop, List.take]
    refine K.seq_call (K.callv_g (first := []) (cap := cap) rfl hcal (fun F w1 _ hw => hf _ (K.gt_mem hk) w1 hw.1)) rfl ?_
    try dsimp only [setd, setn, ev, nth, over, cl, eI, eP, eT, eC, List.map, List.append, List.drop, List.take]
    refine K.seq_nil ?_
    refine K.norm_then ?_
    refine K.cond rfl (fun ht16 => ?_) (fun ht16 => ?_)
    · try replace ht16 := of_decide_eq_true ht16
      refine K.seq ?_
      refine K.region_lit ?_
      refine K.seq_pure (K.move) rfl ?_
      dsimp only [setd, setn, ev, nth]
      refine K.seq_pure (K.assign) rfl ?_
      dsimp only [setd, setn, ev, nth]
      refine K.seq_nil ?_
      refine K.norm_then ?_
      refine K.ret ?_
      refine K.ret_block ?_
      refine K.ret_then ?_
      refine K.ret_then ?_
      refine K.ret_block ?_
      refine K.ret_then ?_
      refine K.end_ret (fun w _ => K.res_tmp rfl w) ?_
      exact K.gives_i rfl (K.idx_found hk hall ht16).symm
    try replace ht16 := of_decide_eq_false ht16
    refine K.skip ?_
    refine K.norm_block ?_
    refine K.norm_then ?_
    refine K.region_lit ?_
    refine K.seq_pure (K.add_i64 rfl rfl (by omega)) rfl ?_
    dsimp only [setd, setn, ev, nth]
    refine K.seq_pure (K.move) rfl ?_
    dsimp only [setd, setn, ev, nth]
    refine K.seq_nil ?_
    exact K.round_endW [.int .i64 ((k : Int) + 1)] ⟨k + 1, rfl, rfl, by omega, K.lt_succ_case hall ht16⟩ (by simp [K.nth, intOf]; omega) (List.Sublist.refl _) (by kernel_rfl)
  try replace ht9 := of_decide_eq_false ht9
  refine K.exit ?_
  refine K.exit_then ?_
  refine K.exit_then ?_
  refine K.exit_here ?_
  refine K.norm_then ?_
  refine K.seq ?_
  refine K.region_lit ?_
  refine K.seq_pure (K.assign) rfl ?_
  dsimp only [setd, setn, ev, nth]
  refine K.seq_nil ?_
  refine K.norm_then ?_
  refine K.ret ?_
  refine K.end_ret (fun w _ => K.res_tmp rfl w) ?_
  exact K.gives_i rfl (K.idx_none (fun j hj => hall j (by omega))).symm

set_option maxRecDepth 100000 in
theorem c76 {A : Option Addr} {c f : Nat} {cap : List Value} {xs : List (Int × Int)} {p : (Int × Int) → Bool} {w : World} (hR : K.Rd w A 2 K.eP xs) (hn : xs.length ≤ 4611686018427387904) (hcal : K.callable Try.prog f = true) (hf : ∀ x ∈ xs, ∀ w1, Below w.heap.size w w1 → Calls Try.prog f ([Value.agg (K.eP x).toArray] ++ cap).toArray w1 (K.Gives (.bool (p x)) w1)) :
    Calls Try.prog 76 [.slice A xs.length c, .func (.func f) #[] cap.toArray].toArray w (K.Gives (.bool (xs.any p)) w) := by
  refine K.enter (args := [.slice A xs.length c, .func (.func f) #[] cap.toArray]) Try.func76 rfl (n := 7) rfl ?_
  simp only [List.replicate, List.cons_append, List.nil_append]
  refine K.seq ?_
  refine K.region_lit ?_
  refine K.seq_pure (K.assign) rfl ?_
  dsimp only [setd, setn, ev, nth]
  refine K.seq_nil ?_
  refine K.norm_then ?_
  refine K.seq ?_
  refine K.region_lit ?_
  refine K.seq_pure (K.move) rfl ?_
  dsimp only [setd, setn, ev, nth]
  refine K.seq_pure (K.move) rfl ?_
  dsimp only [setd, setn, ev, nth]
  refine K.seq_call (K.call_g cal_96 (fun F w hF hw => c96 (p := p) (cap := cap) (hR.pass hw) hn hcal (fun x hx w1 hb => hf x hx w1 (hw.1.trans (hb.mono hw.1.size))))) rfl ?_
  try dsimp only [setd, setn, ev, nth, over, cl, eI, eP, eT, eC, List.map, List.append, List.drop, List.take]
  refine K.seq_pure (K.geq rfl rfl) rfl ?_
  dsimp only [setd, setn, ev, nth]
  refine K.seq_pure (K.assign) rfl ?_
  dsimp only [setd, setn, ev, nth]
  refine K.seq_nil ?_
  refine K.norm_then ?_
  refine K.ret ?_
  refine K.end_ret (fun w _ => K.res_tmp rfl w) ?_
  exact K.gives_b rfl K.idx_ge

end Go.Proofs.Ytfbglomliankmaa.Cv
end
