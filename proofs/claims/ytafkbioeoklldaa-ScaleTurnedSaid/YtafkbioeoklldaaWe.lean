/-
  Walks of the program's functions, printed by program: what each returns.
  Conditions stand in each theorem.
-/
import Derived.Test.YtafkbioeoklldaaKf
import Derived.Test.YtafkbioeoklldaaK2
import Derived.WalkArith
import Derived.Test.YtafkbioeoklldaaS1
import Derived.Test.YtafkbioeoklldaaWa
import Derived.Test.YtafkbioeoklldaaWb
import Derived.Test.YtafkbioeoklldaaWc
import Derived.Test.YtafkbioeoklldaaWd
set_option linter.unusedSimpArgs false
set_option linter.unusedVariables false
namespace Go.Proofs.Ytafkbioeoklldaa
open Go.RowKit Go
open Go.K (setd setn ev nth over cl eI eP eT setM setF)
attribute [local irreducible] K.blk K.row

set_option maxRecDepth 100000 in
theorem c59 {kind base most : Int} {A B : Option Addr} {c d : Nat} {hs : List Int} {rs : List (Int × Int)} {u v : Int} {w : World} (hH : K.Rd w A 1 K.eI hs) (g : Good kind base most hs rs) (hp : Parts u v) :
    Calls Try.prog 59 [.agg #[.int .i64 kind, .int .i64 base, .int .i64 most, .slice A hs.length c, .slice B rs.length d, .func (.func (98 + kind.toNat)) #[] #[]], .agg #[.int .i64 u, .int .i64 v]].toArray w (K.Gives (.tuple #[.agg (a8 (cuts kind base u v hs)).toArray, .bool (fitB most (cuts kind base u v hs))]) w) := by
  have g1 := g.k
  have g2 := g.n
  have g3 := g.r
  have g4 := g.b
  have g5 := g.m
  refine K.enter (args := [.agg #[.int .i64 kind, .int .i64 base, .int .i64 most, .slice A hs.length c, .slice B rs.length d, .func (.func (98 + kind.toNat)) #[] #[]], .agg #[.int .i64 u, .int .i64 v]]) Try.func59 rfl (n := 44) rfl ?_
  simp only [List.replicate, List.cons_append, List.nil_append]
  refine K.seq ?_
  refine K.region_lit ?_
  refine K.seq_new (K.box) rfl ?_
  intro b2
  try dsimp only [setd, setn, ev, nth, over, cl, eI, eP, eT, List.map, List.append, List.drop, List.take]
  refine K.seq_new (K.box) rfl ?_
  intro b3
  try dsimp only [setd, setn, ev, nth, over, cl, eI, eP, eT, List.map, List.append, List.drop, List.take]
  refine K.seq_new (K.alloc zr_101) rfl ?_
  intro b4
  try dsimp only [setd, setn, ev, nth, over, cl, eI, eP, eT, List.map, List.append, List.drop, List.take]
  refine K.seq_pure (K.assign) rfl ?_
  dsimp only [setd, setn, ev, nth]
  refine K.seq_nil ?_
  refine K.norm_then ?_
  refine K.seq ?_
  refine K.region_lit ?_
  refine K.seq_pure (K.assign) rfl ?_
  dsimp only [setd, setn, ev, nth]
  refine K.seq_nil ?_
  refine K.norm_then ?_
  refine K.seq ?_
  refine K.seq ?_
  refine K.region_lit ?_
  refine K.seq_pure (K.fieldAddr_lit fo_97_0 rfl) rfl ?_
  dsimp only [setd, setn, ev, nth]
  refine K.seq_pure (K.fieldAddr_lit fo_25_3 rfl) rfl ?_
  dsimp only [setd, setn, ev, nth]
  refine K.seq_sil (K.load1_own one_22 rfl (K.m2) rfl) rfl ?_
  try dsimp only [setd, setn, ev, nth, over, cl, eI, eP, eT, List.map, List.append, List.drop, List.take]
  refine K.seq_pure (K.len_sl sl_22 rfl) rfl ?_
  dsimp only [setd, setn, ev, nth]
  refine K.seq_pure (K.move) rfl ?_
  dsimp only [setd, setn, ev, nth]
  refine K.seq_nil ?_
  refine K.norm_then ?_
  refine K.block ?_
  refine K.loopW [5, 12] [6, 7, 13, 14, 15, 16, 17, 18, 19, 20, 21, 22, 23, 24, 25, 26, 27, 28, 29, 30, 31, 32, 33, 34, 35, 36, 37, 38, 39, 40, 41, 42, 43] (fun vi L => ∃ (k : Nat) (fb : Bool) (ys : List Value), vi = [.bool fb, .int .i64 (k : Int)] ∧ L = [K.blk b4 101 ys, K.blk b3 27 [.int .i64 u, .int .i64 v], K.blk b2 97 [.int .i64 kind, .int .i64 base, .int .i64 most, .slice A hs.length c, .slice B rs.length d, .func (.func (98 + kind.toNat)) #[] #[]]] ∧ fb = fitB most ((hs.take k).map (ct kind base u v)) ∧ ys = a8 ((hs.take k).map (ct kind base u v)) ∧ k ≤ hs.length) (fun vi => hs.length - (intOf (K.nth vi 1)).toNat) ?_ ?_
  · exact ⟨0, true, _, rfl, rfl, rfl, a8_nil.symm, Nat.zero_le _⟩
  intro vi vr L hJ
  obtain ⟨k, fb, ys, rfl, rfl, hfb, hys, hkn⟩ := hJ
  try dsimp only [setd, setn, ev, nth, over, cl, eI, eP, eT, setM, setF, List.map, List.append, List.drop, List.take]
  refine K.seq ?_
  refine K.region_lit ?_
  refine K.seq_pure (K.lss rfl rfl) rfl ?_
  dsimp only [setd, setn, ev, nth]
  refine K.seq_nil ?_
  refine K.norm_then ?_
  refine K.seq ?_
  refine K.cond rfl (fun ht13 => ?_) (fun ht13 => ?_)
  · try replace ht13 := of_decide_eq_true ht13
    have hk : k < hs.length := by omega
    refine K.skip ?_
    refine K.norm_then ?_
    refine K.seq ?_
    refine K.block ?_
    refine K.seq ?_
    refine K.region_lit ?_
    refine K.seq_pure (K.move) rfl ?_
    dsimp only [setd, setn, ev, nth]
    refine K.seq_ix (M := []) _ hH.sl sl_22 rfl rfl rfl (by omega) rfl ?_
    intro p15 hp15
    try dsimp only [setd, setn, ev, nth, over, cl, eI, eP, eT, List.map, List.append, List.drop, List.take]
    refine K.seq_sil (K.load1 one_3 rfl (hp15.any)) rfl ?_
    try dsimp only [setd, setn, ev, nth, over, cl, eI, eP, eT, List.map, List.append, List.drop, List.take]
    refine K.seq_pure (K.assign) rfl ?_
    dsimp only [setd, setn, ev, nth]
    refine K.seq_pure (K.assign) rfl ?_
    dsimp only [setd, setn, ev, nth]
    refine K.seq_nil ?_
    refine K.norm_then ?_
    refine K.seq ?_
    have hg := g.at hk
    have hm := mul_bd (show 0 ≤ hs.getD k default - base by omega) (show hs.getD k default - base ≤ 9000 by omega) (show 0 ≤ u by omega) (show u ≤ 30 by omega)
    refine K.region_lit ?_
    refine K.seq_pure (K.move) rfl ?_
    dsimp only [setd, setn, ev, nth]
    refine K.seq_pure (K.fieldAddr_lit fo_97_1 rfl) rfl ?_
    dsimp only [setd, setn, ev, nth]
    refine K.seq_pure (K.fieldAddr_lit fo_95_0 rfl) rfl ?_
    dsimp only [setd, setn, ev, nth]
    refine K.seq_sil (K.load1_own one_93 rfl (K.m2) rfl) rfl ?_
    try dsimp only [setd, setn, ev, nth, over, cl, eI, eP, eT, List.map, List.append, List.drop, List.take]
    refine K.seq_pure (K.move) rfl ?_
    dsimp only [setd, setn, ev, nth]
    refine K.seq_pure (K.fieldAddr_lit fo_97_0 rfl) rfl ?_
    dsimp only [setd, setn, ev, nth]
    refine K.seq_pure (K.fieldAddr_lit fo_25_1 rfl) rfl ?_
    dsimp only [setd, setn, ev, nth]
    refine K.seq_sil (K.load1_own one_3 rfl (K.m2) rfl) rfl ?_
    try dsimp only [setd, setn, ev, nth, over, cl, eI, eP, eT, List.map, List.append, List.drop, List.take]
    refine K.seq_pure (K.sub_i64 rfl rfl (by omega)) rfl ?_
    dsimp only [setd, setn, ev, nth]
    refine K.seq_pure (K.fieldAddr_lit fo_27_0 rfl) rfl ?_
    dsimp only [setd, setn, ev, nth]
    refine K.seq_sil (K.load1_own one_3 rfl (K.m1) rfl) rfl ?_
    try dsimp only [setd, setn, ev, nth, over, cl, eI, eP, eT, List.map, List.append, List.drop, List.take]
    refine K.seq_pure (K.mul_i64 rfl rfl (by omega)) rfl ?_
    dsimp only [setd, setn, ev, nth]
    refine K.seq_pure (K.fieldAddr_lit fo_27_1 rfl) rfl ?_
    dsimp only [setd, setn, ev, nth]
    refine K.seq_sil (K.load1_own one_3 rfl (K.m1) rfl) rfl ?_
    try dsimp only [setd, setn, ev, nth, over, cl, eI, eP, eT, List.map, List.append, List.drop, List.take]
    refine K.seq_call (K.callv_g (first := []) (cap := []) rfl (cal_r g.k) (fun F w1 _ hw => cRound g.k (by omega) (by omega) hp w1)) rfl ?_
    try dsimp only [setd, setn, ev, nth, over, cl, eI, eP, eT, List.map, List.append, List.drop, List.take]
    refine K.seq_pure (K.indexAddr_ar ar_101 rfl rfl (by omega) (by omega)) rfl ?_
    try dsimp only [setd, setn, ev, nth, over, cl, eI, eP, eT, List.map, List.append, List.drop, List.take]
    refine K.seq_st (K.store_ix sz_3 rfl rfl (by rw [hys, a8_len]; omega) rfl (K.Rep.here)) rfl ?_
    try dsimp only [setd, setn, ev, nth, over, cl, eI, eP, eT, List.map, List.append, List.drop, List.take]
    subst hys
    rw [a8_over (xs := ((hs.take k).map (ct kind base u v))) (by simp; omega) (by simp; omega)]
    try dsimp only [setd, setn, ev, nth, over, cl, eI, eP, eT, List.map, List.append, List.drop, List.take]
    refine K.seq_nil ?_
    refine K.norm_then ?_
    refine K.draw_L [] Try_mixed ?_
    refine K.d_pure 0 rfl (K.move) (by kernel_rfl) rfl ?_
    dsimp only [setd, setn, ev, nth]
    refine K.d_pure 1 rfl (K.move) (by kernel_rfl) rfl ?_
    dsimp only [setd, setn, ev, nth]
    refine K.dsplit 34 rfl (fun hg34 => ?_) (fun hg34 => ?_)
    · try replace hg34 := of_decide_eq_true hg34
      refine K.d_pure 2 rfl (K.move) (by kernel_rfl) rfl ?_
      dsimp only [setd, setn, ev, nth]
      refine K.d_pure 3 rfl (K.indexAddr_ar ar_101 rfl rfl (by omega) (by omega)) (by kernel_rfl) rfl ?_
      try dsimp only [setd, setn, ev, nth, over, cl, eI, eP, eT, List.map, List.append, List.drop, List.take]
      refine K.d_mem 4 rfl (load8 one_3 rfl (K.m0) (by omega) (by omega)) (fun _ h => h) (by kernel_rfl) (by kernel_rfl) rfl ?_
      try dsimp only [setd, setn, ev, nth, over, cl, eI, eP, eT, List.map, List.append, List.drop, List.take]
      refine K.d_pure 5 rfl (K.fieldAddr_lit fo_97_0 rfl) (by kernel_rfl) rfl ?_
      dsimp only [setd, setn, ev, nth]
      refine K.d_pure 6 rfl (K.fieldAddr_lit fo_25_2 rfl) (by kernel_rfl) rfl ?_
      dsimp only [setd, setn, ev, nth]
      refine K.d_mem 7 rfl (K.load1_own one_3 rfl (K.m2) rfl) (fun _ h => h) (by kernel_rfl) (by kernel_rfl) rfl ?_
      try dsimp only [setd, setn, ev, nth, over, cl, eI, eP, eT, List.map, List.append, List.drop, List.take]
      refine K.d_pure 8 rfl (K.leq rfl rfl) (by kernel_rfl) rfl ?_
      dsimp only [setd, setn, ev, nth]
      refine K.d_pure 9 rfl (K.pick_t rfl) (by kernel_rfl) rfl ?_
      dsimp only [setd, setn, ev, nth]
      refine K.d_pure 10 rfl (K.assign) (by kernel_rfl) rfl ?_
      dsimp only [setd, setn, ev, nth]
      refine K.d_done (by kernel_rfl) ?_
      refine K.norm_block ?_
      refine K.norm_then ?_
      refine K.region_lit ?_
      refine K.seq_pure (K.add_i64 rfl rfl (by omega)) rfl ?_
      dsimp only [setd, setn, ev, nth]
      refine K.seq_pure (K.move) rfl ?_
      dsimp only [setd, setn, ev, nth]
      refine K.seq_nil ?_
      have hx : (((hs.take k).map (ct kind base u v)) ++ [ct kind base u v (hs.getD k default)]).getD (Int.toNat (k : Int)) default = ct kind base u v (hs.getD k default) := snoc_at (by simp; omega)
      exact K.round_endW [.bool (decide ((((hs.take k).map (ct kind base u v)) ++ [ct kind base u v (hs.getD k default)]).getD (Int.toNat (k : Int)) default ≤ most)), .int .i64 ((k : Int) + 1)] ⟨k + 1, _, _, rfl, rfl, by rw [take_succ_map _ hk, fitB_snoc, ← hfb, hg34]; first | rfl | (rw [hx]; rfl), by rw [take_succ_map _ hk], by omega⟩ (by simp [K.nth, intOf]; omega) (by repeat (first | exact List.Sublist.refl _ | apply List.Sublist.cons)) (by kernel_rfl)
    try replace hg34 := of_decide_eq_false hg34
    refine K.d_skip 2 rfl (by kernel_rfl) rfl ?_
    try dsimp only [setd, setn, ev, nth, over, cl, eI, eP, eT, List.map, List.append, List.drop, List.take]
    refine K.d_skip 3 rfl (by kernel_rfl) rfl ?_
    try dsimp only [setd, setn, ev, nth, over, cl, eI, eP, eT, List.map, List.append, List.drop, List.take]
    refine K.d_skip 4 rfl (by kernel_rfl) rfl ?_
    try dsimp only [setd, setn, ev, nth, over, cl, eI, eP, eT, List.map, List.append, List.drop, List.take]
    refine K.d_skip 5 rfl (by kernel_rfl) rfl ?_
    try dsimp only [setd, setn, ev, nth, over, cl, eI, eP, eT, List.map, List.append, List.drop, List.take]
    refine K.d_skip 6 rfl (by kernel_rfl) rfl ?_
    try dsimp only [setd, setn, ev, nth, over, cl, eI, eP, eT, List.map, List.append, List.drop, List.take]
    refine K.d_skip 7 rfl (by kernel_rfl) rfl ?_
    try dsimp only [setd, setn, ev, nth, over, cl, eI, eP, eT, List.map, List.append, List.drop, List.take]
    refine K.d_skip 8 rfl (by kernel_rfl) rfl ?_
    try dsimp only [setd, setn, ev, nth, over, cl, eI, eP, eT, List.map, List.append, List.drop, List.take]
    refine K.d_pure 9 rfl (K.pick_f rfl) (by kernel_rfl) rfl ?_
    dsimp only [setd, setn, ev, nth]
    refine K.d_pure 10 rfl (K.assign) (by kernel_rfl) rfl ?_
    dsimp only [setd, setn, ev, nth]
    refine K.d_done (by kernel_rfl) ?_
    refine K.norm_block ?_
    refine K.norm_then ?_
    refine K.region_lit ?_
    refine K.seq_pure (K.add_i64 rfl rfl (by omega)) rfl ?_
    dsimp only [setd, setn, ev, nth]
    refine K.seq_pure (K.move) rfl ?_
    dsimp only [setd, setn, ev, nth]
    refine K.seq_nil ?_
    have hx : (((hs.take k).map (ct kind base u v)) ++ [ct kind base u v (hs.getD k default)]).getD (Int.toNat (k : Int)) default = ct kind base u v (hs.getD k default) := snoc_at (by simp; omega)
    exact K.round_endW [.bool (false), .int .i64 ((k : Int) + 1)] ⟨k + 1, _, _, rfl, rfl, by rw [take_succ_map _ hk, fitB_snoc, ← hfb, hg34]; first | rfl | (rw [hx]; rfl), by rw [take_succ_map _ hk], by omega⟩ (by simp [K.nth, intOf]; omega) (by repeat (first | exact List.Sublist.refl _ | apply List.Sublist.cons)) (by kernel_rfl)
  try replace ht13 := of_decide_eq_false ht13
  refine K.exit ?_
  refine K.exit_then ?_
  refine K.exit_then ?_
  refine K.exit_here ?_
  refine K.norm_then ?_
  refine K.seq ?_
  subst hys
  refine K.region_lit ?_
  refine K.seq_sil (K.loadA_own ag_101 rfl (K.m0) rfl) rfl ?_
  try dsimp only [setd, setn, ev, nth, over, cl, eI, eP, eT, List.map, List.append, List.drop, List.take]
  refine K.seq_pure (K.move) rfl ?_
  dsimp only [setd, setn, ev, nth]
  refine K.seq_st (K.store_all sz_101 rfl rfl rfl rfl (K.rp0)) rfl ?_
  try dsimp only [setd, setn, ev, nth, over, cl, eI, eP, eT, List.map, List.append, List.drop, List.take]
  refine K.seq_pure (K.assign) rfl ?_
  dsimp only [setd, setn, ev, nth]
  refine K.seq_nil ?_
  refine K.norm_then ?_
  refine K.ret ?_
  refine K.end_ret (fun w hw => K.res_ct rfl rfl (K.run_cellA ag_101 rfl (K.m0) rfl w hw)) ?_
  exact K.gives (by rw [hfb, take_all (xs := hs) (by omega)]; rfl)

set_option maxRecDepth 100000 in
theorem c62 {kind base most : Int} {A B : Option Addr} {c d : Nat} {hs : List Int} {rs : List (Int × Int)} {r : Int × Int} {cs : List Int} {u v : Int} {w : World} (hH : K.Rd w A 1 K.eI hs) (hr : 0 ≤ r.1 ∧ r.1 < hs.length ∧ 0 ≤ r.2 ∧ r.2 < hs.length) (h8 : hs.length ≤ 8) (hb : Bd 0 9000 hs) (hc : Bd 0 270001 cs) (hp : Parts u v) :
    Calls Try.prog 62 [.agg #[.int .i64 kind, .int .i64 base, .int .i64 most, .slice A hs.length c, .slice B rs.length d, .func (.func (98 + kind.toNat)) #[] #[]], .agg #[.int .i64 r.1, .int .i64 r.2], .agg #[.int .i64 u, .int .i64 v], .agg (a8 cs).toArray].toArray w (K.Gives (.int .i64 (offS u v (riseS hs r) (riseS cs r))) w) := by
  have q1 := hb r.1.toNat
  have q2 := hb r.2.toNat
  have q3 := hc r.1.toNat
  have q4 := hc r.2.toNat
  have q5 : -9000 ≤ riseS hs r ∧ riseS hs r ≤ 9000 := by unfold riseS; omega
  have q6 : -270001 ≤ riseS cs r ∧ riseS cs r ≤ 270001 := by unfold riseS; omega
  have q7 := mulb (A := 30) (show 0 ≤ v ∧ v ≤ 30 by omega) q6
  have q8 := mulb (A := 30) (show 0 ≤ u ∧ u ≤ 30 by omega) q5
  refine K.enter (args := [.agg #[.int .i64 kind, .int .i64 base, .int .i64 most, .slice A hs.length c, .slice B rs.length d, .func (.func (98 + kind.toNat)) #[] #[]], .agg #[.int .i64 r.1, .int .i64 r.2], .agg #[.int .i64 u, .int .i64 v], .agg (a8 cs).toArray]) Try.func62 rfl (n := 44) rfl ?_
  simp only [List.replicate, List.cons_append, List.nil_append]
  refine K.seq ?_
  refine K.region_lit ?_
  refine K.seq_new (K.box) rfl ?_
  intro b4
  try dsimp only [setd, setn, ev, nth, over, cl, eI, eP, eT, List.map, List.append, List.drop, List.take]
  refine K.seq_new (K.box) rfl ?_
  intro b5
  try dsimp only [setd, setn, ev, nth, over, cl, eI, eP, eT, List.map, List.append, List.drop, List.take]
  refine K.seq_new (K.box) rfl ?_
  intro b6
  try dsimp only [setd, setn, ev, nth, over, cl, eI, eP, eT, List.map, List.append, List.drop, List.take]
  refine K.seq_new (K.box) rfl ?_
  intro b7
  try dsimp only [setd, setn, ev, nth, over, cl, eI, eP, eT, List.map, List.append, List.drop, List.take]
  refine K.seq_pure (K.assign) rfl ?_
  dsimp only [setd, setn, ev, nth]
  refine K.seq_nil ?_
  refine K.norm_then ?_
  refine K.seq ?_
  refine K.region_lit ?_
  refine K.seq_sil (K.loadA_own ag_97 rfl (K.m3) rfl) rfl ?_
  try dsimp only [setd, setn, ev, nth, over, cl, eI, eP, eT, List.map, List.append, List.drop, List.take]
  refine K.seq_sil (K.loadA_own ag_79 rfl (K.m2) rfl) rfl ?_
  try dsimp only [setd, setn, ev, nth, over, cl, eI, eP, eT, List.map, List.append, List.drop, List.take]
  refine K.seq_sil (K.loadA_own ag_101 rfl ((K.m0)) (by rw [a8_len]; rfl)) rfl ?_
  try dsimp only [setd, setn, ev, nth, over, cl, eI, eP, eT, List.map, List.append, List.drop, List.take]
  refine K.seq_call (K.call_g cal_88 (fun F w hF hw => c88 (r := r) (cs := cs) (hH.pass hw) hr h8 hb hc)) rfl ?_
  try dsimp only [setd, setn, ev, nth, over, cl, eI, eP, eT, List.map, List.append, List.drop, List.take]
  refine K.seq_pure (K.move) rfl ?_
  dsimp only [setd, setn, ev, nth]
  refine K.seq_pure (K.extract rfl rfl) rfl ?_
  dsimp only [setd, setn, ev, nth]
  refine K.seq_pure (K.extract rfl rfl) rfl ?_
  dsimp only [setd, setn, ev, nth]
  refine K.seq_pure (K.assign) rfl ?_
  dsimp only [setd, setn, ev, nth]
  refine K.seq_pure (K.assign) rfl ?_
  dsimp only [setd, setn, ev, nth]
  refine K.seq_nil ?_
  refine K.norm_then ?_
  refine K.seq ?_
  refine K.seq ?_
  refine K.region_lit ?_
  refine K.seq_pure (K.move) rfl ?_
  dsimp only [setd, setn, ev, nth]
  refine K.seq_pure (K.eql rfl rfl) rfl ?_
  dsimp only [setd, setn, ev, nth]
  refine K.seq_nil ?_
  refine K.norm_then ?_
  refine K.cond rfl (fun ht21 => ?_) (fun ht21 => ?_)
  · try replace ht21 := of_decide_eq_true ht21
    refine K.seq ?_
    refine K.region_lit ?_
    refine K.seq_pure (K.assign) rfl ?_
    dsimp only [setd, setn, ev, nth]
    refine K.seq_nil ?_
    refine K.norm_then ?_
    refine K.ret ?_
    refine K.ret_then ?_
    refine K.end_ret (fun w _ => K.res_tmp rfl w) ?_
    exact K.gives_i rfl (by unfold offS; rw [if_pos ht21])
  try replace ht21 := of_decide_eq_false ht21
  have q9 := mul_bd (A := 30) (B := 9000) (show 0 ≤ u by omega) (show u ≤ 30 by omega) (show 0 ≤ max (riseS hs r) (-(riseS hs r)) by omega) (show max (riseS hs r) (-(riseS hs r)) ≤ 9000 by omega)
  have q10 : 1 ≤ u * max (riseS hs r) (-(riseS hs r)) := Int.mul_pos (by omega) (by omega)
  refine K.skip ?_
  refine K.norm_then ?_
  refine K.seq ?_
  refine K.draw_L [] Try_mixed ?_
  refine K.d_pure 0 rfl (K.fieldAddr_lit fo_27_1 rfl) (by kernel_rfl) rfl ?_
  dsimp only [setd, setn, ev, nth]
  refine K.d_mem 1 rfl (K.load1_own one_3 rfl (K.m1) rfl) (fun _ h => h) (by kernel_rfl) (by kernel_rfl) rfl ?_
  try dsimp only [setd, setn, ev, nth, over, cl, eI, eP, eT, List.map, List.append, List.drop, List.take]
  refine K.d_pure 2 rfl (K.move) (by kernel_rfl) rfl ?_
  dsimp only [setd, setn, ev, nth]
  refine K.d_pure 3 rfl (K.mul_i64 rfl rfl (by omega)) (by kernel_rfl) rfl ?_
  dsimp only [setd, setn, ev, nth]
  refine K.d_pure 4 rfl (K.fieldAddr_lit fo_27_0 rfl) (by kernel_rfl) rfl ?_
  dsimp only [setd, setn, ev, nth]
  refine K.d_mem 5 rfl (K.load1_own one_3 rfl (K.m1) rfl) (fun _ h => h) (by kernel_rfl) (by kernel_rfl) rfl ?_
  try dsimp only [setd, setn, ev, nth, over, cl, eI, eP, eT, List.map, List.append, List.drop, List.take]
  refine K.d_pure 6 rfl (K.move) (by kernel_rfl) rfl ?_
  dsimp only [setd, setn, ev, nth]
  refine K.d_pure 7 rfl (K.mul_i64 rfl rfl (by omega)) (by kernel_rfl) rfl ?_
  dsimp only [setd, setn, ev, nth]
  refine K.d_pure 8 rfl (K.sub_i64 rfl rfl (by omega)) (by kernel_rfl) rfl ?_
  dsimp only [setd, setn, ev, nth]
  refine K.d_pure 9 rfl (K.mul_i64 rfl rfl (by omega)) (by kernel_rfl) rfl ?_
  dsimp only [setd, setn, ev, nth]
  refine K.d_pure 10 rfl (K.fieldAddr_lit fo_27_0 rfl) (by kernel_rfl) rfl ?_
  dsimp only [setd, setn, ev, nth]
  refine K.d_mem 11 rfl (K.load1_own one_3 rfl (K.m1) rfl) (fun _ h => h) (by kernel_rfl) (by kernel_rfl) rfl ?_
  try dsimp only [setd, setn, ev, nth, over, cl, eI, eP, eT, List.map, List.append, List.drop, List.take]
  refine K.d_pure 12 rfl (K.move) (by kernel_rfl) rfl ?_
  dsimp only [setd, setn, ev, nth]
  refine K.d_pure 13 rfl (K.move) (by kernel_rfl) rfl ?_
  dsimp only [setd, setn, ev, nth]
  refine K.d_pure 14 rfl (K.neg_i64 rfl (by omega)) (by kernel_rfl) rfl ?_
  dsimp only [setd, setn, ev, nth]
  refine K.d_pure 15 rfl (K.max_int rfl rfl) (by kernel_rfl) rfl ?_
  dsimp only [setd, setn, ev, nth]
  refine K.d_pure 16 rfl (K.mul_i64 rfl rfl (by omega)) (by kernel_rfl) rfl ?_
  dsimp only [setd, setn, ev, nth]
  refine K.d_pure 17 rfl (K.assign) (by kernel_rfl) rfl ?_
  dsimp only [setd, setn, ev, nth]
  refine K.d_pure 18 rfl (K.assign) (by kernel_rfl) rfl ?_
  dsimp only [setd, setn, ev, nth]
  refine K.d_done (by kernel_rfl) ?_
  refine K.norm_then ?_
  refine K.seq ?_
  refine K.region_lit ?_
  refine K.seq_pure (K.move) rfl ?_
  dsimp only [setd, setn, ev, nth]
  refine K.seq_pure (K.move) rfl ?_
  dsimp only [setd, setn, ev, nth]
  refine K.seq_pure (K.neg_i64 rfl (by omega)) rfl ?_
  dsimp only [setd, setn, ev, nth]
  refine K.seq_pure (K.max_int rfl rfl) rfl ?_
  dsimp only [setd, setn, ev, nth]
  refine K.seq_pure (K.move) rfl ?_
  dsimp only [setd, setn, ev, nth]
  refine K.seq_pure (K.add_i64 rfl rfl (by omega)) rfl ?_
  dsimp only [setd, setn, ev, nth]
  refine K.seq_pure (K.sub_i64 rfl rfl (by omega)) rfl ?_
  dsimp only [setd, setn, ev, nth]
  refine K.seq_pure (K.move) rfl ?_
  dsimp only [setd, setn, ev, nth]
  refine K.seq_pure (K.quo_i64 rfl rfl (by omega) (by omega) (by omega)) rfl ?_
  dsimp only [setd, setn, ev, nth]
  refine K.seq_pure (K.assign) rfl ?_
  dsimp only [setd, setn, ev, nth]
  refine K.seq_nil ?_
  refine K.norm_then ?_
  refine K.ret ?_
  refine K.end_ret (fun w _ => K.res_tmp rfl w) ?_
  exact K.gives_i rfl (by unfold offS; rw [if_neg ht21])

set_option maxRecDepth 100000 in
theorem c63 {kind base most : Int} {A B : Option Addr} {c d : Nat} {hs : List Int} {rs : List (Int × Int)} {r : Int × Int} {u v : Int} {w : World} (hH : K.Rd w A 1 K.eI hs) (hR : K.Rd w B 2 K.eP rs) (g : Good kind base most hs rs) (hp : Parts u v) (hr : 0 ≤ r.1 ∧ r.1 < hs.length ∧ 0 ≤ r.2 ∧ r.2 < hs.length) :
    Calls Try.prog 63 [.agg #[.int .i64 kind, .int .i64 base, .int .i64 most, .slice A hs.length c, .slice B rs.length d], .agg #[.int .i64 r.1, .int .i64 r.2], .agg #[.int .i64 u, .int .i64 v]].toArray w (K.Gives (.int .i64 (offS u v (riseS hs r) (riseS (cuts kind base u v hs) r))) w) := by
  have g1 := g.k
  have g2 := g.n
  have g3 := g.r
  have g4 := g.b
  have g5 := g.m
  have q1 := g.bdh r.1.toNat
  have q2 := g.bdh r.2.toNat
  have q3 := (g.bdc hp) r.1.toNat
  have q4 := (g.bdc hp) r.2.toNat
  have q5 : -9000 ≤ (hs.getD r.2.toNat default - hs.getD r.1.toNat default) ∧ (hs.getD r.2.toNat default - hs.getD r.1.toNat default) ≤ 9000 := by omega
  have q6 : -270001 ≤ ((cuts kind base u v hs).getD r.2.toNat default - (cuts kind base u v hs).getD r.1.toNat default) ∧ ((cuts kind base u v hs).getD r.2.toNat default - (cuts kind base u v hs).getD r.1.toNat default) ≤ 270001 := by omega
  have q7 := mulb (A := 30) (show 0 ≤ v ∧ v ≤ 30 by omega) q6
  have q8 := mulb (A := 30) (show 0 ≤ u ∧ u ≤ 30 by omega) q5
  refine K.enter (args := [.agg #[.int .i64 kind, .int .i64 base, .int .i64 most, .slice A hs.length c, .slice B rs.length d], .agg #[.int .i64 r.1, .int .i64 r.2], .agg #[.int .i64 u, .int .i64 v]]) Try.func63 rfl (n := 60) rfl ?_
  simp only [List.replicate, List.cons_append, List.nil_append]
  refine K.seq ?_
  refine K.region_lit ?_
  refine K.seq_new (K.box) rfl ?_
  intro b3
  try dsimp only [setd, setn, ev, nth, over, cl, eI, eP, eT, List.map, List.append, List.drop, List.take]
  refine K.seq_new (K.box) rfl ?_
  intro b4
  try dsimp only [setd, setn, ev, nth, over, cl, eI, eP, eT, List.map, List.append, List.drop, List.take]
  refine K.seq_new (K.box) rfl ?_
  intro b5
  try dsimp only [setd, setn, ev, nth, over, cl, eI, eP, eT, List.map, List.append, List.drop, List.take]
  refine K.seq_pure (K.assign) rfl ?_
  dsimp only [setd, setn, ev, nth]
  refine K.seq_nil ?_
  refine K.norm_then ?_
  refine K.seq ?_
  refine K.region_lit ?_
  refine K.seq_sil (K.loadA_own ag_25 rfl (K.m2) rfl) rfl ?_
  try dsimp only [setd, setn, ev, nth, over, cl, eI, eP, eT, List.map, List.append, List.drop, List.take]
  refine K.seq_sil (K.loadA_own ag_27 rfl (K.m0) rfl) rfl ?_
  try dsimp only [setd, setn, ev, nth, over, cl, eI, eP, eT, List.map, List.append, List.drop, List.take]
  refine K.seq_loud (K.call_f cal_51 (fun F w hF hw => c51 (hH.pass hw) (hR.pass hw) g hp)) rfl ?_
  rintro ⟨A1, c1⟩ hA1
  try dsimp only [setd, setn, ev, nth, over, cl, eI, eP, eT, List.map, List.append, List.drop, List.take]
  refine K.seq_pure (K.assign) rfl ?_
  dsimp only [setd, setn, ev, nth]
  refine K.seq_nil ?_
  refine K.norm_then ?_
  refine K.seq ?_
  refine K.draw_L [] Try_mixed ?_
  refine K.d_pure 0 rfl (K.fieldAddr_lit fo_25_3 rfl) (by kernel_rfl) rfl ?_
  dsimp only [setd, setn, ev, nth]
  refine K.d_mem 1 rfl (K.load1_own one_22 rfl (K.m3) rfl) (fun _ h => h) (by kernel_rfl) (by kernel_rfl) rfl ?_
  try dsimp only [setd, setn, ev, nth, over, cl, eI, eP, eT, List.map, List.append, List.drop, List.take]
  refine K.d_pure 2 rfl (K.fieldAddr_lit fo_79_1 rfl) (by kernel_rfl) rfl ?_
  dsimp only [setd, setn, ev, nth]
  refine K.d_mem 3 rfl (K.load1_own one_3 rfl (K.m2) rfl) (fun _ h => h) (by kernel_rfl) (by kernel_rfl) rfl ?_
  try dsimp only [setd, setn, ev, nth, over, cl, eI, eP, eT, List.map, List.append, List.drop, List.take]
  refine K.d_ix (M := []) 4 r.2.toNat rfl hH.sl sl_22 rfl rfl (by omega) (by omega) (by kernel_rfl) rfl ?_
  intro p19 hp19
  try dsimp only [setd, setn, ev, nth, over, cl, eI, eP, eT, List.map, List.append, List.drop, List.take]
  refine K.d_mem 5 rfl (K.load1 one_3 rfl (hp19.any)) (fun _ h => h) (by kernel_rfl) (by kernel_rfl) rfl ?_
  try dsimp only [setd, setn, ev, nth, over, cl, eI, eP, eT, List.map, List.append, List.drop, List.take]
  refine K.d_pure 6 rfl (K.fieldAddr_lit fo_25_3 rfl) (by kernel_rfl) rfl ?_
  dsimp only [setd, setn, ev, nth]
  refine K.d_mem 7 rfl (K.load1_own one_22 rfl (K.m3) rfl) (fun _ h => h) (by kernel_rfl) (by kernel_rfl) rfl ?_
  try dsimp only [setd, setn, ev, nth, over, cl, eI, eP, eT, List.map, List.append, List.drop, List.take]
  refine K.d_pure 8 rfl (K.fieldAddr_lit fo_79_0 rfl) (by kernel_rfl) rfl ?_
  dsimp only [setd, setn, ev, nth]
  refine K.d_mem 9 rfl (K.load1_own one_3 rfl (K.m2) rfl) (fun _ h => h) (by kernel_rfl) (by kernel_rfl) rfl ?_
  try dsimp only [setd, setn, ev, nth, over, cl, eI, eP, eT, List.map, List.append, List.drop, List.take]
  refine K.d_ix (M := []) 10 r.1.toNat rfl hH.sl sl_22 rfl rfl (by omega) (by omega) (by kernel_rfl) rfl ?_
  intro p25 hp25
  try dsimp only [setd, setn, ev, nth, over, cl, eI, eP, eT, List.map, List.append, List.drop, List.take]
  refine K.d_mem 11 rfl (K.load1 one_3 rfl (hp25.any)) (fun _ h => h) (by kernel_rfl) (by kernel_rfl) rfl ?_
  try dsimp only [setd, setn, ev, nth, over, cl, eI, eP, eT, List.map, List.append, List.drop, List.take]
  refine K.d_pure 12 rfl (K.sub_i64 rfl rfl (by omega)) (by kernel_rfl) rfl ?_
  dsimp only [setd, setn, ev, nth]
  refine K.d_pure 13 rfl (K.move) (by kernel_rfl) rfl ?_
  dsimp only [setd, setn, ev, nth]
  refine K.d_pure 14 rfl (K.fieldAddr_lit fo_79_1 rfl) (by kernel_rfl) rfl ?_
  dsimp only [setd, setn, ev, nth]
  refine K.d_mem 15 rfl (K.load1_own one_3 rfl (K.m2) rfl) (fun _ h => h) (by kernel_rfl) (by kernel_rfl) rfl ?_
  try dsimp only [setd, setn, ev, nth, over, cl, eI, eP, eT, List.map, List.append, List.drop, List.take]
  refine K.d_ix (M := [_]) 16 r.2.toNat rfl (K.Sl.own (t := 3) (c := c1) (size := 1) (e := K.eI) hA1 (fun _ => rfl)) sl_22 rfl rfl (by omega) (by rw [cuts_len]; omega) (by kernel_rfl) rfl ?_
  intro p31 hp31
  try dsimp only [setd, setn, ev, nth, over, cl, eI, eP, eT, List.map, List.append, List.drop, List.take]
  refine K.d_mem 17 rfl (K.load1 one_3 rfl (hp31.at1 (K.m0))) (fun _ h => h) (by kernel_rfl) (by kernel_rfl) rfl ?_
  try dsimp only [setd, setn, ev, nth, over, cl, eI, eP, eT, List.map, List.append, List.drop, List.take]
  refine K.d_pure 18 rfl (K.move) (by kernel_rfl) rfl ?_
  dsimp only [setd, setn, ev, nth]
  refine K.d_pure 19 rfl (K.fieldAddr_lit fo_79_0 rfl) (by kernel_rfl) rfl ?_
  dsimp only [setd, setn, ev, nth]
  refine K.d_mem 20 rfl (K.load1_own one_3 rfl (K.m2) rfl) (fun _ h => h) (by kernel_rfl) (by kernel_rfl) rfl ?_
  try dsimp only [setd, setn, ev, nth, over, cl, eI, eP, eT, List.map, List.append, List.drop, List.take]
  refine K.d_ix (M := [_]) 21 r.1.toNat rfl (K.Sl.own (t := 3) (c := c1) (size := 1) (e := K.eI) hA1 (fun _ => rfl)) sl_22 rfl rfl (by omega) (by rw [cuts_len]; omega) (by kernel_rfl) rfl ?_
  intro p36 hp36
  try dsimp only [setd, setn, ev, nth, over, cl, eI, eP, eT, List.map, List.append, List.drop, List.take]
  refine K.d_mem 22 rfl (K.load1 one_3 rfl (hp36.at1 (K.m0))) (fun _ h => h) (by kernel_rfl) (by kernel_rfl) rfl ?_
  try dsimp only [setd, setn, ev, nth, over, cl, eI, eP, eT, List.map, List.append, List.drop, List.take]
  refine K.d_pure 23 rfl (K.sub_i64 rfl rfl (by omega)) (by kernel_rfl) rfl ?_
  dsimp only [setd, setn, ev, nth]
  refine K.d_pure 24 rfl (K.assign) (by kernel_rfl) rfl ?_
  dsimp only [setd, setn, ev, nth]
  refine K.d_pure 25 rfl (K.assign) (by kernel_rfl) rfl ?_
  dsimp only [setd, setn, ev, nth]
  refine K.d_done (by kernel_rfl) ?_
  refine K.norm_then ?_
  refine K.seq ?_
  refine K.seq ?_
  refine K.region_lit ?_
  refine K.seq_pure (K.move) rfl ?_
  dsimp only [setd, setn, ev, nth]
  refine K.seq_pure (K.eql rfl rfl) rfl ?_
  dsimp only [setd, setn, ev, nth]
  refine K.seq_nil ?_
  refine K.norm_then ?_
  refine K.cond rfl (fun ht40 => ?_) (fun ht40 => ?_)
  · try replace ht40 := of_decide_eq_true ht40
    refine K.seq ?_
    refine K.region_lit ?_
    refine K.seq_pure (K.assign) rfl ?_
    dsimp only [setd, setn, ev, nth]
    refine K.seq_nil ?_
    refine K.norm_then ?_
    refine K.ret ?_
    refine K.ret_then ?_
    refine K.end_ret (fun w _ => K.res_tmp rfl w) ?_
    exact K.gives_i rfl (by unfold offS; rw [if_pos ht40])
  try replace ht40 := of_decide_eq_false ht40
  have q9 := mul_bd (A := 30) (B := 9000) (show 0 ≤ u by omega) (show u ≤ 30 by omega) (show 0 ≤ max ((hs.getD r.2.toNat default - hs.getD r.1.toNat default)) (-((hs.getD r.2.toNat default - hs.getD r.1.toNat default))) by omega) (show max ((hs.getD r.2.toNat default - hs.getD r.1.toNat default)) (-((hs.getD r.2.toNat default - hs.getD r.1.toNat default))) ≤ 9000 by omega)
  have q10 : 1 ≤ u * max ((hs.getD r.2.toNat default - hs.getD r.1.toNat default)) (-((hs.getD r.2.toNat default - hs.getD r.1.toNat default))) := Int.mul_pos (by omega) (by omega)
  refine K.skip ?_
  refine K.norm_then ?_
  refine K.seq ?_
  refine K.draw_L [] Try_mixed ?_
  refine K.d_pure 0 rfl (K.fieldAddr_lit fo_27_1 rfl) (by kernel_rfl) rfl ?_
  dsimp only [setd, setn, ev, nth]
  refine K.d_mem 1 rfl (K.load1_own one_3 rfl (K.m1) rfl) (fun _ h => h) (by kernel_rfl) (by kernel_rfl) rfl ?_
  try dsimp only [setd, setn, ev, nth, over, cl, eI, eP, eT, List.map, List.append, List.drop, List.take]
  refine K.d_pure 2 rfl (K.move) (by kernel_rfl) rfl ?_
  dsimp only [setd, setn, ev, nth]
  refine K.d_pure 3 rfl (K.mul_i64 rfl rfl (by omega)) (by kernel_rfl) rfl ?_
  dsimp only [setd, setn, ev, nth]
  refine K.d_pure 4 rfl (K.fieldAddr_lit fo_27_0 rfl) (by kernel_rfl) rfl ?_
  dsimp only [setd, setn, ev, nth]
  refine K.d_mem 5 rfl (K.load1_own one_3 rfl (K.m1) rfl) (fun _ h => h) (by kernel_rfl) (by kernel_rfl) rfl ?_
  try dsimp only [setd, setn, ev, nth, over, cl, eI, eP, eT, List.map, List.append, List.drop, List.take]
  refine K.d_pure 6 rfl (K.move) (by kernel_rfl) rfl ?_
  dsimp only [setd, setn, ev, nth]
  refine K.d_pure 7 rfl (K.mul_i64 rfl rfl (by omega)) (by kernel_rfl) rfl ?_
  dsimp only [setd, setn, ev, nth]
  refine K.d_pure 8 rfl (K.sub_i64 rfl rfl (by omega)) (by kernel_rfl) rfl ?_
  dsimp only [setd, setn, ev, nth]
  refine K.d_pure 11 rfl (K.fieldAddr_lit fo_27_0 rfl) (by kernel_rfl) rfl ?_
  dsimp only [setd, setn, ev, nth]
  refine K.d_mem 12 rfl (K.load1_own one_3 rfl (K.m1) rfl) (fun _ h => h) (by kernel_rfl) (by kernel_rfl) rfl ?_
  try dsimp only [setd, setn, ev, nth, over, cl, eI, eP, eT, List.map, List.append, List.drop, List.take]
  refine K.d_pure 13 rfl (K.move) (by kernel_rfl) rfl ?_
  dsimp only [setd, setn, ev, nth]
  refine K.d_call 9 rfl (K.call_g cal_89 (fun F w hF hw => c89 (by omega) (by omega) w)) (fun _ h => h) (by kernel_rfl) rfl ?_
  try dsimp only [setd, setn, ev, nth, over, cl, eI, eP, eT, List.map, List.append, List.drop, List.take]
  refine K.d_pure 10 rfl (K.mul_i64 rfl rfl (by omega)) (by kernel_rfl) rfl ?_
  dsimp only [setd, setn, ev, nth]
  refine K.d_call 14 rfl (K.call_g cal_89 (fun F w hF hw => c89 (by omega) (by omega) w)) (fun _ h => h) (by kernel_rfl) rfl ?_
  try dsimp only [setd, setn, ev, nth, over, cl, eI, eP, eT, List.map, List.append, List.drop, List.take]
  refine K.d_pure 15 rfl (K.mul_i64 rfl rfl (by omega)) (by kernel_rfl) rfl ?_
  dsimp only [setd, setn, ev, nth]
  refine K.d_pure 16 rfl (K.assign) (by kernel_rfl) rfl ?_
  dsimp only [setd, setn, ev, nth]
  refine K.d_pure 17 rfl (K.assign) (by kernel_rfl) rfl ?_
  dsimp only [setd, setn, ev, nth]
  refine K.d_done (by kernel_rfl) ?_
  refine K.norm_then ?_
  refine K.seq ?_
  refine K.region_lit ?_
  refine K.seq_pure (K.move) rfl ?_
  dsimp only [setd, setn, ev, nth]
  refine K.seq_pure (K.move) rfl ?_
  dsimp only [setd, setn, ev, nth]
  refine K.seq_pure (K.add_i64 rfl rfl (by omega)) rfl ?_
  dsimp only [setd, setn, ev, nth]
  refine K.seq_pure (K.sub_i64 rfl rfl (by omega)) rfl ?_
  dsimp only [setd, setn, ev, nth]
  refine K.seq_pure (K.move) rfl ?_
  dsimp only [setd, setn, ev, nth]
  refine K.seq_pure (K.quo_i64 rfl rfl (by omega) (by omega) (by omega)) rfl ?_
  dsimp only [setd, setn, ev, nth]
  refine K.seq_pure (K.assign) rfl ?_
  dsimp only [setd, setn, ev, nth]
  refine K.seq_nil ?_
  refine K.norm_then ?_
  refine K.ret ?_
  refine K.end_ret (fun w _ => K.res_tmp rfl w) ?_
  exact K.gives_i rfl (offS_ref ht40).symm

end Go.Proofs.Ytafkbioeoklldaa
