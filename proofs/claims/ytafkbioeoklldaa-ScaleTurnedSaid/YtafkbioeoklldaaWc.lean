/-
  Walks of the program's functions, printed by program: what each returns.
  Conditions stand in each theorem.
-/
import Derived.Test.YtafkbioeoklldaaKf
import Derived.Test.YtafkbioeoklldaaK2
import Derived.WalkArith
import Derived.Test.YtafkbioeoklldaaS1
import Derived.Test.YtafkbioeoklldaaWa
import Derived.Test.YtafkbioeoklldaaWb
set_option linter.unusedSimpArgs false
set_option linter.unusedVariables false
namespace Go.Proofs.Ytafkbioeoklldaa
open Go.RowKit Go
open Go.K (setd setn ev nth over cl eI eP eT setM setF)
attribute [local irreducible] K.blk K.row
theorem bs0 : K.Bs Try.prog 22 0 [] 3 [] := fun w => by kernel_rfl

set_option maxRecDepth 100000 in
theorem c98 {a b : Int} (h1 : 1 ≤ a) (h2 : a ≤ 30) (h3 : 1 ≤ b) (h4 : b ≤ 30) (w : World) :
    Calls Try.prog 98 [.int .i64 a, .int .i64 b].toArray w (K.Ret (fun r : Int => decide (r > 1) = cm a b) (fun r => .int .i64 r) (fun _ => []) w) := by
  refine K.enter (args := [.int .i64 a, .int .i64 b]) Try.func98 rfl (n := 24) rfl ?_
  simp only [List.replicate, List.cons_append, List.nil_append]
  refine K.seq ?_
  refine K.region_lit ?_
  refine K.seq_pure (K.assign) rfl ?_
  dsimp only [setd, setn, ev, nth]
  refine K.seq_nil ?_
  refine K.norm_then ?_
  refine K.seq ?_
  refine K.seq ?_
  refine K.region_lit ?_
  refine K.seq_pure (K.move) rfl ?_
  dsimp only [setd, setn, ev, nth]
  refine K.seq_pure (K.move) rfl ?_
  dsimp only [setd, setn, ev, nth]
  refine K.seq_nil ?_
  refine K.norm_then ?_
  refine K.block ?_
  refine K.loopW [8] [4, 5, 6, 9, 10, 11, 12, 13, 14, 15, 16, 17, 18, 19, 20, 21, 22, 23, 24, 25] (fun vi L => ∃ k : Nat, vi = [.int .i64 (k : Int)] ∧ L = [] ∧ (k : Int) ≤ a ∧ ∀ j : Nat, j < k → ¬ (a % (a - j) = 0 ∧ b % (a - j) = 0)) (fun vi => a.toNat - (intOf (K.nth vi 0)).toNat) ?_ ?_
  · exact ⟨0, rfl, rfl, by omega, fun j hj => absurd hj (Nat.not_lt_zero j)⟩
  intro vi vr L hJ
  obtain ⟨k, rfl, rfl, hka, hall⟩ := hJ
  try dsimp only [setd, setn, ev, nth, over, cl, eI, eP, eT, setM, setF, List.map, List.append, List.drop, List.take]
  refine K.seq ?_
  refine K.region_lit ?_
  refine K.seq_pure (K.lss rfl rfl) rfl ?_
  dsimp only [setd, setn, ev, nth]
  refine K.seq_nil ?_
  refine K.norm_then ?_
  refine K.seq ?_
  refine K.cond rfl (fun ht9 => ?_) (fun ht9 => ?_)
  · try replace ht9 := of_decide_eq_true ht9
    refine K.skip ?_
    refine K.norm_then ?_
    refine K.seq ?_
    refine K.block ?_
    refine K.seq ?_
    refine K.region_lit ?_
    refine K.seq_pure (K.move) rfl ?_
    dsimp only [setd, setn, ev, nth]
    refine K.seq_pure (K.assign) rfl ?_
    dsimp only [setd, setn, ev, nth]
    refine K.seq_nil ?_
    refine K.norm_then ?_
    refine K.seq ?_
    refine K.region_lit ?_
    refine K.seq_pure (K.move) rfl ?_
    dsimp only [setd, setn, ev, nth]
    refine K.seq_pure (K.move) rfl ?_
    dsimp only [setd, setn, ev, nth]
    refine K.seq_pure (K.sub_i64 rfl rfl (by omega)) rfl ?_
    dsimp only [setd, setn, ev, nth]
    refine K.seq_pure (K.assign) rfl ?_
    dsimp only [setd, setn, ev, nth]
    refine K.seq_nil ?_
    refine K.norm_then ?_
    refine K.seq ?_
    refine K.region_lit ?_
    refine K.seq_pure (K.move) rfl ?_
    dsimp only [setd, setn, ev, nth]
    refine K.seq_pure (K.move) rfl ?_
    dsimp only [setd, setn, ev, nth]
    refine K.seq_pure (K.rem_i64 rfl rfl (by omega) (by omega)) rfl ?_
    dsimp only [setd, setn, ev, nth]
    refine K.seq_pure (K.eql rfl rfl) rfl ?_
    dsimp only [setd, setn, ev, nth]
    refine K.seq_pure (K.move) rfl ?_
    dsimp only [setd, setn, ev, nth]
    refine K.split 18 rfl (fun hg18 => ?_) (fun hg18 => ?_)
    · try replace hg18 := of_decide_eq_true hg18
      refine K.seq_pure (K.move) rfl ?_
      dsimp only [setd, setn, ev, nth]
      refine K.seq_pure (K.move) rfl ?_
      dsimp only [setd, setn, ev, nth]
      refine K.seq_pure (K.rem_i64 rfl rfl (by omega) (by omega)) rfl ?_
      dsimp only [setd, setn, ev, nth]
      refine K.seq_pure (K.eql rfl rfl) rfl ?_
      dsimp only [setd, setn, ev, nth]
      refine K.seq_pure (K.pick_t rfl) rfl ?_
      dsimp only [setd, setn, ev, nth]
      refine K.seq_nil ?_
      refine K.norm_then ?_
      refine K.cond rfl (fun ht23 => ?_) (fun ht23 => ?_)
      · try replace ht23 := of_decide_eq_true ht23
        refine K.seq ?_
        refine K.region_lit ?_
        refine K.seq_pure (K.move) rfl ?_
        dsimp only [setd, setn, ev, nth]
        refine K.seq_pure (K.assign) rfl ?_
        dsimp only [setd, setn, ev, nth]
        refine K.seq_nil ?_
        refine K.norm_then ?_
        refine K.ret ?_
        refine K.ret_block ?_
        refine K.ret_then ?_
        refine K.ret_then ?_
        refine K.ret_block ?_
        refine K.ret_then ?_
        refine K.end_ret (fun w _ => K.res_tmp rfl w) ?_
        exact K.rets (a - (k : Int)) (dvs_found h1 h2 (by omega) hall hg18 ht23) rfl (List.nil_sublist _)
      try replace ht23 := of_decide_eq_false ht23
      have hz : ¬ (a % (a - (k : Int)) = 0 ∧ b % (a - (k : Int)) = 0) := by omega
      refine K.skip ?_
      refine K.norm_block ?_
      refine K.norm_then ?_
      refine K.region_lit ?_
      refine K.seq_pure (K.add_i64 rfl rfl (by omega)) rfl ?_
      dsimp only [setd, setn, ev, nth]
      refine K.seq_pure (K.move) rfl ?_
      dsimp only [setd, setn, ev, nth]
      refine K.seq_nil ?_
      exact K.round_endW (L'' := []) [.int .i64 ((k : Int) + 1)] ⟨k + 1, rfl, rfl, by omega, K.lt_succ_case hall hz⟩ (by simp [K.nth, intOf]; omega) (List.nil_sublist _) (by kernel_rfl)
    try replace hg18 := of_decide_eq_false hg18
    have hz : ¬ (a % (a - (k : Int)) = 0 ∧ b % (a - (k : Int)) = 0) := by omega
    refine K.seq_skip ?_ ?_
    · rfl
    try dsimp only [setd, setn, ev, nth, over, cl, eI, eP, eT, List.map, List.append, List.drop, List.take]
    refine K.seq_skip ?_ ?_
    · rfl
    try dsimp only [setd, setn, ev, nth, over, cl, eI, eP, eT, List.map, List.append, List.drop, List.take]
    refine K.seq_skip ?_ ?_
    · rfl
    try dsimp only [setd, setn, ev, nth, over, cl, eI, eP, eT, List.map, List.append, List.drop, List.take]
    refine K.seq_skip ?_ ?_
    · rfl
    try dsimp only [setd, setn, ev, nth, over, cl, eI, eP, eT, List.map, List.append, List.drop, List.take]
    refine K.seq_pure (K.pick_f rfl) rfl ?_
    dsimp only [setd, setn, ev, nth]
    refine K.seq_nil ?_
    refine K.norm_then ?_
    refine K.cond_false rfl ?_
    refine K.skip ?_
    refine K.norm_block ?_
    refine K.norm_then ?_
    refine K.region_lit ?_
    refine K.seq_pure (K.add_i64 rfl rfl (by omega)) rfl ?_
    dsimp only [setd, setn, ev, nth]
    refine K.seq_pure (K.move) rfl ?_
    dsimp only [setd, setn, ev, nth]
    refine K.seq_nil ?_
    exact K.round_endW (L'' := []) [.int .i64 ((k : Int) + 1)] ⟨k + 1, rfl, rfl, by omega, K.lt_succ_case hall hz⟩ (by simp [K.nth, intOf]; omega) (List.nil_sublist _) (by kernel_rfl)
  try replace ht9 := of_decide_eq_false ht9
  refine K.exit ?_
  refine K.exit_then ?_
  refine K.exit_then ?_
  refine K.exit_here ?_
  refine K.norm_then ?_
  refine K.seq ?_
  refine K.region_lit ?_
  refine K.seq_pure (K.assign) rfl ?_
  dsimp only [setd, setn, ev, nth]
  refine K.seq_nil ?_
  refine K.norm_then ?_
  refine K.ret ?_
  refine K.end_ret (fun w _ => K.res_tmp rfl w) ?_
  exact K.rets 1 (dvs_none h1 h2 (fun j hj => hall j (by omega))) rfl (List.nil_sublist _)

set_option maxRecDepth 100000 in
theorem c80 {a b : Int} (h1 : 1 ≤ a) (h2 : a ≤ 30) (h3 : 1 ≤ b) (h4 : b ≤ 30) (w : World) :
    Calls Try.prog 80 [.int .i64 a, .int .i64 b].toArray w (K.Gives (.bool (cm a b)) w) := by
  refine K.enter (args := [.int .i64 a, .int .i64 b]) Try.func80 rfl (n := 24) rfl ?_
  simp only [List.replicate, List.cons_append, List.nil_append]
  refine K.seq ?_
  refine K.region_lit ?_
  refine K.seq_pure (K.assign) rfl ?_
  dsimp only [setd, setn, ev, nth]
  refine K.seq_nil ?_
  refine K.norm_then ?_
  refine K.seq ?_
  refine K.seq ?_
  refine K.region_lit ?_
  refine K.seq_pure (K.assign) rfl ?_
  dsimp only [setd, setn, ev, nth]
  refine K.seq_nil ?_
  refine K.norm_then ?_
  refine K.block ?_
  refine K.loopW [5] [4, 6, 7, 8, 9, 10, 11, 12, 13, 14, 15, 16, 17, 18, 19, 20, 21, 22, 23, 24, 25] (fun vi L => ∃ k : Nat, vi = [.int .i64 (k : Int)] ∧ L = [] ∧ 2 ≤ k ∧ (k : Int) ≤ 31 ∧ ∀ j : Nat, j < k → 2 ≤ j → ¬ (a % (j : Int) = 0 ∧ b % (j : Int) = 0)) (fun vi => 31 - (intOf (K.nth vi 0)).toNat) ?_ ?_
  · exact ⟨2, rfl, rfl, by omega, by omega, fun j hj h => absurd hj (by omega)⟩
  intro vi vr L hJ
  obtain ⟨k, rfl, rfl, hk2, hka, hall⟩ := hJ
  try dsimp only [setd, setn, ev, nth, over, cl, eI, eP, eT, setM, setF, List.map, List.append, List.drop, List.take]
  refine K.seq ?_
  refine K.seq ?_
  refine K.region_lit ?_
  refine K.seq_pure (K.move) rfl ?_
  dsimp only [setd, setn, ev, nth]
  refine K.seq_pure (K.move) rfl ?_
  dsimp only [setd, setn, ev, nth]
  refine K.seq_pure (K.leq rfl rfl) rfl ?_
  dsimp only [setd, setn, ev, nth]
  refine K.seq_pure (K.move) rfl ?_
  dsimp only [setd, setn, ev, nth]
  refine K.split 9 rfl (fun hg9 => ?_) (fun hg9 => ?_)
  · try replace hg9 := of_decide_eq_true hg9
    refine K.seq_pure (K.move) rfl ?_
    dsimp only [setd, setn, ev, nth]
    refine K.seq_pure (K.move) rfl ?_
    dsimp only [setd, setn, ev, nth]
    refine K.seq_pure (K.leq rfl rfl) rfl ?_
    dsimp only [setd, setn, ev, nth]
    refine K.seq_pure (K.pick_t rfl) rfl ?_
    dsimp only [setd, setn, ev, nth]
    refine K.seq_nil ?_
    refine K.norm_then ?_
    refine K.cond rfl (fun ht13 => ?_) (fun ht13 => ?_)
    · try replace ht13 := of_decide_eq_true ht13
      refine K.skip ?_
      refine K.norm_then ?_
      refine K.seq ?_
      refine K.block ?_
      refine K.seq ?_
      refine K.region_lit ?_
      refine K.seq_pure (K.move) rfl ?_
      dsimp only [setd, setn, ev, nth]
      refine K.seq_pure (K.move) rfl ?_
      dsimp only [setd, setn, ev, nth]
      refine K.seq_pure (K.rem_i64 rfl rfl (by omega) (by omega)) rfl ?_
      dsimp only [setd, setn, ev, nth]
      refine K.seq_pure (K.eql rfl rfl) rfl ?_
      dsimp only [setd, setn, ev, nth]
      refine K.seq_pure (K.move) rfl ?_
      dsimp only [setd, setn, ev, nth]
      refine K.split 20 rfl (fun hg20 => ?_) (fun hg20 => ?_)
      · try replace hg20 := of_decide_eq_true hg20
        refine K.seq_pure (K.move) rfl ?_
        dsimp only [setd, setn, ev, nth]
        refine K.seq_pure (K.move) rfl ?_
        dsimp only [setd, setn, ev, nth]
        refine K.seq_pure (K.rem_i64 rfl rfl (by omega) (by omega)) rfl ?_
        dsimp only [setd, setn, ev, nth]
        refine K.seq_pure (K.eql rfl rfl) rfl ?_
        dsimp only [setd, setn, ev, nth]
        refine K.seq_pure (K.pick_t rfl) rfl ?_
        dsimp only [setd, setn, ev, nth]
        refine K.seq_nil ?_
        refine K.norm_then ?_
        refine K.cond rfl (fun ht25 => ?_) (fun ht25 => ?_)
        · try replace ht25 := of_decide_eq_true ht25
          refine K.seq ?_
          refine K.region_lit ?_
          refine K.seq_pure (K.assign) rfl ?_
          dsimp only [setd, setn, ev, nth]
          refine K.seq_nil ?_
          refine K.norm_then ?_
          refine K.ret ?_
          refine K.ret_block ?_
          refine K.ret_then ?_
          refine K.ret_then ?_
          refine K.ret_block ?_
          refine K.ret_then ?_
          refine K.end_ret (fun w _ => K.res_tmp rfl w) ?_
          exact K.gives_b rfl (cm_true (n := (k : Int)) (by omega) (by omega) hg20 ht25).symm
        try replace ht25 := of_decide_eq_false ht25
        have hz : ¬ (a % (k : Int) = 0 ∧ b % (k : Int) = 0) := by omega
        refine K.skip ?_
        refine K.norm_block ?_
        refine K.norm_then ?_
        refine K.region_lit ?_
        refine K.seq_pure (K.move) rfl ?_
        dsimp only [setd, setn, ev, nth]
        refine K.seq_pure (K.add_i64 rfl rfl (by omega)) rfl ?_
        dsimp only [setd, setn, ev, nth]
        refine K.seq_pure (K.assign) rfl ?_
        dsimp only [setd, setn, ev, nth]
        refine K.seq_nil ?_
        exact K.round_endW (L'' := []) [.int .i64 ((k : Int) + 1)] ⟨k + 1, rfl, rfl, by omega, by omega, K.lt_succ_case hall (fun _ => hz)⟩ (by simp [K.nth, intOf]; omega) (List.nil_sublist _) (by kernel_rfl)
      try replace hg20 := of_decide_eq_false hg20
      have hz : ¬ (a % (k : Int) = 0 ∧ b % (k : Int) = 0) := by omega
      refine K.seq_skip ?_ ?_
      · rfl
      try dsimp only [setd, setn, ev, nth, over, cl, eI, eP, eT, List.map, List.append, List.drop, List.take]
      refine K.seq_skip ?_ ?_
      · rfl
      try dsimp only [setd, setn, ev, nth, over, cl, eI, eP, eT, List.map, List.append, List.drop, List.take]
      refine K.seq_skip ?_ ?_
      · rfl
      try dsimp only [setd, setn, ev, nth, over, cl, eI, eP, eT, List.map, List.append, List.drop, List.take]
      refine K.seq_skip ?_ ?_
      · rfl
      try dsimp only [setd, setn, ev, nth, over, cl, eI, eP, eT, List.map, List.append, List.drop, List.take]
      refine K.seq_pure (K.pick_f rfl) rfl ?_
      dsimp only [setd, setn, ev, nth]
      refine K.seq_nil ?_
      refine K.norm_then ?_
      refine K.cond_false rfl ?_
      refine K.skip ?_
      refine K.norm_block ?_
      refine K.norm_then ?_
      refine K.region_lit ?_
      refine K.seq_pure (K.move) rfl ?_
      dsimp only [setd, setn, ev, nth]
      refine K.seq_pure (K.add_i64 rfl rfl (by omega)) rfl ?_
      dsimp only [setd, setn, ev, nth]
      refine K.seq_pure (K.assign) rfl ?_
      dsimp only [setd, setn, ev, nth]
      refine K.seq_nil ?_
      exact K.round_endW (L'' := []) [.int .i64 ((k : Int) + 1)] ⟨k + 1, rfl, rfl, by omega, by omega, K.lt_succ_case hall (fun _ => hz)⟩ (by simp [K.nth, intOf]; omega) (List.nil_sublist _) (by kernel_rfl)
    try replace ht13 := of_decide_eq_false ht13
    refine K.exit ?_
    refine K.exit_then ?_
    refine K.exit_then ?_
    refine K.exit_here ?_
    refine K.norm_then ?_
    refine K.seq ?_
    refine K.region_lit ?_
    refine K.seq_pure (K.assign) rfl ?_
    dsimp only [setd, setn, ev, nth]
    refine K.seq_nil ?_
    refine K.norm_then ?_
    refine K.ret ?_
    refine K.end_ret (fun w _ => K.res_tmp rfl w) ?_
    exact K.gives_b rfl (cm_none (k := k) hall (by omega) h1 h3).symm
  try replace hg9 := of_decide_eq_false hg9
  refine K.seq_skip ?_ ?_
  · rfl
  try dsimp only [setd, setn, ev, nth, over, cl, eI, eP, eT, List.map, List.append, List.drop, List.take]
  refine K.seq_skip ?_ ?_
  · rfl
  try dsimp only [setd, setn, ev, nth, over, cl, eI, eP, eT, List.map, List.append, List.drop, List.take]
  refine K.seq_skip ?_ ?_
  · rfl
  try dsimp only [setd, setn, ev, nth, over, cl, eI, eP, eT, List.map, List.append, List.drop, List.take]
  refine K.seq_pure (K.pick_f rfl) rfl ?_
  dsimp only [setd, setn, ev, nth]
  refine K.seq_nil ?_
  refine K.norm_then ?_
  refine K.cond_false rfl ?_
  refine K.exit ?_
  refine K.exit_then ?_
  refine K.exit_then ?_
  refine K.exit_here ?_
  refine K.norm_then ?_
  refine K.seq ?_
  refine K.region_lit ?_
  refine K.seq_pure (K.assign) rfl ?_
  dsimp only [setd, setn, ev, nth]
  refine K.seq_nil ?_
  refine K.norm_then ?_
  refine K.ret ?_
  refine K.end_ret (fun w _ => K.res_tmp rfl w) ?_
  exact K.gives_b rfl (cm_none (k := k) hall (by omega) h1 h3).symm

set_option maxRecDepth 100000 in
theorem c86 {u d : Int} (w : World) :
    Calls Try.prog 86 [.agg #[.int .i64 u, .int .i64 d]].toArray w (K.Gives (.int .i64 (scE u d)) w) := by
  refine K.enter (args := [.agg #[.int .i64 u, .int .i64 d]]) Try.func86 rfl (n := 16) rfl ?_
  simp only [List.replicate, List.cons_append, List.nil_append]
  refine K.seq ?_
  refine K.region_lit ?_
  refine K.seq_new (K.box) rfl ?_
  intro b1
  try dsimp only [setd, setn, ev, nth, over, cl, eI, eP, eT, List.map, List.append, List.drop, List.take]
  refine K.seq_pure (K.assign) rfl ?_
  dsimp only [setd, setn, ev, nth]
  refine K.seq_nil ?_
  refine K.norm_then ?_
  refine K.seq ?_
  refine K.block ?_
  refine K.seq ?_
  refine K.region_lit ?_
  refine K.seq_pure (K.fieldAddr_lit fo_27_0 rfl) rfl ?_
  dsimp only [setd, setn, ev, nth]
  refine K.seq_sil (K.load1_own one_3 rfl (K.m0) rfl) rfl ?_
  try dsimp only [setd, setn, ev, nth, over, cl, eI, eP, eT, List.map, List.append, List.drop, List.take]
  refine K.seq_pure (K.fieldAddr_lit fo_27_1 rfl) rfl ?_
  dsimp only [setd, setn, ev, nth]
  refine K.seq_sil (K.load1_own one_3 rfl (K.m0) rfl) rfl ?_
  try dsimp only [setd, setn, ev, nth, over, cl, eI, eP, eT, List.map, List.append, List.drop, List.take]
  refine K.seq_new (K.buildSlice (bs2 _ _)) rfl ?_
  intro b8
  try dsimp only [setd, setn, ev, nth, over, cl, eI, eP, eT, List.map, List.append, List.drop, List.take]
  refine K.seq_call (K.call_g cal_52 (fun F w hF hw => c52_2 hw (hF _ (K.m0)))) rfl ?_
  try dsimp only [setd, setn, ev, nth, over, cl, eI, eP, eT, List.map, List.append, List.drop, List.take]
  refine K.seq_pure (K.assign) rfl ?_
  dsimp only [setd, setn, ev, nth]
  refine K.seq_nil ?_
  refine K.norm_then ?_
  refine K.cond rfl (fun ht3 => ?_) (fun ht3 => ?_)
  · try replace ht3 := of_decide_eq_true ht3
    refine K.seq ?_
    refine K.region_lit ?_
    refine K.seq_pure (K.assign) rfl ?_
    dsimp only [setd, setn, ev, nth]
    refine K.seq_nil ?_
    refine K.norm_then ?_
    refine K.ret ?_
    refine K.ret_block ?_
    refine K.ret_then ?_
    refine K.end_ret (fun w _ => K.res_tmp rfl w) ?_
    exact K.gives_i rfl (by unfold scE; rw [if_neg (by omega)])
  try replace ht3 := of_decide_eq_false ht3
  refine K.seq ?_
  refine K.region_lit ?_
  refine K.seq_pure (K.fieldAddr_lit fo_27_0 rfl) rfl ?_
  dsimp only [setd, setn, ev, nth]
  refine K.seq_sil (K.load1_own one_3 rfl (K.m1) rfl) rfl ?_
  try dsimp only [setd, setn, ev, nth, over, cl, eI, eP, eT, List.map, List.append, List.drop, List.take]
  refine K.seq_pure (K.fieldAddr_lit fo_27_1 rfl) rfl ?_
  dsimp only [setd, setn, ev, nth]
  refine K.seq_sil (K.load1_own one_3 rfl (K.m1) rfl) rfl ?_
  try dsimp only [setd, setn, ev, nth, over, cl, eI, eP, eT, List.map, List.append, List.drop, List.take]
  refine K.seq_loud (K.call_f cal_98 (fun F w hF hw => c98 (by omega) (by omega) (by omega) (by omega) w)) rfl ?_
  rintro r hr
  try dsimp only [setd, setn, ev, nth, over, cl, eI, eP, eT, List.map, List.append, List.drop, List.take]
  refine K.seq_pure (K.gtr rfl rfl) rfl ?_
  dsimp only [setd, setn, ev, nth]
  refine K.seq_pure (K.assign) rfl ?_
  dsimp only [setd, setn, ev, nth]
  refine K.seq_nil ?_
  refine K.norm_then ?_
  refine K.cond rfl (fun ht10 => ?_) (fun ht10 => ?_)
  · try replace ht10 := of_decide_eq_true ht10
    refine K.seq ?_
    refine K.region_lit ?_
    refine K.seq_pure (K.assign) rfl ?_
    dsimp only [setd, setn, ev, nth]
    refine K.seq_nil ?_
    refine K.norm_then ?_
    refine K.ret ?_
    refine K.ret_block ?_
    refine K.ret_then ?_
    refine K.end_ret (fun w _ => K.res_tmp rfl w) ?_
    exact K.gives_i rfl (by unfold scE; rw [if_pos (by omega), ← hr, if_pos (by simpa using ht10)])
  try replace ht10 := of_decide_eq_false ht10
  refine K.skip ?_
  refine K.norm_block ?_
  refine K.norm_then ?_
  refine K.seq ?_
  refine K.region_lit ?_
  refine K.seq_pure (K.assign) rfl ?_
  dsimp only [setd, setn, ev, nth]
  refine K.seq_nil ?_
  refine K.norm_then ?_
  refine K.ret ?_
  refine K.end_ret (fun w _ => K.res_tmp rfl w) ?_
  exact K.gives_i rfl (by unfold scE; rw [if_pos (by omega), ← hr, if_neg (by simpa using ht10)])

set_option maxRecDepth 100000 in
theorem c48 {u d : Int} (w : World) :
    Calls Try.prog 48 [.agg #[.int .i64 u, .int .i64 d]].toArray w (K.Gives (.int .i64 (scE u d)) w) := by
  refine K.enter (args := [.agg #[.int .i64 u, .int .i64 d]]) Try.func48 rfl (n := 17) rfl ?_
  simp only [List.replicate, List.cons_append, List.nil_append]
  refine K.seq ?_
  refine K.region_lit ?_
  refine K.seq_new (K.box) rfl ?_
  intro b1
  try dsimp only [setd, setn, ev, nth, over, cl, eI, eP, eT, List.map, List.append, List.drop, List.take]
  refine K.seq_pure (K.assign) rfl ?_
  dsimp only [setd, setn, ev, nth]
  refine K.seq_nil ?_
  refine K.norm_then ?_
  refine K.seq ?_
  refine K.seq ?_
  refine K.region_lit ?_
  refine K.seq_pure (K.fieldAddr_lit fo_27_0 rfl) rfl ?_
  dsimp only [setd, setn, ev, nth]
  refine K.seq_sil (K.load1_own one_3 rfl (K.m0) rfl) rfl ?_
  try dsimp only [setd, setn, ev, nth, over, cl, eI, eP, eT, List.map, List.append, List.drop, List.take]
  refine K.seq_call (K.call_g cal_57 (fun F w hF hw => c57 w)) rfl ?_
  try dsimp only [setd, setn, ev, nth, over, cl, eI, eP, eT, List.map, List.append, List.drop, List.take]
  first | refine K.seq_pure (K.not_d rfl) rfl ?_ | refine K.seq_pure (K.not_ rfl) rfl ?_
  try dsimp only [setd, setn, ev, nth, over, cl, eI, eP, eT, List.map, List.append, List.drop, List.take]
  refine K.seq_pure (K.move) rfl ?_
  dsimp only [setd, setn, ev, nth]
  refine K.split 7 rfl (fun hg7 => ?_) (fun hg7 => ?_)
  · try replace hg7 := of_decide_eq_true hg7
    refine K.seq_skip ?_ ?_
    · rfl
    try dsimp only [setd, setn, ev, nth, over, cl, eI, eP, eT, List.map, List.append, List.drop, List.take]
    refine K.seq_skip ?_ ?_
    · rfl
    try dsimp only [setd, setn, ev, nth, over, cl, eI, eP, eT, List.map, List.append, List.drop, List.take]
    refine K.seq_skip ?_ ?_
    · rfl
    try dsimp only [setd, setn, ev, nth, over, cl, eI, eP, eT, List.map, List.append, List.drop, List.take]
    refine K.seq_skip ?_ ?_
    · rfl
    try dsimp only [setd, setn, ev, nth, over, cl, eI, eP, eT, List.map, List.append, List.drop, List.take]
    refine K.seq_pure (K.pick_t rfl) rfl ?_
    dsimp only [setd, setn, ev, nth]
    refine K.seq_nil ?_
    refine K.norm_then ?_
    refine K.cond_true rfl ?_
    refine K.seq ?_
    refine K.region_lit ?_
    refine K.seq_pure (K.assign) rfl ?_
    dsimp only [setd, setn, ev, nth]
    refine K.seq_nil ?_
    refine K.norm_then ?_
    refine K.ret ?_
    refine K.ret_then ?_
    refine K.end_ret (fun w _ => K.res_tmp rfl w) ?_
    exact K.gives_i rfl (by unfold scE; rw [if_neg (by omega)])
  try replace hg7 := of_decide_eq_false hg7
  refine K.seq_pure (K.fieldAddr_lit fo_27_1 rfl) rfl ?_
  dsimp only [setd, setn, ev, nth]
  refine K.seq_sil (K.load1_own one_3 rfl (K.m0) rfl) rfl ?_
  try dsimp only [setd, setn, ev, nth, over, cl, eI, eP, eT, List.map, List.append, List.drop, List.take]
  refine K.seq_call (K.call_g cal_57 (fun F w hF hw => c57 w)) rfl ?_
  try dsimp only [setd, setn, ev, nth, over, cl, eI, eP, eT, List.map, List.append, List.drop, List.take]
  first | refine K.seq_pure (K.not_d rfl) rfl ?_ | refine K.seq_pure (K.not_ rfl) rfl ?_
  try dsimp only [setd, setn, ev, nth, over, cl, eI, eP, eT, List.map, List.append, List.drop, List.take]
  refine K.seq_pure (K.pick_f rfl) rfl ?_
  dsimp only [setd, setn, ev, nth]
  refine K.seq_nil ?_
  refine K.norm_then ?_
  refine K.cond rfl (fun ht12 => ?_) (fun ht12 => ?_)
  · try replace ht12 := of_decide_eq_true ht12
    refine K.seq ?_
    refine K.region_lit ?_
    refine K.seq_pure (K.assign) rfl ?_
    dsimp only [setd, setn, ev, nth]
    refine K.seq_nil ?_
    refine K.norm_then ?_
    refine K.ret ?_
    refine K.ret_then ?_
    refine K.end_ret (fun w _ => K.res_tmp rfl w) ?_
    exact K.gives_i rfl (by unfold scE; rw [if_neg (by omega)])
  try replace ht12 := of_decide_eq_false ht12
  refine K.skip ?_
  refine K.norm_then ?_
  refine K.seq ?_
  refine K.seq ?_
  refine K.region_lit ?_
  refine K.seq_pure (K.fieldAddr_lit fo_27_0 rfl) rfl ?_
  dsimp only [setd, setn, ev, nth]
  refine K.seq_sil (K.load1_own one_3 rfl (K.m0) rfl) rfl ?_
  try dsimp only [setd, setn, ev, nth, over, cl, eI, eP, eT, List.map, List.append, List.drop, List.take]
  refine K.seq_pure (K.fieldAddr_lit fo_27_1 rfl) rfl ?_
  dsimp only [setd, setn, ev, nth]
  refine K.seq_sil (K.load1_own one_3 rfl (K.m0) rfl) rfl ?_
  try dsimp only [setd, setn, ev, nth, over, cl, eI, eP, eT, List.map, List.append, List.drop, List.take]
  refine K.seq_call (K.call_g cal_80 (fun F w hF hw => c80 (by omega) (by omega) (by omega) (by omega) w)) rfl ?_
  try dsimp only [setd, setn, ev, nth, over, cl, eI, eP, eT, List.map, List.append, List.drop, List.take]
  refine K.seq_nil ?_
  refine K.norm_then ?_
  refine K.cond rfl (fun ht17 => ?_) (fun ht17 => ?_)
  · try replace ht17 := of_decide_eq_true ht17
    refine K.seq ?_
    refine K.region_lit ?_
    refine K.seq_pure (K.assign) rfl ?_
    dsimp only [setd, setn, ev, nth]
    refine K.seq_nil ?_
    refine K.norm_then ?_
    refine K.ret ?_
    refine K.ret_then ?_
    refine K.end_ret (fun w _ => K.res_tmp rfl w) ?_
    exact K.gives_i rfl (by unfold scE; rw [if_pos (by omega), if_pos ht17])
  try replace ht17 := of_decide_eq_false ht17
  refine K.skip ?_
  refine K.norm_then ?_
  refine K.seq ?_
  refine K.region_lit ?_
  refine K.seq_pure (K.assign) rfl ?_
  dsimp only [setd, setn, ev, nth]
  refine K.seq_nil ?_
  refine K.norm_then ?_
  refine K.ret ?_
  refine K.end_ret (fun w _ => K.res_tmp rfl w) ?_
  exact K.gives_i rfl (by unfold scE; rw [if_pos (by omega), if_neg (by simp [ht17])])

set_option maxRecDepth 100000 in
theorem c16 {kind base most : Int} {A B : Option Addr} {c d : Nat} {hs : List Int} {rs : List (Int × Int)} {w : World} (hH : K.Rd w A 1 K.eI hs) (hR : K.Rd w B 2 K.eP rs) (hn : hs.length ≤ 4611686018427387904) (hm : rs.length ≤ 4611686018427387904) :
    Calls Try.prog 16 [.agg #[.int .i64 kind, .int .i64 base, .int .i64 most, .slice A hs.length c, .slice B rs.length d]].toArray w (K.Gives (K.tup3 (chk kind base most hs rs)) w) := by
  refine K.enter (args := [.agg #[.int .i64 kind, .int .i64 base, .int .i64 most, .slice A hs.length c, .slice B rs.length d]]) Try.func16 rfl (n := 86) rfl ?_
  simp only [List.replicate, List.cons_append, List.nil_append]
  refine K.seq ?_
  refine K.region_lit ?_
  refine K.seq_new (K.box) rfl ?_
  intro b1
  try dsimp only [setd, setn, ev, nth, over, cl, eI, eP, eT, List.map, List.append, List.drop, List.take]
  refine K.seq_pure (K.assign) rfl ?_
  dsimp only [setd, setn, ev, nth]
  refine K.seq_pure (K.assign) rfl ?_
  dsimp only [setd, setn, ev, nth]
  refine K.seq_pure (K.assign) rfl ?_
  dsimp only [setd, setn, ev, nth]
  refine K.seq_nil ?_
  refine K.norm_then ?_
  refine K.seq ?_
  refine K.seq ?_
  refine K.region_lit ?_
  refine K.seq_pure (K.fieldAddr_lit fo_25_0 rfl) rfl ?_
  dsimp only [setd, setn, ev, nth]
  refine K.seq_sil (K.load1_own one_3 rfl (K.m0) rfl) rfl ?_
  try dsimp only [setd, setn, ev, nth, over, cl, eI, eP, eT, List.map, List.append, List.drop, List.take]
  refine K.seq_call (K.call_g cal_57 (fun F w hF hw => c57 w)) rfl ?_
  try dsimp only [setd, setn, ev, nth, over, cl, eI, eP, eT, List.map, List.append, List.drop, List.take]
  first | refine K.seq_pure (K.not_d rfl) rfl ?_ | refine K.seq_pure (K.not_ rfl) rfl ?_
  try dsimp only [setd, setn, ev, nth, over, cl, eI, eP, eT, List.map, List.append, List.drop, List.take]
  refine K.seq_nil ?_
  refine K.norm_then ?_
  refine K.cond rfl (fun ht11 => ?_) (fun ht11 => ?_)
  · try replace ht11 := of_decide_eq_true ht11
    refine K.seq ?_
    refine K.region_lit ?_
    refine K.seq_pure (K.assign) rfl ?_
    dsimp only [setd, setn, ev, nth]
    refine K.seq_pure (K.assign) rfl ?_
    dsimp only [setd, setn, ev, nth]
    refine K.seq_pure (K.assign) rfl ?_
    dsimp only [setd, setn, ev, nth]
    refine K.seq_nil ?_
    refine K.norm_then ?_
    refine K.ret ?_
    refine K.ret_then ?_
    refine K.end_ret (fun w _ => K.res_ttt rfl w) ?_
    exact K.gives (by rw [chk_1 (by omega)]; rfl)
  try replace ht11 := of_decide_eq_false ht11
  refine K.skip ?_
  refine K.norm_then ?_
  refine K.seq ?_
  refine K.seq ?_
  refine K.region_lit ?_
  refine K.seq_pure (K.fieldAddr_lit fo_25_1 rfl) rfl ?_
  dsimp only [setd, setn, ev, nth]
  refine K.seq_sil (K.load1_own one_3 rfl (K.m0) rfl) rfl ?_
  try dsimp only [setd, setn, ev, nth, over, cl, eI, eP, eT, List.map, List.append, List.drop, List.take]
  refine K.seq_call (K.call_g cal_57 (fun F w hF hw => c57 w)) rfl ?_
  try dsimp only [setd, setn, ev, nth, over, cl, eI, eP, eT, List.map, List.append, List.drop, List.take]
  first | refine K.seq_pure (K.not_d rfl) rfl ?_ | refine K.seq_pure (K.not_ rfl) rfl ?_
  try dsimp only [setd, setn, ev, nth, over, cl, eI, eP, eT, List.map, List.append, List.drop, List.take]
  refine K.seq_pure (K.move) rfl ?_
  dsimp only [setd, setn, ev, nth]
  refine K.split 16 rfl (fun hg16 => ?_) (fun hg16 => ?_)
  · try replace hg16 := of_decide_eq_true hg16
    refine K.seq_skip ?_ ?_
    · rfl
    try dsimp only [setd, setn, ev, nth, over, cl, eI, eP, eT, List.map, List.append, List.drop, List.take]
    refine K.seq_skip ?_ ?_
    · rfl
    try dsimp only [setd, setn, ev, nth, over, cl, eI, eP, eT, List.map, List.append, List.drop, List.take]
    refine K.seq_skip ?_ ?_
    · rfl
    try dsimp only [setd, setn, ev, nth, over, cl, eI, eP, eT, List.map, List.append, List.drop, List.take]
    refine K.seq_skip ?_ ?_
    · rfl
    try dsimp only [setd, setn, ev, nth, over, cl, eI, eP, eT, List.map, List.append, List.drop, List.take]
    refine K.seq_pure (K.pick_t rfl) rfl ?_
    dsimp only [setd, setn, ev, nth]
    refine K.seq_nil ?_
    refine K.norm_then ?_
    refine K.cond_true rfl ?_
    refine K.seq ?_
    refine K.region_lit ?_
    refine K.seq_pure (K.assign) rfl ?_
    dsimp only [setd, setn, ev, nth]
    refine K.seq_pure (K.assign) rfl ?_
    dsimp only [setd, setn, ev, nth]
    refine K.seq_pure (K.assign) rfl ?_
    dsimp only [setd, setn, ev, nth]
    refine K.seq_nil ?_
    refine K.norm_then ?_
    refine K.ret ?_
    refine K.ret_then ?_
    refine K.end_ret (fun w _ => K.res_ttt rfl w) ?_
    exact K.gives (by rw [chk_2 (by omega) (by omega)]; rfl)
  try replace hg16 := of_decide_eq_false hg16
  refine K.seq_pure (K.fieldAddr_lit fo_25_2 rfl) rfl ?_
  dsimp only [setd, setn, ev, nth]
  refine K.seq_sil (K.load1_own one_3 rfl (K.m0) rfl) rfl ?_
  try dsimp only [setd, setn, ev, nth, over, cl, eI, eP, eT, List.map, List.append, List.drop, List.take]
  refine K.seq_call (K.call_g cal_57 (fun F w hF hw => c57 w)) rfl ?_
  try dsimp only [setd, setn, ev, nth, over, cl, eI, eP, eT, List.map, List.append, List.drop, List.take]
  first | refine K.seq_pure (K.not_d rfl) rfl ?_ | refine K.seq_pure (K.not_ rfl) rfl ?_
  try dsimp only [setd, setn, ev, nth, over, cl, eI, eP, eT, List.map, List.append, List.drop, List.take]
  refine K.seq_pure (K.pick_f rfl) rfl ?_
  dsimp only [setd, setn, ev, nth]
  refine K.seq_nil ?_
  refine K.norm_then ?_
  refine K.cond rfl (fun ht21 => ?_) (fun ht21 => ?_)
  · try replace ht21 := of_decide_eq_true ht21
    refine K.seq ?_
    refine K.region_lit ?_
    refine K.seq_pure (K.assign) rfl ?_
    dsimp only [setd, setn, ev, nth]
    refine K.seq_pure (K.assign) rfl ?_
    dsimp only [setd, setn, ev, nth]
    refine K.seq_pure (K.assign) rfl ?_
    dsimp only [setd, setn, ev, nth]
    refine K.seq_nil ?_
    refine K.norm_then ?_
    refine K.ret ?_
    refine K.ret_then ?_
    refine K.end_ret (fun w _ => K.res_ttt rfl w) ?_
    exact K.gives (by rw [chk_2 (by omega) (by omega)]; rfl)
  try replace ht21 := of_decide_eq_false ht21
  refine K.skip ?_
  refine K.norm_then ?_
  refine K.seq ?_
  refine K.seq ?_
  refine K.region_lit ?_
  refine K.seq_pure (K.fieldAddr_lit fo_25_3 rfl) rfl ?_
  dsimp only [setd, setn, ev, nth]
  refine K.seq_sil (K.load1_own one_22 rfl (K.m0) rfl) rfl ?_
  try dsimp only [setd, setn, ev, nth, over, cl, eI, eP, eT, List.map, List.append, List.drop, List.take]
  refine K.seq_pure (K.len_sl sl_22 rfl) rfl ?_
  dsimp only [setd, setn, ev, nth]
  refine K.seq_call (K.call_g cal_57 (fun F w hF hw => c57 w)) rfl ?_
  try dsimp only [setd, setn, ev, nth, over, cl, eI, eP, eT, List.map, List.append, List.drop, List.take]
  first | refine K.seq_pure (K.not_d rfl) rfl ?_ | refine K.seq_pure (K.not_ rfl) rfl ?_
  try dsimp only [setd, setn, ev, nth, over, cl, eI, eP, eT, List.map, List.append, List.drop, List.take]
  refine K.seq_pure (K.move) rfl ?_
  dsimp only [setd, setn, ev, nth]
  refine K.split 27 rfl (fun hg27 => ?_) (fun hg27 => ?_)
  · try replace hg27 := of_decide_eq_true hg27
    refine K.seq_skip ?_ ?_
    · rfl
    try dsimp only [setd, setn, ev, nth, over, cl, eI, eP, eT, List.map, List.append, List.drop, List.take]
    refine K.seq_skip ?_ ?_
    · rfl
    try dsimp only [setd, setn, ev, nth, over, cl, eI, eP, eT, List.map, List.append, List.drop, List.take]
    refine K.seq_skip ?_ ?_
    · rfl
    try dsimp only [setd, setn, ev, nth, over, cl, eI, eP, eT, List.map, List.append, List.drop, List.take]
    refine K.seq_skip ?_ ?_
    · rfl
    try dsimp only [setd, setn, ev, nth, over, cl, eI, eP, eT, List.map, List.append, List.drop, List.take]
    refine K.seq_pure (K.pick_t rfl) rfl ?_
    dsimp only [setd, setn, ev, nth]
    refine K.seq_nil ?_
    refine K.norm_then ?_
    refine K.cond_true rfl ?_
    refine K.seq ?_
    refine K.region_lit ?_
    refine K.seq_pure (K.assign) rfl ?_
    dsimp only [setd, setn, ev, nth]
    refine K.seq_pure (K.assign) rfl ?_
    dsimp only [setd, setn, ev, nth]
    refine K.seq_pure (K.assign) rfl ?_
    dsimp only [setd, setn, ev, nth]
    refine K.seq_nil ?_
    refine K.norm_then ?_
    refine K.ret ?_
    refine K.ret_then ?_
    refine K.end_ret (fun w _ => K.res_ttt rfl w) ?_
    exact K.gives (by rw [chk_3 (by omega) (by omega) (by omega)]; rfl)
  try replace hg27 := of_decide_eq_false hg27
  refine K.seq_pure (K.fieldAddr_lit fo_25_4 rfl) rfl ?_
  dsimp only [setd, setn, ev, nth]
  refine K.seq_sil (K.load1_own one_23 rfl (K.m0) rfl) rfl ?_
  try dsimp only [setd, setn, ev, nth, over, cl, eI, eP, eT, List.map, List.append, List.drop, List.take]
  refine K.seq_pure (K.len_sl sl_23 rfl) rfl ?_
  dsimp only [setd, setn, ev, nth]
  refine K.seq_pure (K.gtr rfl rfl) rfl ?_
  dsimp only [setd, setn, ev, nth]
  refine K.seq_pure (K.pick_f rfl) rfl ?_
  dsimp only [setd, setn, ev, nth]
  refine K.seq_nil ?_
  refine K.norm_then ?_
  refine K.cond rfl (fun ht32 => ?_) (fun ht32 => ?_)
  · try replace ht32 := of_decide_eq_true ht32
    refine K.seq ?_
    refine K.region_lit ?_
    refine K.seq_pure (K.assign) rfl ?_
    dsimp only [setd, setn, ev, nth]
    refine K.seq_pure (K.assign) rfl ?_
    dsimp only [setd, setn, ev, nth]
    refine K.seq_pure (K.assign) rfl ?_
    dsimp only [setd, setn, ev, nth]
    refine K.seq_nil ?_
    refine K.norm_then ?_
    refine K.ret ?_
    refine K.ret_then ?_
    refine K.end_ret (fun w _ => K.res_ttt rfl w) ?_
    exact K.gives (by rw [chk_3 (by omega) (by omega) (by omega)]; rfl)
  try replace ht32 := of_decide_eq_false ht32
  refine K.skip ?_
  refine K.norm_then ?_
  refine K.seq ?_
  refine K.seq ?_
  refine K.region_lit ?_
  refine K.seq_pure (K.assign) rfl ?_
  dsimp only [setd, setn, ev, nth]
  refine K.seq_nil ?_
  refine K.norm_then ?_
  refine K.block ?_
  refine K.loopW [5] [2, 3, 4, 33, 34, 35, 36, 37, 38, 39, 40, 41, 42, 43, 44, 45, 46, 47, 48, 49] (fun vi L => ∃ k : Nat, vi = [.int .i64 (k : Int)] ∧ L = [K.blk b1 25 [.int .i64 kind, .int .i64 base, .int .i64 most, .slice A hs.length c, .slice B rs.length d]] ∧ k ≤ hs.length ∧ ∀ j, j < k → hE base (hs.getD j default) = 0) (fun vi => hs.length - (intOf (K.nth vi 0)).toNat) ?_ ?_
  · exact ⟨0, rfl, rfl, Nat.zero_le _, fun j hj => absurd hj (Nat.not_lt_zero j)⟩
  intro vi vr L hJ
  obtain ⟨k, rfl, rfl, hkn, hall⟩ := hJ
  try dsimp only [setd, setn, ev, nth, over, cl, eI, eP, eT, setM, setF, List.map, List.append, List.drop, List.take]
  refine K.seq ?_
  refine K.seq ?_
  refine K.region_lit ?_
  refine K.seq_pure (K.move) rfl ?_
  dsimp only [setd, setn, ev, nth]
  refine K.seq_pure (K.fieldAddr_lit fo_25_3 rfl) rfl ?_
  dsimp only [setd, setn, ev, nth]
  refine K.seq_sil (K.load1_own one_22 rfl (K.m0) rfl) rfl ?_
  try dsimp only [setd, setn, ev, nth, over, cl, eI, eP, eT, List.map, List.append, List.drop, List.take]
  refine K.seq_pure (K.len_sl sl_22 rfl) rfl ?_
  dsimp only [setd, setn, ev, nth]
  refine K.seq_pure (K.lss rfl rfl) rfl ?_
  dsimp only [setd, setn, ev, nth]
  refine K.seq_nil ?_
  refine K.norm_then ?_
  refine K.cond rfl (fun ht37 => ?_) (fun ht37 => ?_)
  · try replace ht37 := of_decide_eq_true ht37
    refine K.skip ?_
    refine K.norm_then ?_
    refine K.seq ?_
    refine K.block ?_
    refine K.seq ?_
    refine K.draw_L [] Try_mixed ?_
    refine K.d_pure 0 rfl (K.fieldAddr_lit fo_25_3 rfl) (by kernel_rfl) rfl ?_
    dsimp only [setd, setn, ev, nth]
    refine K.d_mem 1 rfl (K.load1_own one_22 rfl (K.m0) rfl) (fun _ h => h) (by kernel_rfl) (by kernel_rfl) rfl ?_
    try dsimp only [setd, setn, ev, nth, over, cl, eI, eP, eT, List.map, List.append, List.drop, List.take]
    refine K.d_pure 2 rfl (K.move) (by kernel_rfl) rfl ?_
    dsimp only [setd, setn, ev, nth]
    refine K.d_ix (M := []) 3 _ rfl hH.sl sl_22 rfl rfl rfl (by omega) (by kernel_rfl) rfl ?_
    intro p43 hp43
    try dsimp only [setd, setn, ev, nth, over, cl, eI, eP, eT, List.map, List.append, List.drop, List.take]
    refine K.d_mem 4 rfl (K.load1 one_3 rfl (hp43.any)) (fun _ h => h) (by kernel_rfl) (by kernel_rfl) rfl ?_
    try dsimp only [setd, setn, ev, nth, over, cl, eI, eP, eT, List.map, List.append, List.drop, List.take]
    refine K.d_pure 5 rfl (K.fieldAddr_lit fo_25_1 rfl) (by kernel_rfl) rfl ?_
    dsimp only [setd, setn, ev, nth]
    refine K.d_mem 6 rfl (K.load1_own one_3 rfl (K.m0) rfl) (fun _ h => h) (by kernel_rfl) (by kernel_rfl) rfl ?_
    try dsimp only [setd, setn, ev, nth, over, cl, eI, eP, eT, List.map, List.append, List.drop, List.take]
    refine K.d_call 7 rfl (K.call_g cal_57 (fun F w hF hw => c57 w)) (fun _ h => h) (by kernel_rfl) rfl ?_
    try dsimp only [setd, setn, ev, nth, over, cl, eI, eP, eT, List.map, List.append, List.drop, List.take]
    first | refine K.d_pure 8 rfl (K.not_d rfl) (by kernel_rfl) rfl ?_ | refine K.d_pure 8 rfl (K.not_ rfl) (by kernel_rfl) rfl ?_
    try dsimp only [setd, setn, ev, nth, over, cl, eI, eP, eT, List.map, List.append, List.drop, List.take]
    refine K.d_done (by kernel_rfl) ?_
    refine K.norm_then ?_
    refine K.cond rfl (fun ht48 => ?_) (fun ht48 => ?_)
    · try replace ht48 := of_decide_eq_true ht48
      refine K.seq ?_
      refine K.region_lit ?_
      refine K.seq_pure (K.move) rfl ?_
      dsimp only [setd, setn, ev, nth]
      refine K.seq_pure (K.assign) rfl ?_
      dsimp only [setd, setn, ev, nth]
      refine K.seq_pure (K.assign) rfl ?_
      dsimp only [setd, setn, ev, nth]
      refine K.seq_pure (K.assign) rfl ?_
      dsimp only [setd, setn, ev, nth]
      refine K.seq_nil ?_
      refine K.norm_then ?_
      refine K.ret ?_
      refine K.ret_block ?_
      refine K.ret_then ?_
      refine K.ret_then ?_
      refine K.ret_block ?_
      refine K.ret_then ?_
      refine K.end_ret (fun w _ => K.res_ttt rfl w) ?_
      have hq : hE base (hs.getD k default) = 7 := by unfold hE; rw [if_neg (by omega)]
      have hf := K.fst_found (q := hE base) (by omega) hall (by omega)
      exact K.gives (by rw [chk_4 (by omega) (by omega) (by omega) (by rw [hf, hq]; exact K.ne0 (by decide)), hf, hq]; rfl)
    try replace ht48 := of_decide_eq_false ht48
    have hz : hE base (hs.getD k default) = 0 := by unfold hE; rw [if_pos (by omega)]
    refine K.skip ?_
    refine K.norm_block ?_
    refine K.norm_then ?_
    refine K.region_lit ?_
    refine K.seq_pure (K.move) rfl ?_
    dsimp only [setd, setn, ev, nth]
    refine K.seq_pure (K.add_i64 rfl rfl (by omega)) rfl ?_
    dsimp only [setd, setn, ev, nth]
    refine K.seq_pure (K.assign) rfl ?_
    dsimp only [setd, setn, ev, nth]
    refine K.seq_nil ?_
    exact K.round_endW [.int .i64 ((k : Int) + 1)] ⟨k + 1, rfl, rfl, by omega, K.lt_succ_case hall hz⟩ (by simp [K.nth, intOf]; omega) (by repeat (first | exact List.Sublist.refl _ | apply List.Sublist.cons)) (by kernel_rfl)
  try replace ht37 := of_decide_eq_false ht37
  have hfst := K.fst_none (q := hE base) (fun j hj => hall j (by omega))
  refine K.exit ?_
  refine K.exit_then ?_
  refine K.exit_then ?_
  refine K.exit_here ?_
  refine K.norm_then ?_
  refine K.seq ?_
  refine K.seq ?_
  refine K.region_lit ?_
  refine K.seq_pure (K.assign) rfl ?_
  dsimp only [setd, setn, ev, nth]
  refine K.seq_nil ?_
  refine K.norm_then ?_
  refine K.block ?_
  refine K.loopW [6] [2, 3, 4, 7, 50, 51, 52, 53, 54, 55, 56, 57, 58, 59, 60, 61, 62, 63, 64, 65, 66, 67, 68, 69, 70, 71, 72, 73, 74, 75, 76, 77, 78, 79, 80, 81, 82, 83, 84, 85, 86] (fun vi L => ∃ k : Nat, vi = [.int .i64 (k : Int)] ∧ L = [K.blk b1 25 [.int .i64 kind, .int .i64 base, .int .i64 most, .slice A hs.length c, .slice B rs.length d]] ∧ k ≤ rs.length ∧ ∀ j, j < k → roadE hs.length (rs.getD j default) = 0) (fun vi => rs.length - (intOf (K.nth vi 0)).toNat) ?_ ?_
  · exact ⟨0, rfl, rfl, Nat.zero_le _, fun j hj => absurd hj (Nat.not_lt_zero j)⟩
  intro vi vr L hJ
  obtain ⟨k, rfl, rfl, hkn2, hall2⟩ := hJ
  try dsimp only [setd, setn, ev, nth, over, cl, eI, eP, eT, setM, setF, List.map, List.append, List.drop, List.take]
  refine K.seq ?_
  refine K.seq ?_
  refine K.region_lit ?_
  refine K.seq_pure (K.move) rfl ?_
  dsimp only [setd, setn, ev, nth]
  refine K.seq_pure (K.fieldAddr_lit fo_25_4 rfl) rfl ?_
  dsimp only [setd, setn, ev, nth]
  refine K.seq_sil (K.load1_own one_23 rfl (K.m0) rfl) rfl ?_
  try dsimp only [setd, setn, ev, nth, over, cl, eI, eP, eT, List.map, List.append, List.drop, List.take]
  refine K.seq_pure (K.len_sl sl_23 rfl) rfl ?_
  dsimp only [setd, setn, ev, nth]
  refine K.seq_pure (K.lss rfl rfl) rfl ?_
  dsimp only [setd, setn, ev, nth]
  refine K.seq_nil ?_
  refine K.norm_then ?_
  refine K.cond rfl (fun ht54 => ?_) (fun ht54 => ?_)
  · try replace ht54 := of_decide_eq_true ht54
    refine K.skip ?_
    refine K.norm_then ?_
    refine K.seq ?_
    refine K.block ?_
    refine K.seq ?_
    refine K.region_lit ?_
    refine K.seq_pure (K.fieldAddr_lit fo_25_4 rfl) rfl ?_
    dsimp only [setd, setn, ev, nth]
    refine K.seq_sil (K.load1_own one_23 rfl (K.m0) rfl) rfl ?_
    try dsimp only [setd, setn, ev, nth, over, cl, eI, eP, eT, List.map, List.append, List.drop, List.take]
    refine K.seq_pure (K.move) rfl ?_
    dsimp only [setd, setn, ev, nth]
    refine K.seq_ix (M := []) _ hR.sl sl_23 rfl rfl rfl (by omega) rfl ?_
    intro p60 hp60
    try dsimp only [setd, setn, ev, nth, over, cl, eI, eP, eT, List.map, List.append, List.drop, List.take]
    refine K.seq_sil (K.loadA_p ag_79 rfl (hp60.any) rfl) rfl ?_
    try dsimp only [setd, setn, ev, nth, over, cl, eI, eP, eT, List.map, List.append, List.drop, List.take]
    refine K.seq_new (K.alloc zr_79) rfl ?_
    intro b7
    try dsimp only [setd, setn, ev, nth, over, cl, eI, eP, eT, List.map, List.append, List.drop, List.take]
    refine K.seq_st (K.store_all sz_79 rfl rfl rfl rfl (K.rp0)) rfl ?_
    try dsimp only [setd, setn, ev, nth, over, cl, eI, eP, eT, List.map, List.append, List.drop, List.take]
    refine K.seq_nil ?_
    refine K.norm_then ?_
    refine K.seq ?_
    refine K.seq ?_
    refine K.region_lit ?_
    refine K.seq_pure (K.fieldAddr_lit fo_79_0 rfl) rfl ?_
    dsimp only [setd, setn, ev, nth]
    refine K.seq_sil (K.load1_own one_3 rfl (K.m0) rfl) rfl ?_
    try dsimp only [setd, setn, ev, nth, over, cl, eI, eP, eT, List.map, List.append, List.drop, List.take]
    refine K.seq_pure (K.fieldAddr_lit fo_25_3 rfl) rfl ?_
    dsimp only [setd, setn, ev, nth]
    refine K.seq_sil (K.load1_own one_22 rfl (K.m1) rfl) rfl ?_
    try dsimp only [setd, setn, ev, nth, over, cl, eI, eP, eT, List.map, List.append, List.drop, List.take]
    refine K.seq_pure (K.len_sl sl_22 rfl) rfl ?_
    dsimp only [setd, setn, ev, nth]
    refine K.seq_pure (K.sub_i64 rfl rfl (by omega)) rfl ?_
    dsimp only [setd, setn, ev, nth]
    refine K.seq_call (K.call_g cal_57 (fun F w hF hw => c57 w)) rfl ?_
    try dsimp only [setd, setn, ev, nth, over, cl, eI, eP, eT, List.map, List.append, List.drop, List.take]
    first | refine K.seq_pure (K.not_d rfl) rfl ?_ | refine K.seq_pure (K.not_ rfl) rfl ?_
    try dsimp only [setd, setn, ev, nth, over, cl, eI, eP, eT, List.map, List.append, List.drop, List.take]
    refine K.seq_pure (K.move) rfl ?_
    dsimp only [setd, setn, ev, nth]
    refine K.split 70 rfl (fun hg70 => ?_) (fun hg70 => ?_)
    · try replace hg70 := of_decide_eq_true hg70
      refine K.seq_skip ?_ ?_
      · rfl
      try dsimp only [setd, setn, ev, nth, over, cl, eI, eP, eT, List.map, List.append, List.drop, List.take]
      refine K.seq_skip ?_ ?_
      · rfl
      try dsimp only [setd, setn, ev, nth, over, cl, eI, eP, eT, List.map, List.append, List.drop, List.take]
      refine K.seq_skip ?_ ?_
      · rfl
      try dsimp only [setd, setn, ev, nth, over, cl, eI, eP, eT, List.map, List.append, List.drop, List.take]
      refine K.seq_skip ?_ ?_
      · rfl
      try dsimp only [setd, setn, ev, nth, over, cl, eI, eP, eT, List.map, List.append, List.drop, List.take]
      refine K.seq_skip ?_ ?_
      · rfl
      try dsimp only [setd, setn, ev, nth, over, cl, eI, eP, eT, List.map, List.append, List.drop, List.take]
      refine K.seq_skip ?_ ?_
      · rfl
      try dsimp only [setd, setn, ev, nth, over, cl, eI, eP, eT, List.map, List.append, List.drop, List.take]
      refine K.seq_skip ?_ ?_
      · rfl
      try dsimp only [setd, setn, ev, nth, over, cl, eI, eP, eT, List.map, List.append, List.drop, List.take]
      refine K.seq_skip ?_ ?_
      · rfl
      try dsimp only [setd, setn, ev, nth, over, cl, eI, eP, eT, List.map, List.append, List.drop, List.take]
      refine K.seq_pure (K.pick_t rfl) rfl ?_
      dsimp only [setd, setn, ev, nth]
      refine K.seq_nil ?_
      refine K.norm_then ?_
      refine K.cond_true rfl ?_
      refine K.seq ?_
      refine K.region_lit ?_
      refine K.seq_pure (K.move) rfl ?_
      dsimp only [setd, setn, ev, nth]
      refine K.seq_pure (K.assign) rfl ?_
      dsimp only [setd, setn, ev, nth]
      refine K.seq_pure (K.assign) rfl ?_
      dsimp only [setd, setn, ev, nth]
      refine K.seq_pure (K.assign) rfl ?_
      dsimp only [setd, setn, ev, nth]
      refine K.seq_nil ?_
      refine K.norm_then ?_
      refine K.ret ?_
      refine K.ret_then ?_
      refine K.ret_block ?_
      refine K.ret_then ?_
      refine K.ret_then ?_
      refine K.ret_block ?_
      refine K.ret_then ?_
      refine K.end_ret (fun w _ => K.res_ttt rfl w) ?_
      have hq : roadE hs.length (rs.getD k default) = 4 := by unfold roadE; rw [if_neg (by omega)]
      have hf := K.fst_found (q := roadE hs.length) (by omega) hall2 (by omega)
      exact K.gives (by rw [chk_5 (by omega) (by omega) (by omega) (by rw [hfst]) (by rw [hf, hq]; exact K.ne0 (by decide)), hf, hq]; rfl)
    try replace hg70 := of_decide_eq_false hg70
    refine K.seq_pure (K.fieldAddr_lit fo_79_1 rfl) rfl ?_
    dsimp only [setd, setn, ev, nth]
    refine K.seq_sil (K.load1_own one_3 rfl (K.m0) rfl) rfl ?_
    try dsimp only [setd, setn, ev, nth, over, cl, eI, eP, eT, List.map, List.append, List.drop, List.take]
    refine K.seq_pure (K.fieldAddr_lit fo_25_3 rfl) rfl ?_
    dsimp only [setd, setn, ev, nth]
    refine K.seq_sil (K.load1_own one_22 rfl (K.m1) rfl) rfl ?_
    try dsimp only [setd, setn, ev, nth, over, cl, eI, eP, eT, List.map, List.append, List.drop, List.take]
    refine K.seq_pure (K.len_sl sl_22 rfl) rfl ?_
    dsimp only [setd, setn, ev, nth]
    refine K.seq_pure (K.sub_i64 rfl rfl (by omega)) rfl ?_
    dsimp only [setd, setn, ev, nth]
    refine K.seq_call (K.call_g cal_57 (fun F w hF hw => c57 w)) rfl ?_
    try dsimp only [setd, setn, ev, nth, over, cl, eI, eP, eT, List.map, List.append, List.drop, List.take]
    first | refine K.seq_pure (K.not_d rfl) rfl ?_ | refine K.seq_pure (K.not_ rfl) rfl ?_
    try dsimp only [setd, setn, ev, nth, over, cl, eI, eP, eT, List.map, List.append, List.drop, List.take]
    refine K.seq_pure (K.pick_f rfl) rfl ?_
    dsimp only [setd, setn, ev, nth]
    refine K.seq_nil ?_
    refine K.norm_then ?_
    refine K.cond rfl (fun ht79 => ?_) (fun ht79 => ?_)
    · try replace ht79 := of_decide_eq_true ht79
      refine K.seq ?_
      refine K.region_lit ?_
      refine K.seq_pure (K.move) rfl ?_
      dsimp only [setd, setn, ev, nth]
      refine K.seq_pure (K.assign) rfl ?_
      dsimp only [setd, setn, ev, nth]
      refine K.seq_pure (K.assign) rfl ?_
      dsimp only [setd, setn, ev, nth]
      refine K.seq_pure (K.assign) rfl ?_
      dsimp only [setd, setn, ev, nth]
      refine K.seq_nil ?_
      refine K.norm_then ?_
      refine K.ret ?_
      refine K.ret_then ?_
      refine K.ret_block ?_
      refine K.ret_then ?_
      refine K.ret_then ?_
      refine K.ret_block ?_
      refine K.ret_then ?_
      refine K.end_ret (fun w _ => K.res_ttt rfl w) ?_
      have hq : roadE hs.length (rs.getD k default) = 4 := by unfold roadE; rw [if_neg (by omega)]
      have hf := K.fst_found (q := roadE hs.length) (by omega) hall2 (by omega)
      exact K.gives (by rw [chk_5 (by omega) (by omega) (by omega) (by rw [hfst]) (by rw [hf, hq]; exact K.ne0 (by decide)), hf, hq]; rfl)
    try replace ht79 := of_decide_eq_false ht79
    skip
    refine K.skip ?_
    refine K.norm_then ?_
    refine K.seq ?_
    refine K.region_lit ?_
    refine K.seq_pure (K.fieldAddr_lit fo_79_0 rfl) rfl ?_
    dsimp only [setd, setn, ev, nth]
    refine K.seq_sil (K.load1_own one_3 rfl (K.m0) rfl) rfl ?_
    try dsimp only [setd, setn, ev, nth, over, cl, eI, eP, eT, List.map, List.append, List.drop, List.take]
    refine K.seq_pure (K.fieldAddr_lit fo_79_1 rfl) rfl ?_
    dsimp only [setd, setn, ev, nth]
    refine K.seq_sil (K.load1_own one_3 rfl (K.m0) rfl) rfl ?_
    try dsimp only [setd, setn, ev, nth, over, cl, eI, eP, eT, List.map, List.append, List.drop, List.take]
    refine K.seq_pure (K.eql rfl rfl) rfl ?_
    dsimp only [setd, setn, ev, nth]
    refine K.seq_nil ?_
    refine K.norm_then ?_
    refine K.cond rfl (fun ht85 => ?_) (fun ht85 => ?_)
    · try replace ht85 := of_decide_eq_true ht85
      refine K.seq ?_
      refine K.region_lit ?_
      refine K.seq_pure (K.move) rfl ?_
      dsimp only [setd, setn, ev, nth]
      refine K.seq_pure (K.assign) rfl ?_
      dsimp only [setd, setn, ev, nth]
      refine K.seq_pure (K.assign) rfl ?_
      dsimp only [setd, setn, ev, nth]
      refine K.seq_pure (K.assign) rfl ?_
      dsimp only [setd, setn, ev, nth]
      refine K.seq_nil ?_
      refine K.norm_then ?_
      refine K.ret ?_
      refine K.ret_block ?_
      refine K.ret_then ?_
      refine K.ret_then ?_
      refine K.ret_block ?_
      refine K.ret_then ?_
      refine K.end_ret (fun w _ => K.res_ttt rfl w) ?_
      have hq : roadE hs.length (rs.getD k default) = 2 := by unfold roadE; rw [if_pos (by omega), if_pos (by omega)]
      have hf := K.fst_found (q := roadE hs.length) (by omega) hall2 (by omega)
      exact K.gives (by rw [chk_5 (by omega) (by omega) (by omega) (by rw [hfst]) (by rw [hf, hq]; exact K.ne0 (by decide)), hf, hq]; rfl)
    try replace ht85 := of_decide_eq_false ht85
    have hz : roadE hs.length (rs.getD k default) = 0 := by unfold roadE; rw [if_pos (by omega), if_neg (by omega)]
    refine K.skip ?_
    refine K.norm_block ?_
    refine K.norm_then ?_
    refine K.region_lit ?_
    refine K.seq_pure (K.move) rfl ?_
    dsimp only [setd, setn, ev, nth]
    refine K.seq_pure (K.add_i64 rfl rfl (by omega)) rfl ?_
    dsimp only [setd, setn, ev, nth]
    refine K.seq_pure (K.assign) rfl ?_
    dsimp only [setd, setn, ev, nth]
    refine K.seq_nil ?_
    exact K.round_endW [.int .i64 ((k : Int) + 1)] ⟨k + 1, rfl, rfl, by omega, K.lt_succ_case hall2 hz⟩ (by simp [K.nth, intOf]; omega) (by repeat (first | exact List.Sublist.refl _ | apply List.Sublist.cons)) (by kernel_rfl)
  try replace ht54 := of_decide_eq_false ht54
  refine K.exit ?_
  refine K.exit_then ?_
  refine K.exit_then ?_
  refine K.exit_here ?_
  refine K.norm_then ?_
  refine K.seq ?_
  refine K.region_lit ?_
  refine K.seq_pure (K.assign) rfl ?_
  dsimp only [setd, setn, ev, nth]
  refine K.seq_pure (K.assign) rfl ?_
  dsimp only [setd, setn, ev, nth]
  refine K.seq_pure (K.assign) rfl ?_
  dsimp only [setd, setn, ev, nth]
  refine K.seq_nil ?_
  refine K.norm_then ?_
  refine K.ret ?_
  refine K.end_ret (fun w _ => K.res_ttt rfl w) ?_
  have hf := K.fst_none (q := roadE hs.length) (fun j hj => hall2 j (by omega))
  exact K.gives (by rw [chk_0 (by omega) (by omega) (by omega) (by rw [hfst]) (by rw [hf])]; rfl)

end Go.Proofs.Ytafkbioeoklldaa
