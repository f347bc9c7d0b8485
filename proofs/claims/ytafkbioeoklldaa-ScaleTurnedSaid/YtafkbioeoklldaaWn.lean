/-
  Walks of the program's functions, printed by program: what each returns.
  Conditions stand in each theorem.
-/
import Derived.Test.YtafkbioeoklldaaKf
import Derived.Test.YtafkbioeoklldaaK2
import Derived.WalkArith
import Derived.Test.YtafkbioeoklldaaS1
import Derived.Test.YtafkbioeoklldaaWa
import Derived.Test.YtafkbioeoklldaaWb
import Derived.Test.YtafkbioeoklldaaWc
import Derived.Test.YtafkbioeoklldaaWd
import Derived.Test.YtafkbioeoklldaaWe
import Derived.Test.YtafkbioeoklldaaWf
set_option linter.unusedSimpArgs false
set_option linter.unusedVariables false
namespace Go.Proofs.Ytafkbioeoklldaa
open Go.RowKit Go
open Go.K (setd setn ev nth over cl eI eP eT setM setF)
attribute [local irreducible] K.blk K.row
theorem bs51 (a b : Int) : K.Bs Try.prog 147 1 [(0, .agg #[.int .i64 a, .int .i64 b])] 51 [.int .i64 a, .int .i64 b] := fun w => by kernel_rfl

set_option maxRecDepth 100000 in
theorem c102 {low high : Int} {A : Option Addr} {c : Nat} {xs : List (Int × Int)} {w : World} (hX : K.Rd w A 2 K.eP xs) (hn : xs.length ≤ 4611686018427387904) :
    Calls Try.prog 102 [.slice A xs.length c, .int .i64 low, .int .i64 high].toArray w (K.Gives (.int .i64 (spreadE low high xs)) w) := by
  refine K.enter (args := [.slice A xs.length c, .int .i64 low, .int .i64 high]) Try.func102 rfl (n := 44) rfl ?_
  simp only [List.replicate, List.cons_append, List.nil_append]
  refine K.seq ?_
  refine K.region_lit ?_
  refine K.seq_pure (K.assign) rfl ?_
  dsimp only [setd, setn, ev, nth]
  refine K.seq_nil ?_
  refine K.norm_then ?_
  refine K.seq ?_
  refine K.region_lit ?_
  refine K.seq_pure (K.assign) rfl ?_
  dsimp only [setd, setn, ev, nth]
  refine K.seq_nil ?_
  refine K.norm_then ?_
  refine K.seq ?_
  refine K.seq ?_
  refine K.region_lit ?_
  refine K.seq_pure (K.assign) rfl ?_
  dsimp only [setd, setn, ev, nth]
  refine K.seq_nil ?_
  refine K.norm_then ?_
  refine K.block ?_
  refine K.loopW [7, 8] [6, 9, 10, 11, 12, 13, 14, 15, 16, 17, 18, 19, 20, 21, 22, 23, 24, 25, 26, 27, 28, 29, 30, 31, 32, 33, 34, 35, 36, 37, 38, 39, 40, 41, 42, 43, 44, 45] (fun vi L => ∃ (j : Nat) (e : Int), vi = [.int .i64 e, .int .i64 (j : Int)] ∧ L = [] ∧ j ≤ xs.length ∧ (∀ i, i < j → (fun s : Int × Int => decide (¬ ((low ≤ s.1 ∧ s.1 ≤ high) ∧ (low ≤ s.2 ∧ s.2 ≤ high)))) (xs.getD i default) = false) ∧ e = if (xs.take j).any (fun s => decide (s.1 > s.2)) then 2 else 0) (fun vi => xs.length - (intOf (K.nth vi 1)).toNat) ?_ ?_
  · exact ⟨0, 0, rfl, rfl, Nat.zero_le _, fun i hi => absurd hi (Nat.not_lt_zero i), rfl⟩
  intro vi vr L hJ
  obtain ⟨j, e, rfl, rfl, hjn, hall, he⟩ := hJ
  try dsimp only [setd, setn, ev, nth, over, cl, eI, eP, eT, setM, setF, List.map, List.append, List.drop, List.take]
  refine K.seq ?_
  refine K.seq ?_
  refine K.region_lit ?_
  refine K.seq_pure (K.move) rfl ?_
  dsimp only [setd, setn, ev, nth]
  refine K.seq_pure (K.move) rfl ?_
  dsimp only [setd, setn, ev, nth]
  refine K.seq_pure (K.len_sl sl_147 rfl) rfl ?_
  dsimp only [setd, setn, ev, nth]
  refine K.seq_pure (K.lss rfl rfl) rfl ?_
  dsimp only [setd, setn, ev, nth]
  refine K.seq_nil ?_
  refine K.norm_then ?_
  refine K.cond rfl (fun ht12 => ?_) (fun ht12 => ?_)
  · try replace ht12 := of_decide_eq_true ht12
    have hj : j < xs.length := by omega
    refine K.skip ?_
    refine K.norm_then ?_
    refine K.seq ?_
    refine K.block ?_
    refine K.seq ?_
    refine K.seq ?_
    refine K.region_lit ?_
    refine K.seq_pure (K.move) rfl ?_
    dsimp only [setd, setn, ev, nth]
    refine K.seq_pure (K.move) rfl ?_
    dsimp only [setd, setn, ev, nth]
    refine K.seq_ix (M := []) _ hX.sl sl_147 rfl rfl rfl (by omega) rfl ?_
    intro p17 hp17
    try dsimp only [setd, setn, ev, nth, over, cl, eI, eP, eT, List.map, List.append, List.drop, List.take]
    refine K.seq_pure (K.fieldAddr fo_51_0 rfl) rfl ?_
    dsimp only [setd, setn, ev, nth]
    refine K.seq_sil (K.load1 one_3 rfl ((K.PtrL.fld hp17 (k := 0)).any)) rfl ?_
    try dsimp only [setd, setn, ev, nth, over, cl, eI, eP, eT, List.map, List.append, List.drop, List.take]
    refine K.seq_pure (K.move) rfl ?_
    dsimp only [setd, setn, ev, nth]
    refine K.seq_pure (K.move) rfl ?_
    dsimp only [setd, setn, ev, nth]
    refine K.seq_call (K.call_g cal_104 (fun F w hF hw => c104 w)) rfl ?_
    try dsimp only [setd, setn, ev, nth, over, cl, eI, eP, eT, List.map, List.append, List.drop, List.take]
    first | refine K.seq_pure (K.not_d rfl) rfl ?_ | refine K.seq_pure (K.not_ rfl) rfl ?_
    try dsimp only [setd, setn, ev, nth, over, cl, eI, eP, eT, List.map, List.append, List.drop, List.take]
    refine K.seq_pure (K.move) rfl ?_
    dsimp only [setd, setn, ev, nth]
    refine K.split 24 rfl (fun hg24 => ?_) (fun hg24 => ?_)
    · try replace hg24 := of_decide_eq_true hg24
      refine K.seq_skip ?_ ?_
      · rfl
      try dsimp only [setd, setn, ev, nth, over, cl, eI, eP, eT, List.map, List.append, List.drop, List.take]
      refine K.seq_skip ?_ ?_
      · rfl
      try dsimp only [setd, setn, ev, nth, over, cl, eI, eP, eT, List.map, List.append, List.drop, List.take]
      refine K.seq_skip ?_ ?_
      · rfl
      try dsimp only [setd, setn, ev, nth, over, cl, eI, eP, eT, List.map, List.append, List.drop, List.take]
      refine K.seq_skip ?_ ?_
      · rfl
      try dsimp only [setd, setn, ev, nth, over, cl, eI, eP, eT, List.map, List.append, List.drop, List.take]
      refine K.seq_skip ?_ ?_
      · rfl
      try dsimp only [setd, setn, ev, nth, over, cl, eI, eP, eT, List.map, List.append, List.drop, List.take]
      refine K.seq_skip ?_ ?_
      · rfl
      try dsimp only [setd, setn, ev, nth, over, cl, eI, eP, eT, List.map, List.append, List.drop, List.take]
      refine K.seq_skip ?_ ?_
      · rfl
      try dsimp only [setd, setn, ev, nth, over, cl, eI, eP, eT, List.map, List.append, List.drop, List.take]
      refine K.seq_skip ?_ ?_
      · rfl
      try dsimp only [setd, setn, ev, nth, over, cl, eI, eP, eT, List.map, List.append, List.drop, List.take]
      refine K.seq_skip ?_ ?_
      · rfl
      try dsimp only [setd, setn, ev, nth, over, cl, eI, eP, eT, List.map, List.append, List.drop, List.take]
      refine K.seq_pure (K.pick_t rfl) rfl ?_
      dsimp only [setd, setn, ev, nth]
      refine K.seq_nil ?_
      refine K.norm_then ?_
      refine K.cond_true rfl ?_
      refine K.seq ?_
      refine K.region_lit ?_
      refine K.seq_pure (K.assign) rfl ?_
      dsimp only [setd, setn, ev, nth]
      refine K.seq_nil ?_
      refine K.norm_then ?_
      refine K.ret ?_
      refine K.ret_then ?_
      refine K.ret_block ?_
      refine K.ret_then ?_
      refine K.ret_then ?_
      refine K.ret_block ?_
      refine K.ret_then ?_
      refine K.end_ret (fun w _ => K.res_tmp rfl w) ?_
      exact K.gives_i rfl (by unfold spreadE; rw [if_pos (any_t hj (decide_eq_true (by omega)))])
    try replace hg24 := of_decide_eq_false hg24
    refine K.seq_pure (K.move) rfl ?_
    dsimp only [setd, setn, ev, nth]
    refine K.seq_pure (K.move) rfl ?_
    dsimp only [setd, setn, ev, nth]
    refine K.seq_ix (M := []) _ hX.sl sl_147 rfl rfl rfl (by omega) rfl ?_
    intro p27 hp27
    try dsimp only [setd, setn, ev, nth, over, cl, eI, eP, eT, List.map, List.append, List.drop, List.take]
    refine K.seq_pure (K.fieldAddr fo_51_1 rfl) rfl ?_
    dsimp only [setd, setn, ev, nth]
    refine K.seq_sil (K.load1 one_3 rfl ((K.PtrL.fld hp27 (k := 1)).any)) rfl ?_
    try dsimp only [setd, setn, ev, nth, over, cl, eI, eP, eT, List.map, List.append, List.drop, List.take]
    refine K.seq_pure (K.move) rfl ?_
    dsimp only [setd, setn, ev, nth]
    refine K.seq_pure (K.move) rfl ?_
    dsimp only [setd, setn, ev, nth]
    refine K.seq_call (K.call_g cal_104 (fun F w hF hw => c104 w)) rfl ?_
    try dsimp only [setd, setn, ev, nth, over, cl, eI, eP, eT, List.map, List.append, List.drop, List.take]
    first | refine K.seq_pure (K.not_d rfl) rfl ?_ | refine K.seq_pure (K.not_ rfl) rfl ?_
    try dsimp only [setd, setn, ev, nth, over, cl, eI, eP, eT, List.map, List.append, List.drop, List.take]
    refine K.seq_pure (K.pick_f rfl) rfl ?_
    dsimp only [setd, setn, ev, nth]
    refine K.seq_nil ?_
    refine K.norm_then ?_
    refine K.cond rfl (fun ht34 => ?_) (fun ht34 => ?_)
    · try replace ht34 := of_decide_eq_true ht34
      refine K.seq ?_
      refine K.region_lit ?_
      refine K.seq_pure (K.assign) rfl ?_
      dsimp only [setd, setn, ev, nth]
      refine K.seq_nil ?_
      refine K.norm_then ?_
      refine K.ret ?_
      refine K.ret_then ?_
      refine K.ret_block ?_
      refine K.ret_then ?_
      refine K.ret_then ?_
      refine K.ret_block ?_
      refine K.ret_then ?_
      refine K.end_ret (fun w _ => K.res_tmp rfl w) ?_
      exact K.gives_i rfl (by unfold spreadE; rw [if_pos (any_t hj (decide_eq_true (by omega)))])
    try replace ht34 := of_decide_eq_false ht34
    refine K.skip ?_
    refine K.norm_then ?_
    refine K.seq ?_
    refine K.draw_L [] Try_mixed ?_
    refine K.d_pure 0 rfl (K.move) (by kernel_rfl) rfl ?_
    dsimp only [setd, setn, ev, nth]
    refine K.d_pure 1 rfl (K.move) (by kernel_rfl) rfl ?_
    dsimp only [setd, setn, ev, nth]
    refine K.d_ix (M := []) 2 _ rfl hX.sl sl_147 rfl rfl rfl (by omega) (by kernel_rfl) rfl ?_
    intro p37 hp37
    try dsimp only [setd, setn, ev, nth, over, cl, eI, eP, eT, List.map, List.append, List.drop, List.take]
    refine K.d_pure 3 rfl (K.fieldAddr fo_51_0 rfl) (by kernel_rfl) rfl ?_
    dsimp only [setd, setn, ev, nth]
    refine K.d_mem 4 rfl (K.load1 one_3 rfl ((K.PtrL.fld hp37 (k := 0)).any)) (fun _ h => h) (by kernel_rfl) (by kernel_rfl) rfl ?_
    try dsimp only [setd, setn, ev, nth, over, cl, eI, eP, eT, List.map, List.append, List.drop, List.take]
    refine K.d_pure 5 rfl (K.move) (by kernel_rfl) rfl ?_
    dsimp only [setd, setn, ev, nth]
    refine K.d_pure 6 rfl (K.move) (by kernel_rfl) rfl ?_
    dsimp only [setd, setn, ev, nth]
    refine K.d_ix (M := []) 7 _ rfl hX.sl sl_147 rfl rfl rfl (by omega) (by kernel_rfl) rfl ?_
    intro p42 hp42
    try dsimp only [setd, setn, ev, nth, over, cl, eI, eP, eT, List.map, List.append, List.drop, List.take]
    refine K.d_pure 8 rfl (K.fieldAddr fo_51_1 rfl) (by kernel_rfl) rfl ?_
    dsimp only [setd, setn, ev, nth]
    refine K.d_mem 9 rfl (K.load1 one_3 rfl ((K.PtrL.fld hp42 (k := 1)).any)) (fun _ h => h) (by kernel_rfl) (by kernel_rfl) rfl ?_
    try dsimp only [setd, setn, ev, nth, over, cl, eI, eP, eT, List.map, List.append, List.drop, List.take]
    refine K.d_pure 10 rfl (K.gtr rfl rfl) (by kernel_rfl) rfl ?_
    dsimp only [setd, setn, ev, nth]
    refine K.d_done (by kernel_rfl) ?_
    refine K.norm_then ?_
    refine K.cond rfl (fun ht45 => ?_) (fun ht45 => ?_)
    · try replace ht45 := of_decide_eq_true ht45
      refine K.region_lit ?_
      refine K.seq_pure (K.assign) rfl ?_
      dsimp only [setd, setn, ev, nth]
      refine K.seq_nil ?_
      refine K.norm_block ?_
      refine K.norm_then ?_
      refine K.region_lit ?_
      refine K.seq_pure (K.move) rfl ?_
      dsimp only [setd, setn, ev, nth]
      refine K.seq_pure (K.add_i64 rfl rfl (by omega)) rfl ?_
      dsimp only [setd, setn, ev, nth]
      refine K.seq_pure (K.assign) rfl ?_
      dsimp only [setd, setn, ev, nth]
      refine K.seq_nil ?_
      first | exact K.round_endW (L'' := []) [.int .i64 2, .int .i64 ((j : Int) + 1)] ⟨j + 1, 2, rfl, rfl, by omega, K.lt_succ_case hall (decide_eq_false (by omega)), by rw [any_take hj, decide_eq_true ht45, Bool.or_true]; rfl⟩ (by simp [K.nth, intOf]; omega) (List.nil_sublist _) (by kernel_rfl) | exact K.round_endW (L'' := []) [.int .i64 e, .int .i64 ((j : Int) + 1)] ⟨j + 1, e, rfl, rfl, by omega, K.lt_succ_case hall (decide_eq_false (by omega)), by rw [any_take hj, decide_eq_false ht45, Bool.or_false, ← he]⟩ (by simp [K.nth, intOf]; omega) (List.nil_sublist _) (by kernel_rfl)
    try replace ht45 := of_decide_eq_false ht45
    refine K.skip ?_
    refine K.norm_block ?_
    refine K.norm_then ?_
    refine K.region_lit ?_
    refine K.seq_pure (K.move) rfl ?_
    dsimp only [setd, setn, ev, nth]
    refine K.seq_pure (K.add_i64 rfl rfl (by omega)) rfl ?_
    dsimp only [setd, setn, ev, nth]
    refine K.seq_pure (K.assign) rfl ?_
    dsimp only [setd, setn, ev, nth]
    refine K.seq_nil ?_
    first | exact K.round_endW (L'' := []) [.int .i64 2, .int .i64 ((j : Int) + 1)] ⟨j + 1, 2, rfl, rfl, by omega, K.lt_succ_case hall (decide_eq_false (by omega)), by rw [any_take hj, decide_eq_true ht45, Bool.or_true]; rfl⟩ (by simp [K.nth, intOf]; omega) (List.nil_sublist _) (by kernel_rfl) | exact K.round_endW (L'' := []) [.int .i64 e, .int .i64 ((j : Int) + 1)] ⟨j + 1, e, rfl, rfl, by omega, K.lt_succ_case hall (decide_eq_false (by omega)), by rw [any_take hj, decide_eq_false ht45, Bool.or_false, ← he]⟩ (by simp [K.nth, intOf]; omega) (List.nil_sublist _) (by kernel_rfl)
  try replace ht12 := of_decide_eq_false ht12
  refine K.exit ?_
  refine K.exit_then ?_
  refine K.exit_then ?_
  refine K.exit_here ?_
  refine K.norm_then ?_
  refine K.seq ?_
  refine K.region_lit ?_
  refine K.seq_pure (K.move) rfl ?_
  dsimp only [setd, setn, ev, nth]
  refine K.seq_pure (K.assign) rfl ?_
  dsimp only [setd, setn, ev, nth]
  refine K.seq_nil ?_
  refine K.norm_then ?_
  refine K.ret ?_
  refine K.end_ret (fun w _ => K.res_tmp rfl w) ?_
  exact K.gives_i rfl (by unfold spreadE; rw [if_neg (by rw [any_f (fun i hi => hall i (by omega))]; decide), he, take_all (by omega)])

set_option maxRecDepth 100000 in
theorem c93 {a b low high : Int} (w : World) :
    Calls Try.prog 93 [.agg #[.int .i64 a, .int .i64 b], .int .i64 low, .int .i64 high].toArray w (K.Gives (.int .i64 (spreadE low high [(a, b)])) w) := by
  refine K.enter (args := [.agg #[.int .i64 a, .int .i64 b], .int .i64 low, .int .i64 high]) Try.func93 rfl (n := 9) rfl ?_
  simp only [List.replicate, List.cons_append, List.nil_append]
  refine K.seq ?_
  refine K.region_lit ?_
  refine K.seq_new (K.box) rfl ?_
  intro b3
  try dsimp only [setd, setn, ev, nth, over, cl, eI, eP, eT, List.map, List.append, List.drop, List.take]
  refine K.seq_pure (K.assign) rfl ?_
  dsimp only [setd, setn, ev, nth]
  refine K.seq_nil ?_
  refine K.norm_then ?_
  refine K.seq ?_
  refine K.region_lit ?_
  refine K.seq_sil (K.loadA_own ag_51 rfl (K.m0) rfl) rfl ?_
  try dsimp only [setd, setn, ev, nth, over, cl, eI, eP, eT, List.map, List.append, List.drop, List.take]
  refine K.seq_new (K.buildSlice (bs51 _ _)) rfl ?_
  intro b8
  try dsimp only [setd, setn, ev, nth, over, cl, eI, eP, eT, List.map, List.append, List.drop, List.take]
  refine K.seq_pure (K.move) rfl ?_
  dsimp only [setd, setn, ev, nth]
  refine K.seq_pure (K.move) rfl ?_
  dsimp only [setd, setn, ev, nth]
  refine K.seq_call (K.call_g cal_102 (fun F w hF hw => c102 (xs := [(a, b)]) (K.Rd.lit hw (hF _ (K.m0)) (fun _ => rfl) (by decide) rfl) (by simp))) rfl ?_
  try dsimp only [setd, setn, ev, nth, over, cl, eI, eP, eT, List.map, List.append, List.drop, List.take]
  refine K.seq_pure (K.assign) rfl ?_
  dsimp only [setd, setn, ev, nth]
  refine K.seq_nil ?_
  refine K.norm_then ?_
  refine K.ret ?_
  refine K.end_ret (fun w _ => K.res_tmp rfl w) ?_
  exact K.gives rfl

set_option maxRecDepth 100000 in
theorem c46 {kind base most : Int} {A B : Option Addr} {c d : Nat} {hs : List Int} {rs : List (Int × Int)} {u v : Int} {w : World} (hH : K.Rd w A 1 K.eI hs) (hR : K.Rd w B 2 K.eP rs) (g : Good kind base most hs rs) (hp : Parts u v) :
    Calls Try.prog 46 [.agg #[.int .i64 kind, .int .i64 base, .int .i64 most, .slice A hs.length c, .slice B rs.length d], .agg #[.int .i64 u, .int .i64 v]].toArray w (K.Gives (.bool (fitB most (cuts kind base u v hs))) w) := by
  have g1 := g.k
  have g2 := g.n
  have g3 := g.r
  have g4 := g.b
  have g5 := g.m
  have hcl : (cuts kind base u v hs).length = hs.length := cuts_len
  refine K.enter (args := [.agg #[.int .i64 kind, .int .i64 base, .int .i64 most, .slice A hs.length c, .slice B rs.length d], .agg #[.int .i64 u, .int .i64 v]]) Try.func46 rfl (n := 21) rfl ?_
  simp only [List.replicate, List.cons_append, List.nil_append]
  refine K.seq ?_
  refine K.region_lit ?_
  refine K.seq_new (K.box) rfl ?_
  intro b2
  try dsimp only [setd, setn, ev, nth, over, cl, eI, eP, eT, List.map, List.append, List.drop, List.take]
  refine K.seq_new (K.box) rfl ?_
  intro b3
  try dsimp only [setd, setn, ev, nth, over, cl, eI, eP, eT, List.map, List.append, List.drop, List.take]
  refine K.seq_pure (K.assign) rfl ?_
  dsimp only [setd, setn, ev, nth]
  refine K.seq_nil ?_
  refine K.norm_then ?_
  refine K.seq ?_
  refine K.region_lit ?_
  refine K.seq_sil (K.loadA_own ag_25 rfl (K.m1) rfl) rfl ?_
  try dsimp only [setd, setn, ev, nth, over, cl, eI, eP, eT, List.map, List.append, List.drop, List.take]
  refine K.seq_sil (K.loadA_own ag_27 rfl (K.m0) rfl) rfl ?_
  try dsimp only [setd, setn, ev, nth, over, cl, eI, eP, eT, List.map, List.append, List.drop, List.take]
  refine K.seq_loud (K.call_f cal_51 (fun F w hF hw => c51 (hH.pass hw) (hR.pass hw) g hp)) rfl ?_
  rintro ⟨A1, c1⟩ hA1
  try dsimp only [setd, setn, ev, nth, over, cl, eI, eP, eT, List.map, List.append, List.drop, List.take]
  refine K.seq_pure (K.assign) rfl ?_
  dsimp only [setd, setn, ev, nth]
  refine K.seq_nil ?_
  refine K.norm_then ?_
  refine K.seq ?_
  refine K.seq ?_
  refine K.region_lit ?_
  refine K.seq_pure (K.assign) rfl ?_
  dsimp only [setd, setn, ev, nth]
  refine K.seq_nil ?_
  refine K.norm_then ?_
  refine K.block ?_
  refine K.loopW [6] [4, 10, 11, 12, 13, 14, 15, 16, 17, 18, 19, 20, 21, 22] (fun vi L => ∃ j : Nat, vi = [.int .i64 (j : Int)] ∧ L = [K.row (.slice A1 (cuts kind base u v hs).length c1) 3 1 (cuts kind base u v hs).length ((cuts kind base u v hs).flatMap K.eI), K.blk b3 27 [.int .i64 u, .int .i64 v], K.blk b2 25 [.int .i64 kind, .int .i64 base, .int .i64 most, .slice A hs.length c, .slice B rs.length d]] ∧ j ≤ (cuts kind base u v hs).length ∧ ∀ i, i < j → (cuts kind base u v hs).getD i default ≤ most) (fun vi => (cuts kind base u v hs).length - (intOf (K.nth vi 0)).toNat) ?_ ?_
  · exact ⟨0, rfl, rfl, Nat.zero_le _, fun i hi => absurd hi (Nat.not_lt_zero i)⟩
  intro vi vr L hJ
  obtain ⟨j, rfl, rfl, hjn, hall⟩ := hJ
  try dsimp only [setd, setn, ev, nth, over, cl, eI, eP, eT, setM, setF, List.map, List.append, List.drop, List.take]
  refine K.seq ?_
  refine K.seq ?_
  refine K.region_lit ?_
  refine K.seq_pure (K.move) rfl ?_
  dsimp only [setd, setn, ev, nth]
  refine K.seq_pure (K.move) rfl ?_
  dsimp only [setd, setn, ev, nth]
  refine K.seq_pure (K.len_sl sl_22 rfl) rfl ?_
  dsimp only [setd, setn, ev, nth]
  refine K.seq_pure (K.lss rfl rfl) rfl ?_
  dsimp only [setd, setn, ev, nth]
  refine K.seq_nil ?_
  refine K.norm_then ?_
  refine K.cond rfl (fun ht13 => ?_) (fun ht13 => ?_)
  · try replace ht13 := of_decide_eq_true ht13
    have hj : j < (cuts kind base u v hs).length := by omega
    refine K.skip ?_
    refine K.norm_then ?_
    refine K.seq ?_
    refine K.block ?_
    refine K.seq ?_
    refine K.draw_L [] Try_mixed ?_
    refine K.d_pure 0 rfl (K.move) (by kernel_rfl) rfl ?_
    dsimp only [setd, setn, ev, nth]
    refine K.d_pure 1 rfl (K.move) (by kernel_rfl) rfl ?_
    dsimp only [setd, setn, ev, nth]
    refine K.d_ix (M := [_]) 2 _ rfl (K.Sl.own (t := 3) (c := c1) (size := 1) (e := K.eI) hA1 (fun _ => rfl)) sl_22 rfl rfl rfl (by omega) (by kernel_rfl) rfl ?_
    intro p18 hp18
    try dsimp only [setd, setn, ev, nth, over, cl, eI, eP, eT, List.map, List.append, List.drop, List.take]
    refine K.d_mem 3 rfl (K.load1 one_3 rfl (hp18.at1 (K.m0))) (fun _ h => h) (by kernel_rfl) (by kernel_rfl) rfl ?_
    try dsimp only [setd, setn, ev, nth, over, cl, eI, eP, eT, List.map, List.append, List.drop, List.take]
    refine K.d_pure 4 rfl (K.fieldAddr_lit fo_25_2 rfl) (by kernel_rfl) rfl ?_
    dsimp only [setd, setn, ev, nth]
    refine K.d_mem 5 rfl (K.load1_own one_3 rfl (K.m2) rfl) (fun _ h => h) (by kernel_rfl) (by kernel_rfl) rfl ?_
    try dsimp only [setd, setn, ev, nth, over, cl, eI, eP, eT, List.map, List.append, List.drop, List.take]
    refine K.d_pure 6 rfl (K.gtr rfl rfl) (by kernel_rfl) rfl ?_
    dsimp only [setd, setn, ev, nth]
    refine K.d_done (by kernel_rfl) ?_
    refine K.norm_then ?_
    refine K.cond rfl (fun ht22 => ?_) (fun ht22 => ?_)
    · try replace ht22 := of_decide_eq_true ht22
      refine K.seq ?_
      refine K.region_lit ?_
      refine K.seq_pure (K.assign) rfl ?_
      dsimp only [setd, setn, ev, nth]
      refine K.seq_nil ?_
      refine K.norm_then ?_
      refine K.ret ?_
      refine K.ret_block ?_
      refine K.ret_then ?_
      refine K.ret_then ?_
      refine K.ret_block ?_
      refine K.ret_then ?_
      refine K.end_ret (fun w _ => K.res_tmp rfl w) ?_
      exact K.gives_b rfl (fitB_f hj ht22).symm
    try replace ht22 := of_decide_eq_false ht22
    refine K.skip ?_
    refine K.norm_block ?_
    refine K.norm_then ?_
    refine K.region_lit ?_
    refine K.seq_pure (K.move) rfl ?_
    dsimp only [setd, setn, ev, nth]
    refine K.seq_pure (K.add_i64 rfl rfl (by omega)) rfl ?_
    dsimp only [setd, setn, ev, nth]
    refine K.seq_pure (K.assign) rfl ?_
    dsimp only [setd, setn, ev, nth]
    refine K.seq_nil ?_
    exact K.round_endW [.int .i64 ((j : Int) + 1)] ⟨j + 1, rfl, rfl, by omega, K.lt_succ_case hall (Int.not_lt.1 ht22)⟩ (by simp [K.nth, intOf]; omega) (by repeat (first | exact List.Sublist.refl _ | apply List.Sublist.cons)) (by kernel_rfl)
  try replace ht13 := of_decide_eq_false ht13
  refine K.exit ?_
  refine K.exit_then ?_
  refine K.exit_then ?_
  refine K.exit_here ?_
  refine K.norm_then ?_
  refine K.seq ?_
  refine K.region_lit ?_
  refine K.seq_pure (K.assign) rfl ?_
  dsimp only [setd, setn, ev, nth]
  refine K.seq_nil ?_
  refine K.norm_then ?_
  refine K.ret ?_
  refine K.end_ret (fun w _ => K.res_tmp rfl w) ?_
  exact K.gives_b rfl (fitB_t (fun i hi => hall i (by omega))).symm

set_option maxRecDepth 100000 in
theorem c47 {kind base most : Int} {A B : Option Addr} {c d : Nat} {hs : List Int} {rs : List (Int × Int)} {u v : Int} {M : Option Addr} {cm : Nat} {ms : List (Int × Int × Int)} {w : World} (hH : K.Rd w A 1 K.eI hs) (hR : K.Rd w B 2 K.eP rs) (g : Good kind base most hs rs) (hp : Parts u v) (hM : K.Rd w M 3 K.eT ms) (hml : ms.length ≤ 4611686018427387904) (hpt : ∀ y ∈ ms, 0 ≤ y.1 ∧ y.1 < hs.length) :
    Calls Try.prog 47 [.agg #[.int .i64 kind, .int .i64 base, .int .i64 most, .slice A hs.length c, .slice B rs.length d], .agg #[.int .i64 u, .int .i64 v], .slice M ms.length cm].toArray w (K.Gives (.bool (!(ms.any (missP (cuts kind base u v hs))))) w) := by
  have g1 := g.k
  have g2 := g.n
  have g3 := g.r
  have g4 := g.b
  have g5 := g.m
  have hcl : (cuts kind base u v hs).length = hs.length := cuts_len
  refine K.enter (args := [.agg #[.int .i64 kind, .int .i64 base, .int .i64 most, .slice A hs.length c, .slice B rs.length d], .agg #[.int .i64 u, .int .i64 v], .slice M ms.length cm]) Try.func47 rfl (n := 37) rfl ?_
  simp only [List.replicate, List.cons_append, List.nil_append]
  refine K.seq ?_
  refine K.region_lit ?_
  refine K.seq_new (K.box) rfl ?_
  intro b3
  try dsimp only [setd, setn, ev, nth, over, cl, eI, eP, eT, List.map, List.append, List.drop, List.take]
  refine K.seq_new (K.box) rfl ?_
  intro b4
  try dsimp only [setd, setn, ev, nth, over, cl, eI, eP, eT, List.map, List.append, List.drop, List.take]
  refine K.seq_pure (K.assign) rfl ?_
  dsimp only [setd, setn, ev, nth]
  refine K.seq_nil ?_
  refine K.norm_then ?_
  refine K.seq ?_
  refine K.region_lit ?_
  refine K.seq_sil (K.loadA_own ag_25 rfl (K.m1) rfl) rfl ?_
  try dsimp only [setd, setn, ev, nth, over, cl, eI, eP, eT, List.map, List.append, List.drop, List.take]
  refine K.seq_sil (K.loadA_own ag_27 rfl (K.m0) rfl) rfl ?_
  try dsimp only [setd, setn, ev, nth, over, cl, eI, eP, eT, List.map, List.append, List.drop, List.take]
  refine K.seq_loud (K.call_f cal_51 (fun F w hF hw => c51 (hH.pass hw) (hR.pass hw) g hp)) rfl ?_
  rintro ⟨A1, c1⟩ hA1
  try dsimp only [setd, setn, ev, nth, over, cl, eI, eP, eT, List.map, List.append, List.drop, List.take]
  refine K.seq_pure (K.assign) rfl ?_
  dsimp only [setd, setn, ev, nth]
  refine K.seq_nil ?_
  refine K.norm_then ?_
  refine K.seq ?_
  refine K.seq ?_
  refine K.region_lit ?_
  refine K.seq_pure (K.assign) rfl ?_
  dsimp only [setd, setn, ev, nth]
  refine K.seq_nil ?_
  refine K.norm_then ?_
  refine K.block ?_
  refine K.loopW [8] [6, 12, 13, 14, 15, 16, 17, 18, 19, 20, 21, 22, 23, 24, 25, 26, 27, 28, 29, 30, 31, 32, 33, 34, 35, 36, 37, 38, 39] (fun vi L => ∃ j : Nat, vi = [.int .i64 (j : Int)] ∧ L = [K.row (.slice A1 (cuts kind base u v hs).length c1) 3 1 (cuts kind base u v hs).length ((cuts kind base u v hs).flatMap K.eI), K.blk b4 27 [.int .i64 u, .int .i64 v], K.blk b3 25 [.int .i64 kind, .int .i64 base, .int .i64 most, .slice A hs.length c, .slice B rs.length d]] ∧ j ≤ ms.length ∧ ∀ i, i < j → missP (cuts kind base u v hs) (ms.getD i default) = false) (fun vi => ms.length - (intOf (K.nth vi 0)).toNat) ?_ ?_
  · exact ⟨0, rfl, rfl, Nat.zero_le _, fun i hi => absurd hi (Nat.not_lt_zero i)⟩
  intro vi vr L hJ
  obtain ⟨j, rfl, rfl, hjn, hall⟩ := hJ
  try dsimp only [setd, setn, ev, nth, over, cl, eI, eP, eT, setM, setF, List.map, List.append, List.drop, List.take]
  refine K.seq ?_
  refine K.seq ?_
  refine K.region_lit ?_
  refine K.seq_pure (K.move) rfl ?_
  dsimp only [setd, setn, ev, nth]
  refine K.seq_pure (K.move) rfl ?_
  dsimp only [setd, setn, ev, nth]
  refine K.seq_pure (K.len_sl sl_41 rfl) rfl ?_
  dsimp only [setd, setn, ev, nth]
  refine K.seq_pure (K.lss rfl rfl) rfl ?_
  dsimp only [setd, setn, ev, nth]
  refine K.seq_nil ?_
  refine K.norm_then ?_
  refine K.cond rfl (fun ht15 => ?_) (fun ht15 => ?_)
  · try replace ht15 := of_decide_eq_true ht15
    have hj : j < ms.length := by omega
    have hpj := hpt _ (K.gt_mem hj)
    refine K.skip ?_
    refine K.norm_then ?_
    refine K.seq ?_
    refine K.block ?_
    refine K.seq ?_
    refine K.draw_L [] Try_mixed ?_
    refine K.d_pure 0 rfl (K.move) (by kernel_rfl) rfl ?_
    dsimp only [setd, setn, ev, nth]
    refine K.d_pure 1 rfl (K.move) (by kernel_rfl) rfl ?_
    dsimp only [setd, setn, ev, nth]
    refine K.d_pure 2 rfl (K.move) (by kernel_rfl) rfl ?_
    dsimp only [setd, setn, ev, nth]
    refine K.d_ix (M := []) 3 _ rfl hM.sl sl_41 rfl rfl rfl (by omega) (by kernel_rfl) rfl ?_
    intro p21 hp21
    try dsimp only [setd, setn, ev, nth, over, cl, eI, eP, eT, List.map, List.append, List.drop, List.take]
    refine K.d_pure 4 rfl (K.fieldAddr fo_53_0 rfl) (by kernel_rfl) rfl ?_
    dsimp only [setd, setn, ev, nth]
    refine K.d_mem 5 rfl (K.load1 one_3 rfl ((K.PtrL.fld hp21 (k := 0)).any)) (fun _ h => h) (by kernel_rfl) (by kernel_rfl) rfl ?_
    try dsimp only [setd, setn, ev, nth, over, cl, eI, eP, eT, List.map, List.append, List.drop, List.take]
    refine K.d_ix (M := [_]) 6 (ms.getD j default).1.toNat rfl (K.Sl.own (t := 3) (c := c1) (size := 1) (e := K.eI) hA1 (fun _ => rfl)) sl_22 rfl rfl (by omega) (by omega) (by kernel_rfl) rfl ?_
    intro p24 hp24
    try dsimp only [setd, setn, ev, nth, over, cl, eI, eP, eT, List.map, List.append, List.drop, List.take]
    refine K.d_mem 7 rfl (K.load1 one_3 rfl (hp24.at1 (K.m0))) (fun _ h => h) (by kernel_rfl) (by kernel_rfl) rfl ?_
    try dsimp only [setd, setn, ev, nth, over, cl, eI, eP, eT, List.map, List.append, List.drop, List.take]
    refine K.d_pure 8 rfl (K.move) (by kernel_rfl) rfl ?_
    dsimp only [setd, setn, ev, nth]
    refine K.d_pure 9 rfl (K.move) (by kernel_rfl) rfl ?_
    dsimp only [setd, setn, ev, nth]
    refine K.d_ix (M := []) 10 _ rfl hM.sl sl_41 rfl rfl rfl (by omega) (by kernel_rfl) rfl ?_
    intro p28 hp28
    try dsimp only [setd, setn, ev, nth, over, cl, eI, eP, eT, List.map, List.append, List.drop, List.take]
    refine K.d_pure 11 rfl (K.fieldAddr fo_53_1 rfl) (by kernel_rfl) rfl ?_
    dsimp only [setd, setn, ev, nth]
    refine K.d_pure 12 rfl (K.fieldAddr fo_51_0 rfl) (by kernel_rfl) rfl ?_
    dsimp only [setd, setn, ev, nth]
    refine K.d_mem 13 rfl (K.load1 one_3 rfl ((K.PtrL.fld (K.PtrL.fld hp28 (k := 1)) (k := 0)).any)) (fun _ h => h) (by kernel_rfl) (by kernel_rfl) rfl ?_
    try dsimp only [setd, setn, ev, nth, over, cl, eI, eP, eT, List.map, List.append, List.drop, List.take]
    refine K.d_pure 14 rfl (K.move) (by kernel_rfl) rfl ?_
    dsimp only [setd, setn, ev, nth]
    refine K.d_pure 15 rfl (K.move) (by kernel_rfl) rfl ?_
    dsimp only [setd, setn, ev, nth]
    refine K.d_ix (M := []) 16 _ rfl hM.sl sl_41 rfl rfl rfl (by omega) (by kernel_rfl) rfl ?_
    intro p34 hp34
    try dsimp only [setd, setn, ev, nth, over, cl, eI, eP, eT, List.map, List.append, List.drop, List.take]
    refine K.d_pure 17 rfl (K.fieldAddr fo_53_1 rfl) (by kernel_rfl) rfl ?_
    dsimp only [setd, setn, ev, nth]
    refine K.d_pure 18 rfl (K.fieldAddr fo_51_1 rfl) (by kernel_rfl) rfl ?_
    dsimp only [setd, setn, ev, nth]
    refine K.d_mem 19 rfl (K.load1 one_3 rfl ((K.PtrL.fld (K.PtrL.fld hp34 (k := 1)) (k := 1)).any)) (fun _ h => h) (by kernel_rfl) (by kernel_rfl) rfl ?_
    try dsimp only [setd, setn, ev, nth, over, cl, eI, eP, eT, List.map, List.append, List.drop, List.take]
    refine K.d_call 20 rfl (K.call_g cal_57 (fun F w hF hw => c57 w)) (fun _ h => h) (by kernel_rfl) rfl ?_
    try dsimp only [setd, setn, ev, nth, over, cl, eI, eP, eT, List.map, List.append, List.drop, List.take]
    first | refine K.d_pure 21 rfl (K.not_d rfl) (by kernel_rfl) rfl ?_ | refine K.d_pure 21 rfl (K.not_ rfl) (by kernel_rfl) rfl ?_
    try dsimp only [setd, setn, ev, nth, over, cl, eI, eP, eT, List.map, List.append, List.drop, List.take]
    refine K.d_done (by kernel_rfl) ?_
    refine K.norm_then ?_
    refine K.cond rfl (fun ht39 => ?_) (fun ht39 => ?_)
    · try replace ht39 := of_decide_eq_true ht39
      refine K.seq ?_
      refine K.region_lit ?_
      refine K.seq_pure (K.assign) rfl ?_
      dsimp only [setd, setn, ev, nth]
      refine K.seq_nil ?_
      refine K.norm_then ?_
      refine K.ret ?_
      refine K.ret_block ?_
      refine K.ret_then ?_
      refine K.ret_then ?_
      refine K.ret_block ?_
      refine K.ret_then ?_
      refine K.end_ret (fun w _ => K.res_tmp rfl w) ?_
      exact K.gives_b rfl (by rw [any_t hj (decide_eq_true ht39)]; rfl)
    try replace ht39 := of_decide_eq_false ht39
    refine K.skip ?_
    refine K.norm_block ?_
    refine K.norm_then ?_
    refine K.region_lit ?_
    refine K.seq_pure (K.move) rfl ?_
    dsimp only [setd, setn, ev, nth]
    refine K.seq_pure (K.add_i64 rfl rfl (by omega)) rfl ?_
    dsimp only [setd, setn, ev, nth]
    refine K.seq_pure (K.assign) rfl ?_
    dsimp only [setd, setn, ev, nth]
    refine K.seq_nil ?_
    exact K.round_endW [.int .i64 ((j : Int) + 1)] ⟨j + 1, rfl, rfl, by omega, K.lt_succ_case hall (decide_eq_false ht39)⟩ (by simp [K.nth, intOf]; omega) (by repeat (first | exact List.Sublist.refl _ | apply List.Sublist.cons)) (by kernel_rfl)
  try replace ht15 := of_decide_eq_false ht15
  refine K.exit ?_
  refine K.exit_then ?_
  refine K.exit_then ?_
  refine K.exit_here ?_
  refine K.norm_then ?_
  refine K.seq ?_
  refine K.region_lit ?_
  refine K.seq_pure (K.assign) rfl ?_
  dsimp only [setd, setn, ev, nth]
  refine K.seq_nil ?_
  refine K.norm_then ?_
  refine K.ret ?_
  refine K.end_ret (fun w _ => K.res_tmp rfl w) ?_
  exact K.gives_b rfl (by rw [any_f (fun i hi => hall i (by omega))]; rfl)

set_option maxRecDepth 100000 in
theorem c69 {kind base most : Int} {A B : Option Addr} {c d : Nat} {hs : List Int} {rs : List (Int × Int)} {u v : Int} {w : World} (hH : K.Rd w A 1 K.eI hs) (hR : K.Rd w B 2 K.eP rs) (g : Good kind base most hs rs) (hp : Parts u v) :
    Calls Try.prog 69 [.agg #[.int .i64 kind, .int .i64 base, .int .i64 most, .slice A hs.length c, .slice B rs.length d], .agg #[.int .i64 u, .int .i64 v]].toArray w (K.Gives (.int .i64 (worstS u v hs (cuts kind base u v hs) rs)) w) := by
  have g1 := g.k
  have g2 := g.n
  have g3 := g.r
  have g4 := g.b
  have g5 := g.m
  refine K.enter (args := [.agg #[.int .i64 kind, .int .i64 base, .int .i64 most, .slice A hs.length c, .slice B rs.length d], .agg #[.int .i64 u, .int .i64 v]]) Try.func69 rfl (n := 23) rfl ?_
  simp only [List.replicate, List.cons_append, List.nil_append]
  refine K.seq ?_
  refine K.region_lit ?_
  refine K.seq_new (K.box) rfl ?_
  intro b2
  try dsimp only [setd, setn, ev, nth, over, cl, eI, eP, eT, List.map, List.append, List.drop, List.take]
  refine K.seq_new (K.box) rfl ?_
  intro b3
  try dsimp only [setd, setn, ev, nth, over, cl, eI, eP, eT, List.map, List.append, List.drop, List.take]
  refine K.seq_pure (K.assign) rfl ?_
  dsimp only [setd, setn, ev, nth]
  refine K.seq_nil ?_
  refine K.norm_then ?_
  refine K.seq ?_
  refine K.region_lit ?_
  refine K.seq_pure (K.assign) rfl ?_
  dsimp only [setd, setn, ev, nth]
  refine K.seq_nil ?_
  refine K.norm_then ?_
  refine K.seq ?_
  refine K.seq ?_
  refine K.region_lit ?_
  refine K.seq_pure (K.assign) rfl ?_
  dsimp only [setd, setn, ev, nth]
  refine K.seq_nil ?_
  refine K.norm_then ?_
  refine K.block ?_
  refine K.loopW [5, 6] [7, 8, 9, 10, 11, 12, 13, 14, 15, 16, 17, 18, 19, 20, 21, 22, 23] (fun vi L => ∃ (j : Nat) (n : Int), vi = [.int .i64 n, .int .i64 (j : Int)] ∧ L = [K.blk b3 27 [.int .i64 u, .int .i64 v], K.blk b2 25 [.int .i64 kind, .int .i64 base, .int .i64 most, .slice A hs.length c, .slice B rs.length d]] ∧ j ≤ rs.length ∧ n = ((rs.take j).map (fun r => offS u v (riseS hs r) (riseS (cuts kind base u v hs) r))).foldl max 0) (fun vi => rs.length - (intOf (K.nth vi 1)).toNat) ?_ ?_
  · exact ⟨0, 0, rfl, rfl, Nat.zero_le _, rfl⟩
  intro vi vr L hJ
  obtain ⟨j, n, rfl, rfl, hjn, hmx⟩ := hJ
  try dsimp only [setd, setn, ev, nth, over, cl, eI, eP, eT, setM, setF, List.map, List.append, List.drop, List.take]
  refine K.seq ?_
  refine K.seq ?_
  refine K.region_lit ?_
  refine K.seq_pure (K.move) rfl ?_
  dsimp only [setd, setn, ev, nth]
  refine K.seq_pure (K.fieldAddr_lit fo_25_4 rfl) rfl ?_
  dsimp only [setd, setn, ev, nth]
  refine K.seq_sil (K.load1_own one_23 rfl (K.m1) rfl) rfl ?_
  try dsimp only [setd, setn, ev, nth, over, cl, eI, eP, eT, List.map, List.append, List.drop, List.take]
  refine K.seq_pure (K.len_sl sl_23 rfl) rfl ?_
  dsimp only [setd, setn, ev, nth]
  refine K.seq_pure (K.lss rfl rfl) rfl ?_
  dsimp only [setd, setn, ev, nth]
  refine K.seq_nil ?_
  refine K.norm_then ?_
  refine K.cond rfl (fun ht11 => ?_) (fun ht11 => ?_)
  · try replace ht11 := of_decide_eq_true ht11
    have hj : j < rs.length := by omega
    refine K.skip ?_
    refine K.norm_then ?_
    refine K.seq ?_
    refine K.block ?_
    refine K.draw_L [] Try_mixed ?_
    refine K.d_pure 0 rfl (K.move) (by kernel_rfl) rfl ?_
    dsimp only [setd, setn, ev, nth]
    refine K.d_mem 1 rfl (K.loadA_own ag_25 rfl (K.m1) rfl) (fun _ h => h) (by kernel_rfl) (by kernel_rfl) rfl ?_
    try dsimp only [setd, setn, ev, nth, over, cl, eI, eP, eT, List.map, List.append, List.drop, List.take]
    refine K.d_pure 2 rfl (K.fieldAddr_lit fo_25_4 rfl) (by kernel_rfl) rfl ?_
    dsimp only [setd, setn, ev, nth]
    refine K.d_mem 3 rfl (K.load1_own one_23 rfl (K.m1) rfl) (fun _ h => h) (by kernel_rfl) (by kernel_rfl) rfl ?_
    try dsimp only [setd, setn, ev, nth, over, cl, eI, eP, eT, List.map, List.append, List.drop, List.take]
    refine K.d_pure 4 rfl (K.move) (by kernel_rfl) rfl ?_
    dsimp only [setd, setn, ev, nth]
    refine K.d_ix (M := []) 5 _ rfl hR.sl sl_23 rfl rfl rfl (by omega) (by kernel_rfl) rfl ?_
    intro p19 hp19
    try dsimp only [setd, setn, ev, nth, over, cl, eI, eP, eT, List.map, List.append, List.drop, List.take]
    refine K.d_mem 6 rfl (K.loadA_p ag_79 rfl (hp19.any) rfl) (fun _ h => h) (by kernel_rfl) (by kernel_rfl) rfl ?_
    try dsimp only [setd, setn, ev, nth, over, cl, eI, eP, eT, List.map, List.append, List.drop, List.take]
    refine K.d_mem 7 rfl (K.loadA_own ag_27 rfl (K.m0) rfl) (fun _ h => h) (by kernel_rfl) (by kernel_rfl) rfl ?_
    try dsimp only [setd, setn, ev, nth, over, cl, eI, eP, eT, List.map, List.append, List.drop, List.take]
    refine K.d_call 8 rfl (K.call_g cal_63 (fun F w hF hw => c63 (r := rs.getD j default) (hH.pass hw) (hR.pass hw) g hp (g.road4 hj))) (fun _ h => h) (by kernel_rfl) rfl ?_
    try dsimp only [setd, setn, ev, nth, over, cl, eI, eP, eT, List.map, List.append, List.drop, List.take]
    refine K.d_pure 9 rfl (K.max_int rfl rfl) (by kernel_rfl) rfl ?_
    dsimp only [setd, setn, ev, nth]
    refine K.d_pure 10 rfl (K.assign) (by kernel_rfl) rfl ?_
    dsimp only [setd, setn, ev, nth]
    refine K.d_done (by kernel_rfl) ?_
    refine K.norm_block ?_
    refine K.norm_then ?_
    refine K.region_lit ?_
    refine K.seq_pure (K.move) rfl ?_
    dsimp only [setd, setn, ev, nth]
    refine K.seq_pure (K.add_i64 rfl rfl (by omega)) rfl ?_
    dsimp only [setd, setn, ev, nth]
    refine K.seq_pure (K.assign) rfl ?_
    dsimp only [setd, setn, ev, nth]
    refine K.seq_nil ?_
    exact K.round_endW [.int .i64 (max n ((fun r => offS u v (riseS hs r) (riseS (cuts kind base u v hs) r)) (rs.getD j default))), .int .i64 ((j : Int) + 1)] ⟨j + 1, _, rfl, rfl, by omega, by rw [fold_take hj, ← hmx]⟩ (by simp [K.nth, intOf]; omega) (by repeat (first | exact List.Sublist.refl _ | apply List.Sublist.cons)) (by kernel_rfl)
  try replace ht11 := of_decide_eq_false ht11
  refine K.exit ?_
  refine K.exit_then ?_
  refine K.exit_then ?_
  refine K.exit_here ?_
  refine K.norm_then ?_
  refine K.seq ?_
  refine K.region_lit ?_
  refine K.seq_pure (K.move) rfl ?_
  dsimp only [setd, setn, ev, nth]
  refine K.seq_pure (K.assign) rfl ?_
  dsimp only [setd, setn, ev, nth]
  refine K.seq_nil ?_
  refine K.norm_then ?_
  refine K.ret ?_
  refine K.end_ret (fun w _ => K.res_tmp rfl w) ?_
  exact K.gives_i rfl (by rw [hmx, take_all (xs := rs) (by omega)]; rfl)

set_option maxRecDepth 100000 in
theorem c74 {kind base most : Int} {A B : Option Addr} {c d : Nat} {hs : List Int} {rs : List (Int × Int)} {M : Option Addr} {cm : Nat} {ms : List (Int × Int × Int)} {w : World} (hH : K.Rd w A 1 K.eI hs) (hR : K.Rd w B 2 K.eP rs) (hn : hs.length ≤ 4611686018427387904) (hm : rs.length ≤ 4611686018427387904) (hM : K.Rd w M 3 K.eT ms) (hml : ms.length ≤ 4611686018427387904) :
    Calls Try.prog 74 [.agg #[.int .i64 kind, .int .i64 base, .int .i64 most, .slice A hs.length c, .slice B rs.length d], .slice M ms.length cm].toArray w (K.Gives (.int .i64 (marksE kind base most hs rs ms)) w) := by
  refine K.enter (args := [.agg #[.int .i64 kind, .int .i64 base, .int .i64 most, .slice A hs.length c, .slice B rs.length d], .slice M ms.length cm]) Try.func74 rfl (n := 48) rfl ?_
  simp only [List.replicate, List.cons_append, List.nil_append]
  refine K.seq ?_
  refine K.region_lit ?_
  refine K.seq_new (K.box) rfl ?_
  intro b2
  try dsimp only [setd, setn, ev, nth, over, cl, eI, eP, eT, List.map, List.append, List.drop, List.take]
  refine K.seq_pure (K.assign) rfl ?_
  dsimp only [setd, setn, ev, nth]
  refine K.seq_nil ?_
  refine K.norm_then ?_
  refine K.seq ?_
  refine K.region_lit ?_
  refine K.seq_sil (K.loadA_own ag_25 rfl (K.m0) rfl) rfl ?_
  try dsimp only [setd, setn, ev, nth, over, cl, eI, eP, eT, List.map, List.append, List.drop, List.take]
  refine K.seq_call (K.call_g cal_16 (fun F w hF hw => c16 (hH.pass hw) (hR.pass hw) hn hm)) rfl ?_
  try dsimp only [setd, setn, ev, nth, over, cl, eI, eP, eT, List.map, List.append, List.drop, List.take]
  refine K.seq_pure (K.move) rfl ?_
  dsimp only [setd, setn, ev, nth]
  refine K.seq_pure (K.extract rfl rfl) rfl ?_
  dsimp only [setd, setn, ev, nth]
  refine K.seq_pure (K.extract rfl rfl) rfl ?_
  dsimp only [setd, setn, ev, nth]
  refine K.seq_pure (K.extract rfl rfl) rfl ?_
  dsimp only [setd, setn, ev, nth]
  refine K.seq_pure (K.assign) rfl ?_
  dsimp only [setd, setn, ev, nth]
  refine K.seq_pure (K.assign) rfl ?_
  dsimp only [setd, setn, ev, nth]
  refine K.seq_pure (K.assign) rfl ?_
  dsimp only [setd, setn, ev, nth]
  refine K.seq_nil ?_
  refine K.norm_then ?_
  refine K.seq ?_
  refine K.seq ?_
  refine K.region_lit ?_
  refine K.seq_pure (K.move) rfl ?_
  dsimp only [setd, setn, ev, nth]
  refine K.seq_pure (K.eql rfl rfl) rfl ?_
  dsimp only [setd, setn, ev, nth]
  refine K.seq_pure (K.move) rfl ?_
  dsimp only [setd, setn, ev, nth]
  refine K.split 17 rfl (fun hg17 => ?_) (fun hg17 => ?_)
  · try replace hg17 := of_decide_eq_true hg17
    refine K.seq_pure (K.move) rfl ?_
    dsimp only [setd, setn, ev, nth]
    refine K.seq_pure (K.len_sl sl_41 rfl) rfl ?_
    dsimp only [setd, setn, ev, nth]
    refine K.seq_pure (K.gtr rfl rfl) rfl ?_
    dsimp only [setd, setn, ev, nth]
    refine K.seq_pure (K.pick_t rfl) rfl ?_
    dsimp only [setd, setn, ev, nth]
    refine K.seq_nil ?_
    refine K.norm_then ?_
    refine K.cond rfl (fun ht21 => ?_) (fun ht21 => ?_)
    · try replace ht21 := of_decide_eq_true ht21
      refine K.region_lit ?_
      refine K.seq_pure (K.assign) rfl ?_
      dsimp only [setd, setn, ev, nth]
      refine K.seq_nil ?_
      refine K.norm_then ?_
      refine K.seq ?_
      refine K.seq ?_
      refine K.region_lit ?_
      refine K.seq_pure (K.assign) rfl ?_
      dsimp only [setd, setn, ev, nth]
      refine K.seq_nil ?_
      refine K.norm_then ?_
      refine K.block ?_
      refine K.loopW [7, 8] [4, 22, 23, 24, 25, 26, 27, 28, 29, 30, 31, 32, 33, 34, 35, 36, 37, 38, 39, 40, 41, 42, 43, 44, 45, 46, 47, 48] (fun vi L => ∃ (j : Nat) (e : Int), vi = [.int .i64 e, .int .i64 (j : Int)] ∧ L = [K.blk b2 25 [.int .i64 kind, .int .i64 base, .int .i64 most, .slice A hs.length c, .slice B rs.length d]] ∧ j ≤ ms.length ∧ ((e ≠ 0 ∧ e = marksE kind base most hs rs ms) ∨ (e = 0 ∧ (chk kind base most hs rs).2.2 = 0 ∧ ms.length ≤ 8 ∧ ∀ i, i < j → markE hs.length (ms.getD i default) = 0))) (fun vi => ms.length - (intOf (K.nth vi 1)).toNat) ?_ ?_
      · first | exact ⟨0, _, rfl, rfl, Nat.zero_le _, .inl ⟨by decide, (mk_long (by omega) (by omega)).symm⟩⟩ | exact ⟨0, _, rfl, rfl, Nat.zero_le _, .inl ⟨by omega, (mk_err (by omega)).symm⟩⟩ | exact ⟨0, _, rfl, rfl, Nat.zero_le _, .inr ⟨by omega, by omega, by omega, fun i hi => absurd hi (Nat.not_lt_zero i)⟩⟩
      intro vi vr L hJ
      obtain ⟨j, e, rfl, rfl, hjn, hdis⟩ := hJ
      try dsimp only [setd, setn, ev, nth, over, cl, eI, eP, eT, setM, setF, List.map, List.append, List.drop, List.take]
      refine K.seq ?_
      refine K.seq ?_
      refine K.region_lit ?_
      refine K.seq_pure (K.move) rfl ?_
      dsimp only [setd, setn, ev, nth]
      refine K.seq_pure (K.move) rfl ?_
      dsimp only [setd, setn, ev, nth]
      refine K.seq_pure (K.len_sl sl_41 rfl) rfl ?_
      dsimp only [setd, setn, ev, nth]
      refine K.seq_pure (K.lss rfl rfl) rfl ?_
      dsimp only [setd, setn, ev, nth]
      refine K.seq_pure (K.move) rfl ?_
      dsimp only [setd, setn, ev, nth]
      refine K.split 26 rfl (fun hg26 => ?_) (fun hg26 => ?_)
      · try replace hg26 := of_decide_eq_true hg26
        have hj : j < ms.length := by omega
        refine K.seq_pure (K.move) rfl ?_
        dsimp only [setd, setn, ev, nth]
        refine K.seq_pure (K.eql rfl rfl) rfl ?_
        dsimp only [setd, setn, ev, nth]
        refine K.seq_pure (K.pick_t rfl) rfl ?_
        dsimp only [setd, setn, ev, nth]
        refine K.seq_nil ?_
        refine K.norm_then ?_
        refine K.cond rfl (fun ht29 => ?_) (fun ht29 => ?_)
        · try replace ht29 := of_decide_eq_true ht29
          have hdr := hdis.resolve_left (fun h => h.1 (by omega))
          have hz := hdr.2.1
          have h8 := hdr.2.2.1
          have hall := hdr.2.2.2
          refine K.skip ?_
          refine K.norm_then ?_
          refine K.seq ?_
          refine K.block ?_
          refine K.seq ?_
          refine K.seq ?_
          refine K.draw_L [] Try_mixed ?_
          refine K.d_pure 0 rfl (K.move) (by kernel_rfl) rfl ?_
          dsimp only [setd, setn, ev, nth]
          refine K.d_pure 1 rfl (K.move) (by kernel_rfl) rfl ?_
          dsimp only [setd, setn, ev, nth]
          refine K.d_ix (M := []) 2 _ rfl hM.sl sl_41 rfl rfl rfl (by omega) (by kernel_rfl) rfl ?_
          intro p34 hp34
          try dsimp only [setd, setn, ev, nth, over, cl, eI, eP, eT, List.map, List.append, List.drop, List.take]
          refine K.d_pure 3 rfl (K.fieldAddr fo_53_0 rfl) (by kernel_rfl) rfl ?_
          dsimp only [setd, setn, ev, nth]
          refine K.d_mem 4 rfl (K.load1 one_3 rfl ((K.PtrL.fld hp34 (k := 0)).any)) (fun _ h => h) (by kernel_rfl) (by kernel_rfl) rfl ?_
          try dsimp only [setd, setn, ev, nth, over, cl, eI, eP, eT, List.map, List.append, List.drop, List.take]
          refine K.d_pure 5 rfl (K.fieldAddr_lit fo_25_3 rfl) (by kernel_rfl) rfl ?_
          dsimp only [setd, setn, ev, nth]
          refine K.d_mem 6 rfl (K.load1_own one_22 rfl (K.m0) rfl) (fun _ h => h) (by kernel_rfl) (by kernel_rfl) rfl ?_
          try dsimp only [setd, setn, ev, nth, over, cl, eI, eP, eT, List.map, List.append, List.drop, List.take]
          refine K.d_pure 7 rfl (K.len_sl sl_22 rfl) (by kernel_rfl) rfl ?_
          dsimp only [setd, setn, ev, nth]
          refine K.d_pure 8 rfl (K.sub_i64 rfl rfl (by omega)) (by kernel_rfl) rfl ?_
          dsimp only [setd, setn, ev, nth]
          refine K.d_call 9 rfl (K.call_g cal_57 (fun F w hF hw => c57 w)) (fun _ h => h) (by kernel_rfl) rfl ?_
          try dsimp only [setd, setn, ev, nth, over, cl, eI, eP, eT, List.map, List.append, List.drop, List.take]
          first | refine K.d_pure 10 rfl (K.not_d rfl) (by kernel_rfl) rfl ?_ | refine K.d_pure 10 rfl (K.not_ rfl) (by kernel_rfl) rfl ?_
          try dsimp only [setd, setn, ev, nth, over, cl, eI, eP, eT, List.map, List.append, List.drop, List.take]
          refine K.d_done (by kernel_rfl) ?_
          refine K.norm_then ?_
          refine K.cond rfl (fun ht42 => ?_) (fun ht42 => ?_)
          · try replace ht42 := of_decide_eq_true ht42
            refine K.seq ?_
            refine K.region_lit ?_
            refine K.seq_pure (K.assign) rfl ?_
            dsimp only [setd, setn, ev, nth]
            refine K.seq_nil ?_
            refine K.norm_then ?_
            refine K.ret ?_
            refine K.ret_then ?_
            refine K.ret_block ?_
            refine K.ret_then ?_
            refine K.ret_then ?_
            refine K.ret_block ?_
            refine K.ret_then ?_
            refine K.end_ret (fun w _ => K.res_tmp rfl w) ?_
            exact K.gives_i rfl (by rw [mk_at hz h8 hj hall (by unfold markE; rw [if_pos (by omega)]; decide)]; unfold markE; rw [if_pos (by omega)])
          try replace ht42 := of_decide_eq_false ht42
          refine K.skip ?_
          refine K.norm_then ?_
          refine K.region_lit ?_
          refine K.seq_pure (K.move) rfl ?_
          dsimp only [setd, setn, ev, nth]
          refine K.seq_pure (K.move) rfl ?_
          dsimp only [setd, setn, ev, nth]
          refine K.seq_ix (M := []) _ hM.sl sl_41 rfl rfl rfl (by omega) rfl ?_
          intro p45 hp45
          try dsimp only [setd, setn, ev, nth, over, cl, eI, eP, eT, List.map, List.append, List.drop, List.take]
          refine K.seq_pure (K.fieldAddr fo_53_1 rfl) rfl ?_
          dsimp only [setd, setn, ev, nth]
          refine K.seq_sil (K.loadA_p ag_51 rfl ((K.PtrL.fld hp45 (k := 1)).any) rfl) rfl ?_
          try dsimp only [setd, setn, ev, nth, over, cl, eI, eP, eT, List.map, List.append, List.drop, List.take]
          refine K.seq_call (K.call_g cal_93 (fun F w hF hw => c93 w)) rfl ?_
          try dsimp only [setd, setn, ev, nth, over, cl, eI, eP, eT, List.map, List.append, List.drop, List.take]
          refine K.seq_pure (K.assign) rfl ?_
          dsimp only [setd, setn, ev, nth]
          refine K.seq_nil ?_
          refine K.norm_block ?_
          refine K.norm_then ?_
          refine K.region_lit ?_
          refine K.seq_pure (K.move) rfl ?_
          dsimp only [setd, setn, ev, nth]
          refine K.seq_pure (K.add_i64 rfl rfl (by omega)) rfl ?_
          dsimp only [setd, setn, ev, nth]
          refine K.seq_pure (K.assign) rfl ?_
          dsimp only [setd, setn, ev, nth]
          refine K.seq_nil ?_
          exact K.round_endW [.int .i64 (spreadE 0 100000 [((ms.getD j default).2.1, (ms.getD j default).2.2)]), .int .i64 ((j : Int) + 1)] ⟨j + 1, _, rfl, rfl, by omega, marks_next hz h8 hj hall (by omega)⟩ (by simp [K.nth, intOf]; omega) (by repeat (first | exact List.Sublist.refl _ | apply List.Sublist.cons)) (by kernel_rfl)
        try replace ht29 := of_decide_eq_false ht29
        refine K.exit ?_
        refine K.exit_then ?_
        refine K.exit_then ?_
        refine K.exit_here ?_
        refine K.norm_then ?_
        refine K.seq ?_
        refine K.region_lit ?_
        refine K.seq_pure (K.move) rfl ?_
        dsimp only [setd, setn, ev, nth]
        refine K.seq_pure (K.assign) rfl ?_
        dsimp only [setd, setn, ev, nth]
        refine K.seq_nil ?_
        refine K.norm_then ?_
        refine K.ret ?_
        refine K.end_ret (fun w _ => K.res_tmp rfl w) ?_
        exact K.gives_i rfl (marks_done hdis (by omega))
      try replace hg26 := of_decide_eq_false hg26
      refine K.seq_skip ?_ ?_
      · rfl
      try dsimp only [setd, setn, ev, nth, over, cl, eI, eP, eT, List.map, List.append, List.drop, List.take]
      refine K.seq_skip ?_ ?_
      · rfl
      try dsimp only [setd, setn, ev, nth, over, cl, eI, eP, eT, List.map, List.append, List.drop, List.take]
      refine K.seq_pure (K.pick_f rfl) rfl ?_
      dsimp only [setd, setn, ev, nth]
      refine K.seq_nil ?_
      refine K.norm_then ?_
      refine K.cond_false rfl ?_
      refine K.exit ?_
      refine K.exit_then ?_
      refine K.exit_then ?_
      refine K.exit_here ?_
      refine K.norm_then ?_
      refine K.seq ?_
      refine K.region_lit ?_
      refine K.seq_pure (K.move) rfl ?_
      dsimp only [setd, setn, ev, nth]
      refine K.seq_pure (K.assign) rfl ?_
      dsimp only [setd, setn, ev, nth]
      refine K.seq_nil ?_
      refine K.norm_then ?_
      refine K.ret ?_
      refine K.end_ret (fun w _ => K.res_tmp rfl w) ?_
      exact K.gives_i rfl (marks_done hdis (by omega))
    try replace ht21 := of_decide_eq_false ht21
    refine K.skip ?_
    refine K.norm_then ?_
    refine K.seq ?_
    refine K.seq ?_
    refine K.region_lit ?_
    refine K.seq_pure (K.assign) rfl ?_
    dsimp only [setd, setn, ev, nth]
    refine K.seq_nil ?_
    refine K.norm_then ?_
    refine K.block ?_
    refine K.loopW [7, 8] [4, 22, 23, 24, 25, 26, 27, 28, 29, 30, 31, 32, 33, 34, 35, 36, 37, 38, 39, 40, 41, 42, 43, 44, 45, 46, 47, 48] (fun vi L => ∃ (j : Nat) (e : Int), vi = [.int .i64 e, .int .i64 (j : Int)] ∧ L = [K.blk b2 25 [.int .i64 kind, .int .i64 base, .int .i64 most, .slice A hs.length c, .slice B rs.length d]] ∧ j ≤ ms.length ∧ ((e ≠ 0 ∧ e = marksE kind base most hs rs ms) ∨ (e = 0 ∧ (chk kind base most hs rs).2.2 = 0 ∧ ms.length ≤ 8 ∧ ∀ i, i < j → markE hs.length (ms.getD i default) = 0))) (fun vi => ms.length - (intOf (K.nth vi 1)).toNat) ?_ ?_
    · first | exact ⟨0, _, rfl, rfl, Nat.zero_le _, .inl ⟨by decide, (mk_long (by omega) (by omega)).symm⟩⟩ | exact ⟨0, _, rfl, rfl, Nat.zero_le _, .inl ⟨by omega, (mk_err (by omega)).symm⟩⟩ | exact ⟨0, _, rfl, rfl, Nat.zero_le _, .inr ⟨by omega, by omega, by omega, fun i hi => absurd hi (Nat.not_lt_zero i)⟩⟩
    intro vi vr L hJ
    obtain ⟨j, e, rfl, rfl, hjn, hdis⟩ := hJ
    try dsimp only [setd, setn, ev, nth, over, cl, eI, eP, eT, setM, setF, List.map, List.append, List.drop, List.take]
    refine K.seq ?_
    refine K.seq ?_
    refine K.region_lit ?_
    refine K.seq_pure (K.move) rfl ?_
    dsimp only [setd, setn, ev, nth]
    refine K.seq_pure (K.move) rfl ?_
    dsimp only [setd, setn, ev, nth]
    refine K.seq_pure (K.len_sl sl_41 rfl) rfl ?_
    dsimp only [setd, setn, ev, nth]
    refine K.seq_pure (K.lss rfl rfl) rfl ?_
    dsimp only [setd, setn, ev, nth]
    refine K.seq_pure (K.move) rfl ?_
    dsimp only [setd, setn, ev, nth]
    refine K.split 26 rfl (fun hg26 => ?_) (fun hg26 => ?_)
    · try replace hg26 := of_decide_eq_true hg26
      have hj : j < ms.length := by omega
      refine K.seq_pure (K.move) rfl ?_
      dsimp only [setd, setn, ev, nth]
      refine K.seq_pure (K.eql rfl rfl) rfl ?_
      dsimp only [setd, setn, ev, nth]
      refine K.seq_pure (K.pick_t rfl) rfl ?_
      dsimp only [setd, setn, ev, nth]
      refine K.seq_nil ?_
      refine K.norm_then ?_
      refine K.cond rfl (fun ht29 => ?_) (fun ht29 => ?_)
      · try replace ht29 := of_decide_eq_true ht29
        have hdr := hdis.resolve_left (fun h => h.1 (by omega))
        have hz := hdr.2.1
        have h8 := hdr.2.2.1
        have hall := hdr.2.2.2
        refine K.skip ?_
        refine K.norm_then ?_
        refine K.seq ?_
        refine K.block ?_
        refine K.seq ?_
        refine K.seq ?_
        refine K.draw_L [] Try_mixed ?_
        refine K.d_pure 0 rfl (K.move) (by kernel_rfl) rfl ?_
        dsimp only [setd, setn, ev, nth]
        refine K.d_pure 1 rfl (K.move) (by kernel_rfl) rfl ?_
        dsimp only [setd, setn, ev, nth]
        refine K.d_ix (M := []) 2 _ rfl hM.sl sl_41 rfl rfl rfl (by omega) (by kernel_rfl) rfl ?_
        intro p34 hp34
        try dsimp only [setd, setn, ev, nth, over, cl, eI, eP, eT, List.map, List.append, List.drop, List.take]
        refine K.d_pure 3 rfl (K.fieldAddr fo_53_0 rfl) (by kernel_rfl) rfl ?_
        dsimp only [setd, setn, ev, nth]
        refine K.d_mem 4 rfl (K.load1 one_3 rfl ((K.PtrL.fld hp34 (k := 0)).any)) (fun _ h => h) (by kernel_rfl) (by kernel_rfl) rfl ?_
        try dsimp only [setd, setn, ev, nth, over, cl, eI, eP, eT, List.map, List.append, List.drop, List.take]
        refine K.d_pure 5 rfl (K.fieldAddr_lit fo_25_3 rfl) (by kernel_rfl) rfl ?_
        dsimp only [setd, setn, ev, nth]
        refine K.d_mem 6 rfl (K.load1_own one_22 rfl (K.m0) rfl) (fun _ h => h) (by kernel_rfl) (by kernel_rfl) rfl ?_
        try dsimp only [setd, setn, ev, nth, over, cl, eI, eP, eT, List.map, List.append, List.drop, List.take]
        refine K.d_pure 7 rfl (K.len_sl sl_22 rfl) (by kernel_rfl) rfl ?_
        dsimp only [setd, setn, ev, nth]
        refine K.d_pure 8 rfl (K.sub_i64 rfl rfl (by omega)) (by kernel_rfl) rfl ?_
        dsimp only [setd, setn, ev, nth]
        refine K.d_call 9 rfl (K.call_g cal_57 (fun F w hF hw => c57 w)) (fun _ h => h) (by kernel_rfl) rfl ?_
        try dsimp only [setd, setn, ev, nth, over, cl, eI, eP, eT, List.map, List.append, List.drop, List.take]
        first | refine K.d_pure 10 rfl (K.not_d rfl) (by kernel_rfl) rfl ?_ | refine K.d_pure 10 rfl (K.not_ rfl) (by kernel_rfl) rfl ?_
        try dsimp only [setd, setn, ev, nth, over, cl, eI, eP, eT, List.map, List.append, List.drop, List.take]
        refine K.d_done (by kernel_rfl) ?_
        refine K.norm_then ?_
        refine K.cond rfl (fun ht42 => ?_) (fun ht42 => ?_)
        · try replace ht42 := of_decide_eq_true ht42
          refine K.seq ?_
          refine K.region_lit ?_
          refine K.seq_pure (K.assign) rfl ?_
          dsimp only [setd, setn, ev, nth]
          refine K.seq_nil ?_
          refine K.norm_then ?_
          refine K.ret ?_
          refine K.ret_then ?_
          refine K.ret_block ?_
          refine K.ret_then ?_
          refine K.ret_then ?_
          refine K.ret_block ?_
          refine K.ret_then ?_
          refine K.end_ret (fun w _ => K.res_tmp rfl w) ?_
          exact K.gives_i rfl (by rw [mk_at hz h8 hj hall (by unfold markE; rw [if_pos (by omega)]; decide)]; unfold markE; rw [if_pos (by omega)])
        try replace ht42 := of_decide_eq_false ht42
        refine K.skip ?_
        refine K.norm_then ?_
        refine K.region_lit ?_
        refine K.seq_pure (K.move) rfl ?_
        dsimp only [setd, setn, ev, nth]
        refine K.seq_pure (K.move) rfl ?_
        dsimp only [setd, setn, ev, nth]
        refine K.seq_ix (M := []) _ hM.sl sl_41 rfl rfl rfl (by omega) rfl ?_
        intro p45 hp45
        try dsimp only [setd, setn, ev, nth, over, cl, eI, eP, eT, List.map, List.append, List.drop, List.take]
        refine K.seq_pure (K.fieldAddr fo_53_1 rfl) rfl ?_
        dsimp only [setd, setn, ev, nth]
        refine K.seq_sil (K.loadA_p ag_51 rfl ((K.PtrL.fld hp45 (k := 1)).any) rfl) rfl ?_
        try dsimp only [setd, setn, ev, nth, over, cl, eI, eP, eT, List.map, List.append, List.drop, List.take]
        refine K.seq_call (K.call_g cal_93 (fun F w hF hw => c93 w)) rfl ?_
        try dsimp only [setd, setn, ev, nth, over, cl, eI, eP, eT, List.map, List.append, List.drop, List.take]
        refine K.seq_pure (K.assign) rfl ?_
        dsimp only [setd, setn, ev, nth]
        refine K.seq_nil ?_
        refine K.norm_block ?_
        refine K.norm_then ?_
        refine K.region_lit ?_
        refine K.seq_pure (K.move) rfl ?_
        dsimp only [setd, setn, ev, nth]
        refine K.seq_pure (K.add_i64 rfl rfl (by omega)) rfl ?_
        dsimp only [setd, setn, ev, nth]
        refine K.seq_pure (K.assign) rfl ?_
        dsimp only [setd, setn, ev, nth]
        refine K.seq_nil ?_
        exact K.round_endW [.int .i64 (spreadE 0 100000 [((ms.getD j default).2.1, (ms.getD j default).2.2)]), .int .i64 ((j : Int) + 1)] ⟨j + 1, _, rfl, rfl, by omega, marks_next hz h8 hj hall (by omega)⟩ (by simp [K.nth, intOf]; omega) (by repeat (first | exact List.Sublist.refl _ | apply List.Sublist.cons)) (by kernel_rfl)
      try replace ht29 := of_decide_eq_false ht29
      refine K.exit ?_
      refine K.exit_then ?_
      refine K.exit_then ?_
      refine K.exit_here ?_
      refine K.norm_then ?_
      refine K.seq ?_
      refine K.region_lit ?_
      refine K.seq_pure (K.move) rfl ?_
      dsimp only [setd, setn, ev, nth]
      refine K.seq_pure (K.assign) rfl ?_
      dsimp only [setd, setn, ev, nth]
      refine K.seq_nil ?_
      refine K.norm_then ?_
      refine K.ret ?_
      refine K.end_ret (fun w _ => K.res_tmp rfl w) ?_
      exact K.gives_i rfl (marks_done hdis (by omega))
    try replace hg26 := of_decide_eq_false hg26
    refine K.seq_skip ?_ ?_
    · rfl
    try dsimp only [setd, setn, ev, nth, over, cl, eI, eP, eT, List.map, List.append, List.drop, List.take]
    refine K.seq_skip ?_ ?_
    · rfl
    try dsimp only [setd, setn, ev, nth, over, cl, eI, eP, eT, List.map, List.append, List.drop, List.take]
    refine K.seq_pure (K.pick_f rfl) rfl ?_
    dsimp only [setd, setn, ev, nth]
    refine K.seq_nil ?_
    refine K.norm_then ?_
    refine K.cond_false rfl ?_
    refine K.exit ?_
    refine K.exit_then ?_
    refine K.exit_then ?_
    refine K.exit_here ?_
    refine K.norm_then ?_
    refine K.seq ?_
    refine K.region_lit ?_
    refine K.seq_pure (K.move) rfl ?_
    dsimp only [setd, setn, ev, nth]
    refine K.seq_pure (K.assign) rfl ?_
    dsimp only [setd, setn, ev, nth]
    refine K.seq_nil ?_
    refine K.norm_then ?_
    refine K.ret ?_
    refine K.end_ret (fun w _ => K.res_tmp rfl w) ?_
    exact K.gives_i rfl (marks_done hdis (by omega))
  try replace hg17 := of_decide_eq_false hg17
  refine K.seq_skip ?_ ?_
  · rfl
  try dsimp only [setd, setn, ev, nth, over, cl, eI, eP, eT, List.map, List.append, List.drop, List.take]
  refine K.seq_skip ?_ ?_
  · rfl
  try dsimp only [setd, setn, ev, nth, over, cl, eI, eP, eT, List.map, List.append, List.drop, List.take]
  refine K.seq_skip ?_ ?_
  · rfl
  try dsimp only [setd, setn, ev, nth, over, cl, eI, eP, eT, List.map, List.append, List.drop, List.take]
  refine K.seq_pure (K.pick_f rfl) rfl ?_
  dsimp only [setd, setn, ev, nth]
  refine K.seq_nil ?_
  refine K.norm_then ?_
  refine K.cond_false rfl ?_
  refine K.skip ?_
  refine K.norm_then ?_
  refine K.seq ?_
  refine K.seq ?_
  refine K.region_lit ?_
  refine K.seq_pure (K.assign) rfl ?_
  dsimp only [setd, setn, ev, nth]
  refine K.seq_nil ?_
  refine K.norm_then ?_
  refine K.block ?_
  refine K.loopW [7, 8] [4, 22, 23, 24, 25, 26, 27, 28, 29, 30, 31, 32, 33, 34, 35, 36, 37, 38, 39, 40, 41, 42, 43, 44, 45, 46, 47, 48] (fun vi L => ∃ (j : Nat) (e : Int), vi = [.int .i64 e, .int .i64 (j : Int)] ∧ L = [K.blk b2 25 [.int .i64 kind, .int .i64 base, .int .i64 most, .slice A hs.length c, .slice B rs.length d]] ∧ j ≤ ms.length ∧ ((e ≠ 0 ∧ e = marksE kind base most hs rs ms) ∨ (e = 0 ∧ (chk kind base most hs rs).2.2 = 0 ∧ ms.length ≤ 8 ∧ ∀ i, i < j → markE hs.length (ms.getD i default) = 0))) (fun vi => ms.length - (intOf (K.nth vi 1)).toNat) ?_ ?_
  · first | exact ⟨0, _, rfl, rfl, Nat.zero_le _, .inl ⟨by decide, (mk_long (by omega) (by omega)).symm⟩⟩ | exact ⟨0, _, rfl, rfl, Nat.zero_le _, .inl ⟨by omega, (mk_err (by omega)).symm⟩⟩ | exact ⟨0, _, rfl, rfl, Nat.zero_le _, .inr ⟨by omega, by omega, by omega, fun i hi => absurd hi (Nat.not_lt_zero i)⟩⟩
  intro vi vr L hJ
  obtain ⟨j, e, rfl, rfl, hjn, hdis⟩ := hJ
  try dsimp only [setd, setn, ev, nth, over, cl, eI, eP, eT, setM, setF, List.map, List.append, List.drop, List.take]
  refine K.seq ?_
  refine K.seq ?_
  refine K.region_lit ?_
  refine K.seq_pure (K.move) rfl ?_
  dsimp only [setd, setn, ev, nth]
  refine K.seq_pure (K.move) rfl ?_
  dsimp only [setd, setn, ev, nth]
  refine K.seq_pure (K.len_sl sl_41 rfl) rfl ?_
  dsimp only [setd, setn, ev, nth]
  refine K.seq_pure (K.lss rfl rfl) rfl ?_
  dsimp only [setd, setn, ev, nth]
  refine K.seq_pure (K.move) rfl ?_
  dsimp only [setd, setn, ev, nth]
  refine K.split 26 rfl (fun hg26 => ?_) (fun hg26 => ?_)
  · try replace hg26 := of_decide_eq_true hg26
    have hj : j < ms.length := by omega
    refine K.seq_pure (K.move) rfl ?_
    dsimp only [setd, setn, ev, nth]
    refine K.seq_pure (K.eql rfl rfl) rfl ?_
    dsimp only [setd, setn, ev, nth]
    refine K.seq_pure (K.pick_t rfl) rfl ?_
    dsimp only [setd, setn, ev, nth]
    refine K.seq_nil ?_
    refine K.norm_then ?_
    refine K.cond rfl (fun ht29 => ?_) (fun ht29 => ?_)
    · try replace ht29 := of_decide_eq_true ht29
      have hdr := hdis.resolve_left (fun h => h.1 (by omega))
      have hz := hdr.2.1
      have h8 := hdr.2.2.1
      have hall := hdr.2.2.2
      refine K.skip ?_
      refine K.norm_then ?_
      refine K.seq ?_
      refine K.block ?_
      refine K.seq ?_
      refine K.seq ?_
      refine K.draw_L [] Try_mixed ?_
      refine K.d_pure 0 rfl (K.move) (by kernel_rfl) rfl ?_
      dsimp only [setd, setn, ev, nth]
      refine K.d_pure 1 rfl (K.move) (by kernel_rfl) rfl ?_
      dsimp only [setd, setn, ev, nth]
      refine K.d_ix (M := []) 2 _ rfl hM.sl sl_41 rfl rfl rfl (by omega) (by kernel_rfl) rfl ?_
      intro p34 hp34
      try dsimp only [setd, setn, ev, nth, over, cl, eI, eP, eT, List.map, List.append, List.drop, List.take]
      refine K.d_pure 3 rfl (K.fieldAddr fo_53_0 rfl) (by kernel_rfl) rfl ?_
      dsimp only [setd, setn, ev, nth]
      refine K.d_mem 4 rfl (K.load1 one_3 rfl ((K.PtrL.fld hp34 (k := 0)).any)) (fun _ h => h) (by kernel_rfl) (by kernel_rfl) rfl ?_
      try dsimp only [setd, setn, ev, nth, over, cl, eI, eP, eT, List.map, List.append, List.drop, List.take]
      refine K.d_pure 5 rfl (K.fieldAddr_lit fo_25_3 rfl) (by kernel_rfl) rfl ?_
      dsimp only [setd, setn, ev, nth]
      refine K.d_mem 6 rfl (K.load1_own one_22 rfl (K.m0) rfl) (fun _ h => h) (by kernel_rfl) (by kernel_rfl) rfl ?_
      try dsimp only [setd, setn, ev, nth, over, cl, eI, eP, eT, List.map, List.append, List.drop, List.take]
      refine K.d_pure 7 rfl (K.len_sl sl_22 rfl) (by kernel_rfl) rfl ?_
      dsimp only [setd, setn, ev, nth]
      refine K.d_pure 8 rfl (K.sub_i64 rfl rfl (by omega)) (by kernel_rfl) rfl ?_
      dsimp only [setd, setn, ev, nth]
      refine K.d_call 9 rfl (K.call_g cal_57 (fun F w hF hw => c57 w)) (fun _ h => h) (by kernel_rfl) rfl ?_
      try dsimp only [setd, setn, ev, nth, over, cl, eI, eP, eT, List.map, List.append, List.drop, List.take]
      first | refine K.d_pure 10 rfl (K.not_d rfl) (by kernel_rfl) rfl ?_ | refine K.d_pure 10 rfl (K.not_ rfl) (by kernel_rfl) rfl ?_
      try dsimp only [setd, setn, ev, nth, over, cl, eI, eP, eT, List.map, List.append, List.drop, List.take]
      refine K.d_done (by kernel_rfl) ?_
      refine K.norm_then ?_
      refine K.cond rfl (fun ht42 => ?_) (fun ht42 => ?_)
      · try replace ht42 := of_decide_eq_true ht42
        refine K.seq ?_
        refine K.region_lit ?_
        refine K.seq_pure (K.assign) rfl ?_
        dsimp only [setd, setn, ev, nth]
        refine K.seq_nil ?_
        refine K.norm_then ?_
        refine K.ret ?_
        refine K.ret_then ?_
        refine K.ret_block ?_
        refine K.ret_then ?_
        refine K.ret_then ?_
        refine K.ret_block ?_
        refine K.ret_then ?_
        refine K.end_ret (fun w _ => K.res_tmp rfl w) ?_
        exact K.gives_i rfl (by rw [mk_at hz h8 hj hall (by unfold markE; rw [if_pos (by omega)]; decide)]; unfold markE; rw [if_pos (by omega)])
      try replace ht42 := of_decide_eq_false ht42
      refine K.skip ?_
      refine K.norm_then ?_
      refine K.region_lit ?_
      refine K.seq_pure (K.move) rfl ?_
      dsimp only [setd, setn, ev, nth]
      refine K.seq_pure (K.move) rfl ?_
      dsimp only [setd, setn, ev, nth]
      refine K.seq_ix (M := []) _ hM.sl sl_41 rfl rfl rfl (by omega) rfl ?_
      intro p45 hp45
      try dsimp only [setd, setn, ev, nth, over, cl, eI, eP, eT, List.map, List.append, List.drop, List.take]
      refine K.seq_pure (K.fieldAddr fo_53_1 rfl) rfl ?_
      dsimp only [setd, setn, ev, nth]
      refine K.seq_sil (K.loadA_p ag_51 rfl ((K.PtrL.fld hp45 (k := 1)).any) rfl) rfl ?_
      try dsimp only [setd, setn, ev, nth, over, cl, eI, eP, eT, List.map, List.append, List.drop, List.take]
      refine K.seq_call (K.call_g cal_93 (fun F w hF hw => c93 w)) rfl ?_
      try dsimp only [setd, setn, ev, nth, over, cl, eI, eP, eT, List.map, List.append, List.drop, List.take]
      refine K.seq_pure (K.assign) rfl ?_
      dsimp only [setd, setn, ev, nth]
      refine K.seq_nil ?_
      refine K.norm_block ?_
      refine K.norm_then ?_
      refine K.region_lit ?_
      refine K.seq_pure (K.move) rfl ?_
      dsimp only [setd, setn, ev, nth]
      refine K.seq_pure (K.add_i64 rfl rfl (by omega)) rfl ?_
      dsimp only [setd, setn, ev, nth]
      refine K.seq_pure (K.assign) rfl ?_
      dsimp only [setd, setn, ev, nth]
      refine K.seq_nil ?_
      exact K.round_endW [.int .i64 (spreadE 0 100000 [((ms.getD j default).2.1, (ms.getD j default).2.2)]), .int .i64 ((j : Int) + 1)] ⟨j + 1, _, rfl, rfl, by omega, marks_next hz h8 hj hall (by omega)⟩ (by simp [K.nth, intOf]; omega) (by repeat (first | exact List.Sublist.refl _ | apply List.Sublist.cons)) (by kernel_rfl)
    try replace ht29 := of_decide_eq_false ht29
    refine K.exit ?_
    refine K.exit_then ?_
    refine K.exit_then ?_
    refine K.exit_here ?_
    refine K.norm_then ?_
    refine K.seq ?_
    refine K.region_lit ?_
    refine K.seq_pure (K.move) rfl ?_
    dsimp only [setd, setn, ev, nth]
    refine K.seq_pure (K.assign) rfl ?_
    dsimp only [setd, setn, ev, nth]
    refine K.seq_nil ?_
    refine K.norm_then ?_
    refine K.ret ?_
    refine K.end_ret (fun w _ => K.res_tmp rfl w) ?_
    exact K.gives_i rfl (marks_done hdis (by omega))
  try replace hg26 := of_decide_eq_false hg26
  refine K.seq_skip ?_ ?_
  · rfl
  try dsimp only [setd, setn, ev, nth, over, cl, eI, eP, eT, List.map, List.append, List.drop, List.take]
  refine K.seq_skip ?_ ?_
  · rfl
  try dsimp only [setd, setn, ev, nth, over, cl, eI, eP, eT, List.map, List.append, List.drop, List.take]
  refine K.seq_pure (K.pick_f rfl) rfl ?_
  dsimp only [setd, setn, ev, nth]
  refine K.seq_nil ?_
  refine K.norm_then ?_
  refine K.cond_false rfl ?_
  refine K.exit ?_
  refine K.exit_then ?_
  refine K.exit_then ?_
  refine K.exit_here ?_
  refine K.norm_then ?_
  refine K.seq ?_
  refine K.region_lit ?_
  refine K.seq_pure (K.move) rfl ?_
  dsimp only [setd, setn, ev, nth]
  refine K.seq_pure (K.assign) rfl ?_
  dsimp only [setd, setn, ev, nth]
  refine K.seq_nil ?_
  refine K.norm_then ?_
  refine K.ret ?_
  refine K.end_ret (fun w _ => K.res_tmp rfl w) ?_
  exact K.gives_i rfl (marks_done hdis (by omega))

end Go.Proofs.Ytafkbioeoklldaa
