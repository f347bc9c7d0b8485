/-
  Lemmas and walks of functions, joined and with only what the claim needs.
  Conditions stand in each theorem.
-/
import Derived.Test.YtekkpcpbnonkaaaGreatDoorProg
import Derived.Test.YtekkpcpbnonkaaaGreatDoorRows
import Derived.Below
import Derived.Laws.AppendOwn
import Derived.Laws.Rows
import Derived.Laws.Slices
import Derived.Tactics
import Derived.OrdersHeld
import Derived.KernelRfl
import Derived.WalkKit
import Derived.Deep.AppendLies
import Derived.IntWalk
import Derived.Scope
import Derived.WalkSpells
import Derived.DeepKeys
import Derived.Deep.Upon
import Derived.Laws.Small
import Derived.RangeFuncLeaves
import Derived.RangeFuncSeq
import Derived.OrdersIn
import Derived.Sort.LoopGhostIn
import Derived.TacticsIn
import Derived.RangeFuncOwn
import Derived.WideKeyMaps
import Derived.DeepKeys4
import Derived.Carry
import Derived.Laws.CopyRow
import Derived.Laws.Strings
import Derived.WalkArith
import Derived.Laws.Closers25b
import Derived.ProofKit
import Derived.OpenShut
import Derived.LaidMore
import Derived.Lay
import Derived.Stop.Joined
import Derived.ChangeOld
import Derived.SizedLaws
import Derived.Deep.Slices
import Derived.Deep.Fields
import Derived.ChangeSame
import Derived.Lib.SmallJoins
import Derived.Laws.MakeOwn
import Derived.Shelf.Sort.Plain
import Derived.Sort.OwnSortedInts
import Derived.SevenTiedAt
import Derived.Test.YtekkpcpbnonkaaaGreatDoorZb
section
set_option linter.unusedSimpArgs false
set_option linter.unusedVariables false
namespace Go.Proofs.YtekkpcpbnonkaaaGreatDoor.Sc
open Go.RowKit Go
open Go.K (setd setn ev nth over cl eI eP eT setM setF)
attribute [local irreducible] K.blk K.row
theorem bs0 : K.Bs Tryz.prog 28 0 [] 3 [] := fun w => by kernel_rfl

set_option maxRecDepth 100000 in
theorem c98 {a b : Int} (h1 : 1 ≤ a) (h2 : a ≤ 30) (h3 : 1 ≤ b) (h4 : b ≤ 30) (w : World) :
    Calls Tryz.prog 110 [.int .i64 a, .int .i64 b].toArray w (K.Ret (fun r : Int => decide (r > 1) = cm a b) (fun r => .int .i64 r) (fun _ => []) w) := by
  refine K.enter (args := [.int .i64 a, .int .i64 b]) Tryz.func110 rfl (n := 24) rfl ?_
  simp only [List.replicate, List.cons_append, List.nil_append]
  refine K.seq ?_
  refine K.region_lit ?_
  refine K.seq_pure (K.assign) rfl ?_
  refine Rv.zn ?_
  refine K.seq_nil ?_
  refine K.norm_then ?_
  refine K.seq ?_
  refine K.seq ?_
  refine K.region_lit ?_
  refine K.seq_pure (K.move) rfl ?_
  refine Rv.zn ?_
  refine K.seq_pure (K.move) rfl ?_
  refine Rv.zn ?_
  refine K.seq_nil ?_
  refine K.norm_then ?_
  refine K.block ?_
  refine K.loopW [8] [4, 5, 6, 9, 10, 11, 12, 13, 14, 15, 16, 17, 18, 19, 20, 21, 22, 23, 24, 25] (fun vi L => ∃ k : Nat, vi = [.int .i64 (k : Int)] ∧ L = [] ∧ (k : Int) ≤ a ∧ ∀ j : Nat, j < k → ¬ (a % (a - j) = 0 ∧ b % (a - j) = 0)) (fun vi => a.toNat - (intOf (K.nth vi 0)).toNat) ?_ ?_
  · exact ⟨0, rfl, rfl, by omega, fun j hj => absurd hj (Nat.not_lt_zero j)⟩
  intro vi vr L hJ
  obtain ⟨k, rfl, rfl, hka, hall⟩ := hJ
  try dsimp only [setd, setn, ev, nth, over, cl, eI, eP, eT, setM, setF, List.map, List.append, List.drop, List.take]
  refine K.seq ?_
  refine K.region_lit ?_
  refine K.seq_pure (K.lss rfl rfl) rfl ?_
  refine Rv.zn ?_
  refine K.seq_nil ?_
  refine K.norm_then ?_
  refine K.seq ?_
  refine K.cond rfl (fun ht9 => ?_) (fun ht9 => ?_)
  · try replace ht9 := of_decide_eq_true ht9
    refine K.skip ?_
    refine K.norm_then ?_
    refine K.seq ?_
    refine K.block ?_
    refine K.seq ?_
    refine K.region_lit ?_
    refine K.seq_pure (K.move) rfl ?_
    refine Rv.zn ?_
    refine K.seq_pure (K.assign) rfl ?_
    refine Rv.zn ?_
    refine K.seq_nil ?_
    refine K.norm_then ?_
    refine K.seq ?_
    refine K.region_lit ?_
    refine K.seq_pure (K.move) rfl ?_
    refine Rv.zn ?_
    refine K.seq_pure (K.move) rfl ?_
    refine Rv.zn ?_
    refine K.seq_pure (K.sub_i64 rfl rfl (by omega)) rfl ?_
    refine Rv.zn ?_
    refine K.seq_pure (K.assign) rfl ?_
    refine Rv.zn ?_
    refine K.seq_nil ?_
    refine K.norm_then ?_
    refine K.seq ?_
    refine K.region_lit ?_
    refine K.seq_pure (K.move) rfl ?_
    refine Rv.zn ?_
    refine K.seq_pure (K.move) rfl ?_
    refine Rv.zn ?_
    refine K.seq_pure (K.rem_i64 rfl rfl (by omega) (by omega)) rfl ?_
    refine Rv.zn ?_
    refine K.seq_pure (K.eql rfl rfl) rfl ?_
    refine Rv.zn ?_
    refine K.seq_pure (K.move) rfl ?_
    refine Rv.zn ?_
    refine K.split 18 rfl (fun hg18 => ?_) (fun hg18 => ?_)
    · try replace hg18 := of_decide_eq_true hg18
      refine K.seq_pure (K.move) rfl ?_
      refine Rv.zn ?_
      refine K.seq_pure (K.move) rfl ?_
      refine Rv.zn ?_
      refine K.seq_pure (K.rem_i64 rfl rfl (by omega) (by omega)) rfl ?_
      refine Rv.zn ?_
      refine K.seq_pure (K.eql rfl rfl) rfl ?_
      refine Rv.zn ?_
      refine K.seq_pure (K.pick_t rfl) rfl ?_
      refine Rv.zn ?_
      refine K.seq_nil ?_
      refine K.norm_then ?_
      refine K.cond rfl (fun ht23 => ?_) (fun ht23 => ?_)
      · try replace ht23 := of_decide_eq_true ht23
        refine K.seq ?_
        refine K.region_lit ?_
        refine K.seq_pure (K.move) rfl ?_
        refine Rv.zn ?_
        refine K.seq_pure (K.assign) rfl ?_
        refine Rv.zn ?_
        refine K.seq_nil ?_
        refine K.norm_then ?_
        refine K.ret ?_
        refine K.ret_block ?_
        refine K.ret_then ?_
        refine K.ret_then ?_
        refine K.ret_block ?_
        refine K.ret_then ?_
        refine K.end_ret (fun w _ => K.res_tmp rfl w) ?_
        exact K.rets (a - (k : Int)) (dvs_found h1 h2 (by omega) hall hg18 ht23) rfl (List.nil_sublist _)
      try replace ht23 := of_decide_eq_false ht23
      have hz : ¬ (a % (a - (k : Int)) = 0 ∧ b % (a - (k : Int)) = 0) := by omega
      refine K.skip ?_
      refine K.norm_block ?_
      refine K.norm_then ?_
      refine K.region_lit ?_
      refine K.seq_pure (K.add_i64 rfl rfl (by omega)) rfl ?_
      refine Rv.zn ?_
      refine K.seq_pure (K.move) rfl ?_
      refine Rv.zn ?_
      refine K.seq_nil ?_
      exact K.round_endW (L'' := []) [.int .i64 ((k : Int) + 1)] ⟨k + 1, rfl, rfl, by omega, K.lt_succ_case hall hz⟩ (by simp [K.nth, intOf]; omega) (List.nil_sublist _) (by kernel_rfl)
    try replace hg18 := of_decide_eq_false hg18
    have hz : ¬ (a % (a - (k : Int)) = 0 ∧ b % (a - (k : Int)) = 0) := by omega
    refine K.seq_skip ?_ ?_
    · rfl
    try dsimp only [setd, setn, ev, nth, over, cl, eI, eP, eT, List.map, List.append, List.drop, List.take]
    refine K.seq_skip ?_ ?_
    · rfl
    try dsimp only [setd, setn, ev, nth, over, cl, eI, eP, eT, List.map, List.append, List.drop, List.take]
    refine K.seq_skip ?_ ?_
    · rfl
    try dsimp only [setd, setn, ev, nth, over, cl, eI, eP, eT, List.map, List.append, List.drop, List.take]
    refine K.seq_skip ?_ ?_
    · rfl
    try dsimp only [setd, setn, ev, nth, over, cl, eI, eP, eT, List.map, List.append, List.drop, List.take]
    refine K.seq_pure (K.pick_f rfl) rfl ?_
    refine Rv.zn ?_
    refine K.seq_nil ?_
    refine K.norm_then ?_
    refine K.cond_false rfl ?_
    refine K.skip ?_
    refine K.norm_block ?_
    refine K.norm_then ?_
    refine K.region_lit ?_
    refine K.seq_pure (K.add_i64 rfl rfl (by omega)) rfl ?_
    refine Rv.zn ?_
    refine K.seq_pure (K.move) rfl ?_
    refine Rv.zn ?_
    refine K.seq_nil ?_
    exact K.round_endW (L'' := []) [.int .i64 ((k : Int) + 1)] ⟨k + 1, rfl, rfl, by omega, K.lt_succ_case hall hz⟩ (by simp [K.nth, intOf]; omega) (List.nil_sublist _) (by kernel_rfl)
  try replace ht9 := of_decide_eq_false ht9
  refine K.exit ?_
  refine K.exit_then ?_
  refine K.exit_then ?_
  refine K.exit_here ?_
  refine K.norm_then ?_
  refine K.seq ?_
  refine K.region_lit ?_
  refine K.seq_pure (K.assign) rfl ?_
  refine Rv.zn ?_
  refine K.seq_nil ?_
  refine K.norm_then ?_
  refine K.ret ?_
  refine K.end_ret (fun w _ => K.res_tmp rfl w) ?_
  exact K.rets 1 (dvs_none h1 h2 (fun j hj => hall j (by omega))) rfl (List.nil_sublist _)

set_option maxRecDepth 100000 in
theorem c86 {u d : Int} (w : World) :
    Calls Tryz.prog 80 [.agg #[.int .i64 u, .int .i64 d]].toArray w (K.Gives (.int .i64 (scE u d)) w) := by
  refine K.enter (args := [.agg #[.int .i64 u, .int .i64 d]]) Tryz.func80 rfl (n := 16) rfl ?_
  simp only [List.replicate, List.cons_append, List.nil_append]
  refine K.seq ?_
  refine K.region_lit ?_
  refine K.seq_new (K.box) rfl ?_
  intro b1
  try dsimp only [setd, setn, ev, nth, over, cl, eI, eP, eT, List.map, List.append, List.drop, List.take]
  refine K.seq_pure (K.assign) rfl ?_
  refine Rv.zn ?_
  refine K.seq_nil ?_
  refine K.norm_then ?_
  refine K.seq ?_
  refine K.block ?_
  refine K.seq ?_
  refine K.region_lit ?_
  refine K.seq_pure (K.fieldAddr_lit fo_42_0 rfl) rfl ?_
  refine Rv.zn ?_
  refine K.seq_sil (K.load1_own one_3 rfl (K.m0) rfl) rfl ?_
  try dsimp only [setd, setn, ev, nth, over, cl, eI, eP, eT, List.map, List.append, List.drop, List.take]
  refine K.seq_pure (K.fieldAddr_lit fo_42_1 rfl) rfl ?_
  refine Rv.zn ?_
  refine K.seq_sil (K.load1_own one_3 rfl (K.m0) rfl) rfl ?_
  try dsimp only [setd, setn, ev, nth, over, cl, eI, eP, eT, List.map, List.append, List.drop, List.take]
  refine K.seq_new (K.buildSlice (bs2 _ _)) rfl ?_
  intro b8
  try dsimp only [setd, setn, ev, nth, over, cl, eI, eP, eT, List.map, List.append, List.drop, List.take]
  refine K.seq_call (K.call_g cal_53 (fun F w hF hw => c52_2 hw (hF _ (K.m0)))) rfl ?_
  try dsimp only [setd, setn, ev, nth, over, cl, eI, eP, eT, List.map, List.append, List.drop, List.take]
  refine K.seq_pure (K.assign) rfl ?_
  refine Rv.zn ?_
  refine K.seq_nil ?_
  refine K.norm_then ?_
  refine K.cond rfl (fun ht3 => ?_) (fun ht3 => ?_)
  · try replace ht3 := of_decide_eq_true ht3
    refine K.seq ?_
    refine K.region_lit ?_
    refine K.seq_pure (K.assign) rfl ?_
    refine Rv.zn ?_
    refine K.seq_nil ?_
    refine K.norm_then ?_
    refine K.ret ?_
    refine K.ret_block ?_
    refine K.ret_then ?_
    refine K.end_ret (fun w _ => K.res_tmp rfl w) ?_
    exact K.gives_i rfl (by unfold scE; rw [if_neg (by omega)])
  try replace ht3 := of_decide_eq_false ht3
  refine K.seq ?_
  refine K.region_lit ?_
  refine K.seq_pure (K.fieldAddr_lit fo_42_0 rfl) rfl ?_
  refine Rv.zn ?_
  refine K.seq_sil (K.load1_own one_3 rfl (K.m1) rfl) rfl ?_
  try dsimp only [setd, setn, ev, nth, over, cl, eI, eP, eT, List.map, List.append, List.drop, List.take]
  refine K.seq_pure (K.fieldAddr_lit fo_42_1 rfl) rfl ?_
  refine Rv.zn ?_
  refine K.seq_sil (K.load1_own one_3 rfl (K.m1) rfl) rfl ?_
  try dsimp only [setd, setn, ev, nth, over, cl, eI, eP, eT, List.map, List.append, List.drop, List.take]
  refine K.seq_loud (K.call_f cal_110 (fun F w hF hw => c98 (by omega) (by omega) (by omega) (by omega) w)) rfl ?_
  rintro r hr
  try dsimp only [setd, setn, ev, nth, over, cl, eI, eP, eT, List.map, List.append, List.drop, List.take]
  refine K.seq_pure (K.gtr rfl rfl) rfl ?_
  refine Rv.zn ?_
  refine K.seq_pure (K.assign) rfl ?_
  refine Rv.zn ?_
  refine K.seq_nil ?_
  refine K.norm_then ?_
  refine K.cond rfl (fun ht10 => ?_) (fun ht10 => ?_)
  · try replace ht10 := of_decide_eq_true ht10
    refine K.seq ?_
    refine K.region_lit ?_
    refine K.seq_pure (K.assign) rfl ?_
    refine Rv.zn ?_
    refine K.seq_nil ?_
    refine K.norm_then ?_
    refine K.ret ?_
    refine K.ret_block ?_
    refine K.ret_then ?_
    refine K.end_ret (fun w _ => K.res_tmp rfl w) ?_
    exact K.gives_i rfl (by unfold scE; rw [if_pos (by omega), ← hr, if_pos (by simpa using ht10)])
  try replace ht10 := of_decide_eq_false ht10
  refine K.skip ?_
  refine K.norm_block ?_
  refine K.norm_then ?_
  refine K.seq ?_
  refine K.region_lit ?_
  refine K.seq_pure (K.assign) rfl ?_
  refine Rv.zn ?_
  refine K.seq_nil ?_
  refine K.norm_then ?_
  refine K.ret ?_
  refine K.end_ret (fun w _ => K.res_tmp rfl w) ?_
  exact K.gives_i rfl (by unfold scE; rw [if_pos (by omega), ← hr, if_neg (by simpa using ht10)])

set_option maxRecDepth 100000 in
theorem c16 {kind base most : Int} {A B : Option Addr} {c d : Nat} {hs : List Int} {rs : List (Int × Int)} {w : World} (hH : K.Rd w A 1 K.eI hs) (hR : K.Rd w B 2 K.eP rs) (hn : hs.length ≤ 4611686018427387904) (hm : rs.length ≤ 4611686018427387904) :
    Calls Tryz.prog 10 [.agg #[.int .i64 kind, .int .i64 base, .int .i64 most, .slice A hs.length c, .slice B rs.length d]].toArray w (K.Gives (K.tup3 (chk kind base most hs rs)) w) := by
  refine K.enter (args := [.agg #[.int .i64 kind, .int .i64 base, .int .i64 most, .slice A hs.length c, .slice B rs.length d]]) Tryz.func10 rfl (n := 86) rfl ?_
  simp only [List.replicate, List.cons_append, List.nil_append]
  refine K.seq ?_
  refine K.region_lit ?_
  refine K.seq_new (K.box) rfl ?_
  intro b1
  try dsimp only [setd, setn, ev, nth, over, cl, eI, eP, eT, List.map, List.append, List.drop, List.take]
  refine K.seq_pure (K.assign) rfl ?_
  refine Rv.zn ?_
  refine K.seq_pure (K.assign) rfl ?_
  refine Rv.zn ?_
  refine K.seq_pure (K.assign) rfl ?_
  refine Rv.zn ?_
  refine K.seq_nil ?_
  refine K.norm_then ?_
  refine K.seq ?_
  refine K.seq ?_
  refine K.region_lit ?_
  refine K.seq_pure (K.fieldAddr_lit fo_38_0 rfl) rfl ?_
  refine Rv.zn ?_
  refine K.seq_sil (K.load1_own one_3 rfl (K.m0) rfl) rfl ?_
  try dsimp only [setd, setn, ev, nth, over, cl, eI, eP, eT, List.map, List.append, List.drop, List.take]
  refine K.seq_call (K.call_g cal_43 (fun F w hF hw => c57 w)) rfl ?_
  try dsimp only [setd, setn, ev, nth, over, cl, eI, eP, eT, List.map, List.append, List.drop, List.take]
  first | refine K.seq_pure (K.not_d rfl) rfl ?_ | refine K.seq_pure (K.not_ rfl) rfl ?_
  try dsimp only [setd, setn, ev, nth, over, cl, eI, eP, eT, List.map, List.append, List.drop, List.take]
  refine K.seq_nil ?_
  refine K.norm_then ?_
  refine K.cond rfl (fun ht11 => ?_) (fun ht11 => ?_)
  · try replace ht11 := of_decide_eq_true ht11
    refine K.seq ?_
    refine K.region_lit ?_
    refine K.seq_pure (K.assign) rfl ?_
    refine Rv.zn ?_
    refine K.seq_pure (K.assign) rfl ?_
    refine Rv.zn ?_
    refine K.seq_pure (K.assign) rfl ?_
    refine Rv.zn ?_
    refine K.seq_nil ?_
    refine K.norm_then ?_
    refine K.ret ?_
    refine K.ret_then ?_
    refine K.end_ret (fun w _ => K.res_ttt rfl w) ?_
    exact K.gives (by rw [chk_1 (by omega)]; rfl)
  try replace ht11 := of_decide_eq_false ht11
  refine K.skip ?_
  refine K.norm_then ?_
  refine K.seq ?_
  refine K.seq ?_
  refine K.region_lit ?_
  refine K.seq_pure (K.fieldAddr_lit fo_38_1 rfl) rfl ?_
  refine Rv.zn ?_
  refine K.seq_sil (K.load1_own one_3 rfl (K.m0) rfl) rfl ?_
  try dsimp only [setd, setn, ev, nth, over, cl, eI, eP, eT, List.map, List.append, List.drop, List.take]
  refine K.seq_call (K.call_g cal_43 (fun F w hF hw => c57 w)) rfl ?_
  try dsimp only [setd, setn, ev, nth, over, cl, eI, eP, eT, List.map, List.append, List.drop, List.take]
  first | refine K.seq_pure (K.not_d rfl) rfl ?_ | refine K.seq_pure (K.not_ rfl) rfl ?_
  try dsimp only [setd, setn, ev, nth, over, cl, eI, eP, eT, List.map, List.append, List.drop, List.take]
  refine K.seq_pure (K.move) rfl ?_
  refine Rv.zn ?_
  refine K.split 16 rfl (fun hg16 => ?_) (fun hg16 => ?_)
  · try replace hg16 := of_decide_eq_true hg16
    refine K.seq_skip ?_ ?_
    · rfl
    try dsimp only [setd, setn, ev, nth, over, cl, eI, eP, eT, List.map, List.append, List.drop, List.take]
    refine K.seq_skip ?_ ?_
    · rfl
    try dsimp only [setd, setn, ev, nth, over, cl, eI, eP, eT, List.map, List.append, List.drop, List.take]
    refine K.seq_skip ?_ ?_
    · rfl
    try dsimp only [setd, setn, ev, nth, over, cl, eI, eP, eT, List.map, List.append, List.drop, List.take]
    refine K.seq_skip ?_ ?_
    · rfl
    try dsimp only [setd, setn, ev, nth, over, cl, eI, eP, eT, List.map, List.append, List.drop, List.take]
    refine K.seq_pure (K.pick_t rfl) rfl ?_
    refine Rv.zn ?_
    refine K.seq_nil ?_
    refine K.norm_then ?_
    refine K.cond_true rfl ?_
    refine K.seq ?_
    refine K.region_lit ?_
    refine K.seq_pure (K.assign) rfl ?_
    refine Rv.zn ?_
    refine K.seq_pure (K.assign) rfl ?_
    refine Rv.zn ?_
    refine K.seq_pure (K.assign) rfl ?_
    refine Rv.zn ?_
    refine K.seq_nil ?_
    refine K.norm_then ?_
    refine K.ret ?_
    refine K.ret_then ?_
    refine K.end_ret (fun w _ => K.res_ttt rfl w) ?_
    exact K.gives (by rw [chk_2 (by omega) (by omega)]; rfl)
  try replace hg16 := of_decide_eq_false hg16
  refine K.seq_pure (K.fieldAddr_lit fo_38_2 rfl) rfl ?_
  refine Rv.zn ?_
  refine K.seq_sil (K.load1_own one_3 rfl (K.m0) rfl) rfl ?_
  try dsimp only [setd, setn, ev, nth, over, cl, eI, eP, eT, List.map, List.append, List.drop, List.take]
  refine K.seq_call (K.call_g cal_43 (fun F w hF hw => c57 w)) rfl ?_
  try dsimp only [setd, setn, ev, nth, over, cl, eI, eP, eT, List.map, List.append, List.drop, List.take]
  first | refine K.seq_pure (K.not_d rfl) rfl ?_ | refine K.seq_pure (K.not_ rfl) rfl ?_
  try dsimp only [setd, setn, ev, nth, over, cl, eI, eP, eT, List.map, List.append, List.drop, List.take]
  refine K.seq_pure (K.pick_f rfl) rfl ?_
  refine Rv.zn ?_
  refine K.seq_nil ?_
  refine K.norm_then ?_
  refine K.cond rfl (fun ht21 => ?_) (fun ht21 => ?_)
  · try replace ht21 := of_decide_eq_true ht21
    refine K.seq ?_
    refine K.region_lit ?_
    refine K.seq_pure (K.assign) rfl ?_
    refine Rv.zn ?_
    refine K.seq_pure (K.assign) rfl ?_
    refine Rv.zn ?_
    refine K.seq_pure (K.assign) rfl ?_
    refine Rv.zn ?_
    refine K.seq_nil ?_
    refine K.norm_then ?_
    refine K.ret ?_
    refine K.ret_then ?_
    refine K.end_ret (fun w _ => K.res_ttt rfl w) ?_
    exact K.gives (by rw [chk_2 (by omega) (by omega)]; rfl)
  try replace ht21 := of_decide_eq_false ht21
  refine K.skip ?_
  refine K.norm_then ?_
  refine K.seq ?_
  refine K.seq ?_
  refine K.region_lit ?_
  refine K.seq_pure (K.fieldAddr_lit fo_38_3 rfl) rfl ?_
  refine Rv.zn ?_
  refine K.seq_sil (K.load1_own one_28 rfl (K.m0) rfl) rfl ?_
  try dsimp only [setd, setn, ev, nth, over, cl, eI, eP, eT, List.map, List.append, List.drop, List.take]
  refine K.seq_pure (K.len_sl sl_28 rfl) rfl ?_
  refine Rv.zn ?_
  refine K.seq_call (K.call_g cal_43 (fun F w hF hw => c57 w)) rfl ?_
  try dsimp only [setd, setn, ev, nth, over, cl, eI, eP, eT, List.map, List.append, List.drop, List.take]
  first | refine K.seq_pure (K.not_d rfl) rfl ?_ | refine K.seq_pure (K.not_ rfl) rfl ?_
  try dsimp only [setd, setn, ev, nth, over, cl, eI, eP, eT, List.map, List.append, List.drop, List.take]
  refine K.seq_pure (K.move) rfl ?_
  refine Rv.zn ?_
  refine K.split 27 rfl (fun hg27 => ?_) (fun hg27 => ?_)
  · try replace hg27 := of_decide_eq_true hg27
    refine K.seq_skip ?_ ?_
    · rfl
    try dsimp only [setd, setn, ev, nth, over, cl, eI, eP, eT, List.map, List.append, List.drop, List.take]
    refine K.seq_skip ?_ ?_
    · rfl
    try dsimp only [setd, setn, ev, nth, over, cl, eI, eP, eT, List.map, List.append, List.drop, List.take]
    refine K.seq_skip ?_ ?_
    · rfl
    try dsimp only [setd, setn, ev, nth, over, cl, eI, eP, eT, List.map, List.append, List.drop, List.take]
    refine K.seq_skip ?_ ?_
    · rfl
    try dsimp only [setd, setn, ev, nth, over, cl, eI, eP, eT, List.map, List.append, List.drop, List.take]
    refine K.seq_pure (K.pick_t rfl) rfl ?_
    refine Rv.zn ?_
    refine K.seq_nil ?_
    refine K.norm_then ?_
    refine K.cond_true rfl ?_
    refine K.seq ?_
    refine K.region_lit ?_
    refine K.seq_pure (K.assign) rfl ?_
    refine Rv.zn ?_
    refine K.seq_pure (K.assign) rfl ?_
    refine Rv.zn ?_
    refine K.seq_pure (K.assign) rfl ?_
    refine Rv.zn ?_
    refine K.seq_nil ?_
    refine K.norm_then ?_
    refine K.ret ?_
    refine K.ret_then ?_
    refine K.end_ret (fun w _ => K.res_ttt rfl w) ?_
    exact K.gives (by rw [chk_3 (by omega) (by omega) (by omega)]; rfl)
  try replace hg27 := of_decide_eq_false hg27
  refine K.seq_pure (K.fieldAddr_lit fo_38_4 rfl) rfl ?_
  refine Rv.zn ?_
  refine K.seq_sil (K.load1_own one_36 rfl (K.m0) rfl) rfl ?_
  try dsimp only [setd, setn, ev, nth, over, cl, eI, eP, eT, List.map, List.append, List.drop, List.take]
  refine K.seq_pure (K.len_sl sl_36 rfl) rfl ?_
  refine Rv.zn ?_
  refine K.seq_pure (K.gtr rfl rfl) rfl ?_
  refine Rv.zn ?_
  refine K.seq_pure (K.pick_f rfl) rfl ?_
  refine Rv.zn ?_
  refine K.seq_nil ?_
  refine K.norm_then ?_
  refine K.cond rfl (fun ht32 => ?_) (fun ht32 => ?_)
  · try replace ht32 := of_decide_eq_true ht32
    refine K.seq ?_
    refine K.region_lit ?_
    refine K.seq_pure (K.assign) rfl ?_
    refine Rv.zn ?_
    refine K.seq_pure (K.assign) rfl ?_
    refine Rv.zn ?_
    refine K.seq_pure (K.assign) rfl ?_
    refine Rv.zn ?_
    refine K.seq_nil ?_
    refine K.norm_then ?_
    refine K.ret ?_
    refine K.ret_then ?_
    refine K.end_ret (fun w _ => K.res_ttt rfl w) ?_
    exact K.gives (by rw [chk_3 (by omega) (by omega) (by omega)]; rfl)
  try replace ht32 := of_decide_eq_false ht32
  refine K.skip ?_
  refine K.norm_then ?_
  refine K.seq ?_
  refine K.seq ?_
  refine K.region_lit ?_
  refine K.seq_pure (K.assign) rfl ?_
  refine Rv.zn ?_
  refine K.seq_nil ?_
  refine K.norm_then ?_
  refine K.block ?_
  refine K.loopW [5] [2, 3, 4, 33, 34, 35, 36, 37, 38, 39, 40, 41, 42, 43, 44, 45, 46, 47, 48, 49] (fun vi L => ∃ k : Nat, vi = [.int .i64 (k : Int)] ∧ L = [K.blk b1 38 [.int .i64 kind, .int .i64 base, .int .i64 most, .slice A hs.length c, .slice B rs.length d]] ∧ k ≤ hs.length ∧ ∀ j, j < k → hE base (hs.getD j default) = 0) (fun vi => hs.length - (intOf (K.nth vi 0)).toNat) ?_ ?_
  · exact ⟨0, rfl, rfl, Nat.zero_le _, fun j hj => absurd hj (Nat.not_lt_zero j)⟩
  intro vi vr L hJ
  obtain ⟨k, rfl, rfl, hkn, hall⟩ := hJ
  try dsimp only [setd, setn, ev, nth, over, cl, eI, eP, eT, setM, setF, List.map, List.append, List.drop, List.take]
  refine K.seq ?_
  refine K.seq ?_
  refine K.region_lit ?_
  refine K.seq_pure (K.move) rfl ?_
  refine Rv.zn ?_
  refine K.seq_pure (K.fieldAddr_lit fo_38_3 rfl) rfl ?_
  refine Rv.zn ?_
  refine K.seq_sil (K.load1_own one_28 rfl (K.m0) rfl) rfl ?_
  try dsimp only [setd, setn, ev, nth, over, cl, eI, eP, eT, List.map, List.append, List.drop, List.take]
  refine K.seq_pure (K.len_sl sl_28 rfl) rfl ?_
  refine Rv.zn ?_
  refine K.seq_pure (K.lss rfl rfl) rfl ?_
  refine Rv.zn ?_
  refine K.seq_nil ?_
  refine K.norm_then ?_
  refine K.cond rfl (fun ht37 => ?_) (fun ht37 => ?_)
  · try replace ht37 := of_decide_eq_true ht37
    refine K.skip ?_
    refine K.norm_then ?_
    refine K.seq ?_
    refine K.block ?_
    refine K.seq ?_
    refine K.draw_L [] Tryz_mixed ?_
    refine K.d_pure 0 rfl (K.fieldAddr_lit fo_38_3 rfl) (by kernel_rfl) rfl ?_
    refine Rv.zn ?_
    refine K.d_mem 1 rfl (K.load1_own one_28 rfl (K.m0) rfl) (fun _ h => h) (by kernel_rfl) (by kernel_rfl) rfl ?_
    try dsimp only [setd, setn, ev, nth, over, cl, eI, eP, eT, List.map, List.append, List.drop, List.take]
    refine K.d_pure 2 rfl (K.move) (by kernel_rfl) rfl ?_
    refine Rv.zn ?_
    refine K.d_ix (M := []) 3 _ rfl hH.sl sl_28 rfl rfl rfl (by omega) (by kernel_rfl) rfl ?_
    intro p43 hp43
    try dsimp only [setd, setn, ev, nth, over, cl, eI, eP, eT, List.map, List.append, List.drop, List.take]
    refine K.d_mem 4 rfl (K.load1 one_3 rfl (hp43.any)) (fun _ h => h) (by kernel_rfl) (by kernel_rfl) rfl ?_
    try dsimp only [setd, setn, ev, nth, over, cl, eI, eP, eT, List.map, List.append, List.drop, List.take]
    refine K.d_pure 5 rfl (K.fieldAddr_lit fo_38_1 rfl) (by kernel_rfl) rfl ?_
    refine Rv.zn ?_
    refine K.d_mem 6 rfl (K.load1_own one_3 rfl (K.m0) rfl) (fun _ h => h) (by kernel_rfl) (by kernel_rfl) rfl ?_
    try dsimp only [setd, setn, ev, nth, over, cl, eI, eP, eT, List.map, List.append, List.drop, List.take]
    refine K.d_call 7 rfl (K.call_g cal_43 (fun F w hF hw => c57 w)) (fun _ h => h) (by kernel_rfl) rfl ?_
    try dsimp only [setd, setn, ev, nth, over, cl, eI, eP, eT, List.map, List.append, List.drop, List.take]
    first | refine K.d_pure 8 rfl (K.not_d rfl) (by kernel_rfl) rfl ?_ | refine K.d_pure 8 rfl (K.not_ rfl) (by kernel_rfl) rfl ?_
    try dsimp only [setd, setn, ev, nth, over, cl, eI, eP, eT, List.map, List.append, List.drop, List.take]
    refine K.d_done (by kernel_rfl) ?_
    refine K.norm_then ?_
    refine K.cond rfl (fun ht48 => ?_) (fun ht48 => ?_)
    · try replace ht48 := of_decide_eq_true ht48
      refine K.seq ?_
      refine K.region_lit ?_
      refine K.seq_pure (K.move) rfl ?_
      refine Rv.zn ?_
      refine K.seq_pure (K.assign) rfl ?_
      refine Rv.zn ?_
      refine K.seq_pure (K.assign) rfl ?_
      refine Rv.zn ?_
      refine K.seq_pure (K.assign) rfl ?_
      refine Rv.zn ?_
      refine K.seq_nil ?_
      refine K.norm_then ?_
      refine K.ret ?_
      refine K.ret_block ?_
      refine K.ret_then ?_
      refine K.ret_then ?_
      refine K.ret_block ?_
      refine K.ret_then ?_
      refine K.end_ret (fun w _ => K.res_ttt rfl w) ?_
      have hq : hE base (hs.getD k default) = 7 := by unfold hE; rw [if_neg (by omega)]
      have hf := K.fst_found (q := hE base) (by omega) hall (by omega)
      exact K.gives (by rw [chk_4 (by omega) (by omega) (by omega) (by rw [hf, hq]; exact K.ne0 (by decide)), hf, hq]; rfl)
    try replace ht48 := of_decide_eq_false ht48
    have hz : hE base (hs.getD k default) = 0 := by unfold hE; rw [if_pos (by omega)]
    refine K.skip ?_
    refine K.norm_block ?_
    refine K.norm_then ?_
    refine K.region_lit ?_
    refine K.seq_pure (K.move) rfl ?_
    refine Rv.zn ?_
    refine K.seq_pure (K.add_i64 rfl rfl (by omega)) rfl ?_
    refine Rv.zn ?_
    refine K.seq_pure (K.assign) rfl ?_
    refine Rv.zn ?_
    refine K.seq_nil ?_
    exact K.round_endW [.int .i64 ((k : Int) + 1)] ⟨k + 1, rfl, rfl, by omega, K.lt_succ_case hall hz⟩ (by simp [K.nth, intOf]; omega) (by repeat (first | exact List.Sublist.refl _ | apply List.Sublist.cons)) (by kernel_rfl)
  try replace ht37 := of_decide_eq_false ht37
  have hfst := K.fst_none (q := hE base) (fun j hj => hall j (by omega))
  refine K.exit ?_
  refine K.exit_then ?_
  refine K.exit_then ?_
  refine K.exit_here ?_
  refine K.norm_then ?_
  refine K.seq ?_
  refine K.seq ?_
  refine K.region_lit ?_
  refine K.seq_pure (K.assign) rfl ?_
  refine Rv.zn ?_
  refine K.seq_nil ?_
  refine K.norm_then ?_
  refine K.block ?_
  refine K.loopW [6] [2, 3, 4, 7, 50, 51, 52, 53, 54, 55, 56, 57, 58, 59, 60, 61, 62, 63, 64, 65, 66, 67, 68, 69, 70, 71, 72, 73, 74, 75, 76, 77, 78, 79, 80, 81, 82, 83, 84, 85, 86] (fun vi L => ∃ k : Nat, vi = [.int .i64 (k : Int)] ∧ L = [K.blk b1 38 [.int .i64 kind, .int .i64 base, .int .i64 most, .slice A hs.length c, .slice B rs.length d]] ∧ k ≤ rs.length ∧ ∀ j, j < k → roadE hs.length (rs.getD j default) = 0) (fun vi => rs.length - (intOf (K.nth vi 0)).toNat) ?_ ?_
  · exact ⟨0, rfl, rfl, Nat.zero_le _, fun j hj => absurd hj (Nat.not_lt_zero j)⟩
  intro vi vr L hJ
  obtain ⟨k, rfl, rfl, hkn2, hall2⟩ := hJ
  try dsimp only [setd, setn, ev, nth, over, cl, eI, eP, eT, setM, setF, List.map, List.append, List.drop, List.take]
  refine K.seq ?_
  refine K.seq ?_
  refine K.region_lit ?_
  refine K.seq_pure (K.move) rfl ?_
  refine Rv.zn ?_
  refine K.seq_pure (K.fieldAddr_lit fo_38_4 rfl) rfl ?_
  refine Rv.zn ?_
  refine K.seq_sil (K.load1_own one_36 rfl (K.m0) rfl) rfl ?_
  try dsimp only [setd, setn, ev, nth, over, cl, eI, eP, eT, List.map, List.append, List.drop, List.take]
  refine K.seq_pure (K.len_sl sl_36 rfl) rfl ?_
  refine Rv.zn ?_
  refine K.seq_pure (K.lss rfl rfl) rfl ?_
  refine Rv.zn ?_
  refine K.seq_nil ?_
  refine K.norm_then ?_
  refine K.cond rfl (fun ht54 => ?_) (fun ht54 => ?_)
  · try replace ht54 := of_decide_eq_true ht54
    refine K.skip ?_
    refine K.norm_then ?_
    refine K.seq ?_
    refine K.block ?_
    refine K.seq ?_
    refine K.region_lit ?_
    refine K.seq_pure (K.fieldAddr_lit fo_38_4 rfl) rfl ?_
    refine Rv.zn ?_
    refine K.seq_sil (K.load1_own one_36 rfl (K.m0) rfl) rfl ?_
    try dsimp only [setd, setn, ev, nth, over, cl, eI, eP, eT, List.map, List.append, List.drop, List.take]
    refine K.seq_pure (K.move) rfl ?_
    refine Rv.zn ?_
    refine K.seq_ix (M := []) _ hR.sl sl_36 rfl rfl rfl (by omega) rfl ?_
    intro p60 hp60
    try dsimp only [setd, setn, ev, nth, over, cl, eI, eP, eT, List.map, List.append, List.drop, List.take]
    refine K.seq_sil (K.loadA_p ag_94 rfl (hp60.any) rfl) rfl ?_
    try dsimp only [setd, setn, ev, nth, over, cl, eI, eP, eT, List.map, List.append, List.drop, List.take]
    refine K.seq_new (K.alloc zr_94) rfl ?_
    intro b7
    try dsimp only [setd, setn, ev, nth, over, cl, eI, eP, eT, List.map, List.append, List.drop, List.take]
    refine K.seq_st (K.store_all sz_94 rfl rfl rfl rfl (K.rp0)) rfl ?_
    try dsimp only [setd, setn, ev, nth, over, cl, eI, eP, eT, List.map, List.append, List.drop, List.take]
    refine K.seq_nil ?_
    refine K.norm_then ?_
    refine K.seq ?_
    refine K.seq ?_
    refine K.region_lit ?_
    refine K.seq_pure (K.fieldAddr_lit fo_94_0 rfl) rfl ?_
    refine Rv.zn ?_
    refine K.seq_sil (K.load1_own one_3 rfl (K.m0) rfl) rfl ?_
    try dsimp only [setd, setn, ev, nth, over, cl, eI, eP, eT, List.map, List.append, List.drop, List.take]
    refine K.seq_pure (K.fieldAddr_lit fo_38_3 rfl) rfl ?_
    refine Rv.zn ?_
    refine K.seq_sil (K.load1_own one_28 rfl (K.m1) rfl) rfl ?_
    try dsimp only [setd, setn, ev, nth, over, cl, eI, eP, eT, List.map, List.append, List.drop, List.take]
    refine K.seq_pure (K.len_sl sl_28 rfl) rfl ?_
    refine Rv.zn ?_
    refine K.seq_pure (K.sub_i64 rfl rfl (by omega)) rfl ?_
    refine Rv.zn ?_
    refine K.seq_call (K.call_g cal_43 (fun F w hF hw => c57 w)) rfl ?_
    try dsimp only [setd, setn, ev, nth, over, cl, eI, eP, eT, List.map, List.append, List.drop, List.take]
    first | refine K.seq_pure (K.not_d rfl) rfl ?_ | refine K.seq_pure (K.not_ rfl) rfl ?_
    try dsimp only [setd, setn, ev, nth, over, cl, eI, eP, eT, List.map, List.append, List.drop, List.take]
    refine K.seq_pure (K.move) rfl ?_
    refine Rv.zn ?_
    refine K.split 70 rfl (fun hg70 => ?_) (fun hg70 => ?_)
    · try replace hg70 := of_decide_eq_true hg70
      refine K.seq_skip ?_ ?_
      · rfl
      try dsimp only [setd, setn, ev, nth, over, cl, eI, eP, eT, List.map, List.append, List.drop, List.take]
      refine K.seq_skip ?_ ?_
      · rfl
      try dsimp only [setd, setn, ev, nth, over, cl, eI, eP, eT, List.map, List.append, List.drop, List.take]
      refine K.seq_skip ?_ ?_
      · rfl
      try dsimp only [setd, setn, ev, nth, over, cl, eI, eP, eT, List.map, List.append, List.drop, List.take]
      refine K.seq_skip ?_ ?_
      · rfl
      try dsimp only [setd, setn, ev, nth, over, cl, eI, eP, eT, List.map, List.append, List.drop, List.take]
      refine K.seq_skip ?_ ?_
      · rfl
      try dsimp only [setd, setn, ev, nth, over, cl, eI, eP, eT, List.map, List.append, List.drop, List.take]
      refine K.seq_skip ?_ ?_
      · rfl
      try dsimp only [setd, setn, ev, nth, over, cl, eI, eP, eT, List.map, List.append, List.drop, List.take]
      refine K.seq_skip ?_ ?_
      · rfl
      try dsimp only [setd, setn, ev, nth, over, cl, eI, eP, eT, List.map, List.append, List.drop, List.take]
      refine K.seq_skip ?_ ?_
      · rfl
      try dsimp only [setd, setn, ev, nth, over, cl, eI, eP, eT, List.map, List.append, List.drop, List.take]
      refine K.seq_pure (K.pick_t rfl) rfl ?_
      refine Rv.zn ?_
      refine K.seq_nil ?_
      refine K.norm_then ?_
      refine K.cond_true rfl ?_
      refine K.seq ?_
      refine K.region_lit ?_
      refine K.seq_pure (K.move) rfl ?_
      refine Rv.zn ?_
      refine K.seq_pure (K.assign) rfl ?_
      refine Rv.zn ?_
      refine K.seq_pure (K.assign) rfl ?_
      refine Rv.zn ?_
      refine K.seq_pure (K.assign) rfl ?_
      refine Rv.zn ?_
      refine K.seq_nil ?_
      refine K.norm_then ?_
      refine K.ret ?_
      refine K.ret_then ?_
      refine K.ret_block ?_
      refine K.ret_then ?_
      refine K.ret_then ?_
      refine K.ret_block ?_
      refine K.ret_then ?_
      refine K.end_ret (fun w _ => K.res_ttt rfl w) ?_
      have hq : roadE hs.length (rs.getD k default) = 4 := by unfold roadE; rw [if_neg (by omega)]
      have hf := K.fst_found (q := roadE hs.length) (by omega) hall2 (by omega)
      exact K.gives (by rw [chk_5 (by omega) (by omega) (by omega) (by rw [hfst]) (by rw [hf, hq]; exact K.ne0 (by decide)), hf, hq]; rfl)
    try replace hg70 := of_decide_eq_false hg70
    refine K.seq_pure (K.fieldAddr_lit fo_94_1 rfl) rfl ?_
    refine Rv.zn ?_
    refine K.seq_sil (K.load1_own one_3 rfl (K.m0) rfl) rfl ?_
    try dsimp only [setd, setn, ev, nth, over, cl, eI, eP, eT, List.map, List.append, List.drop, List.take]
    refine K.seq_pure (K.fieldAddr_lit fo_38_3 rfl) rfl ?_
    refine Rv.zn ?_
    refine K.seq_sil (K.load1_own one_28 rfl (K.m1) rfl) rfl ?_
    try dsimp only [setd, setn, ev, nth, over, cl, eI, eP, eT, List.map, List.append, List.drop, List.take]
    refine K.seq_pure (K.len_sl sl_28 rfl) rfl ?_
    refine Rv.zn ?_
    refine K.seq_pure (K.sub_i64 rfl rfl (by omega)) rfl ?_
    refine Rv.zn ?_
    refine K.seq_call (K.call_g cal_43 (fun F w hF hw => c57 w)) rfl ?_
    try dsimp only [setd, setn, ev, nth, over, cl, eI, eP, eT, List.map, List.append, List.drop, List.take]
    first | refine K.seq_pure (K.not_d rfl) rfl ?_ | refine K.seq_pure (K.not_ rfl) rfl ?_
    try dsimp only [setd, setn, ev, nth, over, cl, eI, eP, eT, List.map, List.append, List.drop, List.take]
    refine K.seq_pure (K.pick_f rfl) rfl ?_
    refine Rv.zn ?_
    refine K.seq_nil ?_
    refine K.norm_then ?_
    refine K.cond rfl (fun ht79 => ?_) (fun ht79 => ?_)
    · try replace ht79 := of_decide_eq_true ht79
      refine K.seq ?_
      refine K.region_lit ?_
      refine K.seq_pure (K.move) rfl ?_
      refine Rv.zn ?_
      refine K.seq_pure (K.assign) rfl ?_
      refine Rv.zn ?_
      refine K.seq_pure (K.assign) rfl ?_
      refine Rv.zn ?_
      refine K.seq_pure (K.assign) rfl ?_
      refine Rv.zn ?_
      refine K.seq_nil ?_
      refine K.norm_then ?_
      refine K.ret ?_
      refine K.ret_then ?_
      refine K.ret_block ?_
      refine K.ret_then ?_
      refine K.ret_then ?_
      refine K.ret_block ?_
      refine K.ret_then ?_
      refine K.end_ret (fun w _ => K.res_ttt rfl w) ?_
      have hq : roadE hs.length (rs.getD k default) = 4 := by unfold roadE; rw [if_neg (by omega)]
      have hf := K.fst_found (q := roadE hs.length) (by omega) hall2 (by omega)
      exact K.gives (by rw [chk_5 (by omega) (by omega) (by omega) (by rw [hfst]) (by rw [hf, hq]; exact K.ne0 (by decide)), hf, hq]; rfl)
    try replace ht79 := of_decide_eq_false ht79
    skip
    refine K.skip ?_
    refine K.norm_then ?_
    refine K.seq ?_
    refine K.region_lit ?_
    refine K.seq_pure (K.fieldAddr_lit fo_94_0 rfl) rfl ?_
    refine Rv.zn ?_
    refine K.seq_sil (K.load1_own one_3 rfl (K.m0) rfl) rfl ?_
    try dsimp only [setd, setn, ev, nth, over, cl, eI, eP, eT, List.map, List.append, List.drop, List.take]
    refine K.seq_pure (K.fieldAddr_lit fo_94_1 rfl) rfl ?_
    refine Rv.zn ?_
    refine K.seq_sil (K.load1_own one_3 rfl (K.m0) rfl) rfl ?_
    try dsimp only [setd, setn, ev, nth, over, cl, eI, eP, eT, List.map, List.append, List.drop, List.take]
    refine K.seq_pure (K.eql rfl rfl) rfl ?_
    refine Rv.zn ?_
    refine K.seq_nil ?_
    refine K.norm_then ?_
    refine K.cond rfl (fun ht85 => ?_) (fun ht85 => ?_)
    · try replace ht85 := of_decide_eq_true ht85
      refine K.seq ?_
      refine K.region_lit ?_
      refine K.seq_pure (K.move) rfl ?_
      refine Rv.zn ?_
      refine K.seq_pure (K.assign) rfl ?_
      refine Rv.zn ?_
      refine K.seq_pure (K.assign) rfl ?_
      refine Rv.zn ?_
      refine K.seq_pure (K.assign) rfl ?_
      refine Rv.zn ?_
      refine K.seq_nil ?_
      refine K.norm_then ?_
      refine K.ret ?_
      refine K.ret_block ?_
      refine K.ret_then ?_
      refine K.ret_then ?_
      refine K.ret_block ?_
      refine K.ret_then ?_
      refine K.end_ret (fun w _ => K.res_ttt rfl w) ?_
      have hq : roadE hs.length (rs.getD k default) = 2 := by unfold roadE; rw [if_pos (by omega), if_pos (by omega)]
      have hf := K.fst_found (q := roadE hs.length) (by omega) hall2 (by omega)
      exact K.gives (by rw [chk_5 (by omega) (by omega) (by omega) (by rw [hfst]) (by rw [hf, hq]; exact K.ne0 (by decide)), hf, hq]; rfl)
    try replace ht85 := of_decide_eq_false ht85
    have hz : roadE hs.length (rs.getD k default) = 0 := by unfold roadE; rw [if_pos (by omega), if_neg (by omega)]
    refine K.skip ?_
    refine K.norm_block ?_
    refine K.norm_then ?_
    refine K.region_lit ?_
    refine K.seq_pure (K.move) rfl ?_
    refine Rv.zn ?_
    refine K.seq_pure (K.add_i64 rfl rfl (by omega)) rfl ?_
    refine Rv.zn ?_
    refine K.seq_pure (K.assign) rfl ?_
    refine Rv.zn ?_
    refine K.seq_nil ?_
    exact K.round_endW [.int .i64 ((k : Int) + 1)] ⟨k + 1, rfl, rfl, by omega, K.lt_succ_case hall2 hz⟩ (by simp [K.nth, intOf]; omega) (by repeat (first | exact List.Sublist.refl _ | apply List.Sublist.cons)) (by kernel_rfl)
  try replace ht54 := of_decide_eq_false ht54
  refine K.exit ?_
  refine K.exit_then ?_
  refine K.exit_then ?_
  refine K.exit_here ?_
  refine K.norm_then ?_
  refine K.seq ?_
  refine K.region_lit ?_
  refine K.seq_pure (K.assign) rfl ?_
  refine Rv.zn ?_
  refine K.seq_pure (K.assign) rfl ?_
  refine Rv.zn ?_
  refine K.seq_pure (K.assign) rfl ?_
  refine Rv.zn ?_
  refine K.seq_nil ?_
  refine K.norm_then ?_
  refine K.ret ?_
  refine K.end_ret (fun w _ => K.res_ttt rfl w) ?_
  have hf := K.fst_none (q := roadE hs.length) (fun j hj => hall2 j (by omega))
  exact K.gives (by rw [chk_0 (by omega) (by omega) (by omega) (by rw [hfst]) (by rw [hf])]; rfl)

end Go.Proofs.YtekkpcpbnonkaaaGreatDoor.Sc
end
section
set_option linter.unusedSimpArgs false
set_option linter.unusedVariables false
namespace Go.Proofs.YtekkpcpbnonkaaaGreatDoor.Sc
open Go.RowKit Go
open Go.K (setd setn ev nth over cl eI eP eT setM setF)
attribute [local irreducible] K.blk K.row
theorem bl97 (a b c s t f : Value) : K.Bl Tryz.prog 99 [(0, .agg #[a, b, c, s, t]), (1, .agg #[f])] (.agg #[a, b, c, s, t, f]) := fun w => by kernel_rfl
theorem bl27z : K.Bl Tryz.prog 42 [] (.agg #[.int .i64 0, .int .i64 0]) := fun w => by kernel_rfl
theorem s2_27 : K.eq2 Tryz.prog 42 = true := by kernel_rfl
theorem bs27 (a b : Int) : K.Bs Tryz.prog 55 1 [(0, .agg #[.int .i64 a, .int .i64 b])] 42 [.int .i64 a, .int .i64 b] := fun w => by kernel_rfl
theorem bs27_2 (a b a2 b2 : Int) : K.Bs Tryz.prog 55 2 [(0, .agg #[.int .i64 a, .int .i64 b]), (1, .agg #[.int .i64 a2, .int .i64 b2])] 42 [.int .i64 a, .int .i64 b, .int .i64 a2, .int .i64 b2] := fun w => by kernel_rfl
theorem cal_r {kind : Int} (hk : 1 ≤ kind ∧ kind ≤ 3) : K.callable Tryz.prog (110 + kind.toNat) = true := by
  rcases (show kind = 1 ∨ kind = 2 ∨ kind = 3 by omega) with h | h | h <;> subst h
  · exact cal_111
  · exact cal_112
  · exact cal_113
theorem cRound {kind h u v : Int} (hk : 1 ≤ kind ∧ kind ≤ 3) (h0 : 0 ≤ h) (h9 : h ≤ 9000) (hp : Parts u v) (w : World) : Calls Tryz.prog (110 + kind.toNat) [.int .i64 (h * u), .int .i64 v].toArray w (K.Gives (.int .i64 (cutS kind h u v)) w) := by
  have hm := mul_bd h0 h9 (show 0 ≤ u by omega) (show u ≤ 30 by omega)
  rw [← rnd_cut hk (by omega)]
  rcases (show kind = 1 ∨ kind = 2 ∨ kind = 3 by omega) with h | h | h <;> subst h
  · exact c99 hm.1 (by omega) (by omega) (by omega) w
  · exact c100 hm.1 (by omega) (by omega) (by omega) w
  · exact c101 hm.1 (by omega) (by omega) (by omega) w

set_option maxRecDepth 100000 in
theorem c87 (w : World) :
    Calls Tryz.prog 81 [].toArray w (K.Gives (.agg #[.func (.func 111) #[] #[], .func (.func 112) #[] #[], .func (.func 113) #[] #[]]) w) := by
  refine K.enter (args := []) Tryz.func81 rfl (n := 8) rfl ?_
  simp only [List.replicate, List.cons_append, List.nil_append]
  refine K.seq ?_
  refine K.region_lit ?_
  refine K.seq_new (K.alloc zr_142) rfl ?_
  intro b0
  try dsimp only [setd, setn, ev, nth, over, cl, eI, eP, eT, List.map, List.append, List.drop, List.take]
  refine K.seq_nil ?_
  refine K.norm_then ?_
  refine K.seq ?_
  refine K.region_lit ?_
  refine K.seq_pure (K.indexAddr_ar ar_142 rfl rfl (by omega) (by omega)) rfl ?_
  try dsimp only [setd, setn, ev, nth, over, cl, eI, eP, eT, List.map, List.append, List.drop, List.take]
  refine K.seq_pure (K.fieldAddr_lit fo_97_0 rfl) rfl ?_
  refine Rv.zn ?_
  refine K.seq_st (K.store sz_95 rfl rfl rfl rfl (K.rp0)) rfl ?_
  try dsimp only [setd, setn, ev, nth, over, cl, eI, eP, eT, List.map, List.append, List.drop, List.take]
  refine K.seq_nil ?_
  refine K.norm_then ?_
  refine K.seq ?_
  refine K.region_lit ?_
  refine K.seq_pure (K.indexAddr_ar ar_142 rfl rfl (by omega) (by omega)) rfl ?_
  try dsimp only [setd, setn, ev, nth, over, cl, eI, eP, eT, List.map, List.append, List.drop, List.take]
  refine K.seq_pure (K.fieldAddr_lit fo_97_0 rfl) rfl ?_
  refine Rv.zn ?_
  refine K.seq_st (K.store sz_95 rfl rfl rfl rfl (K.rp0)) rfl ?_
  try dsimp only [setd, setn, ev, nth, over, cl, eI, eP, eT, List.map, List.append, List.drop, List.take]
  refine K.seq_nil ?_
  refine K.norm_then ?_
  refine K.seq ?_
  refine K.region_lit ?_
  refine K.seq_pure (K.indexAddr_ar ar_142 rfl rfl (by omega) (by omega)) rfl ?_
  try dsimp only [setd, setn, ev, nth, over, cl, eI, eP, eT, List.map, List.append, List.drop, List.take]
  refine K.seq_pure (K.fieldAddr_lit fo_97_0 rfl) rfl ?_
  refine Rv.zn ?_
  refine K.seq_st (K.store sz_95 rfl rfl rfl rfl (K.rp0)) rfl ?_
  try dsimp only [setd, setn, ev, nth, over, cl, eI, eP, eT, List.map, List.append, List.drop, List.take]
  refine K.seq_nil ?_
  refine K.norm_then ?_
  refine K.seq ?_
  refine K.region_lit ?_
  refine K.seq_sil (K.loadA_own ag_142 rfl (K.m0) rfl) rfl ?_
  try dsimp only [setd, setn, ev, nth, over, cl, eI, eP, eT, List.map, List.append, List.drop, List.take]
  refine K.seq_st (K.store_all sz_142 rfl rfl rfl rfl (K.rp0)) rfl ?_
  try dsimp only [setd, setn, ev, nth, over, cl, eI, eP, eT, List.map, List.append, List.drop, List.take]
  refine K.seq_nil ?_
  refine K.norm_then ?_
  refine K.ret ?_
  refine K.end_ret (fun w hw => K.res_c rfl rfl (K.run_cellA ag_142 rfl (K.m0) rfl w hw)) ?_
  exact K.gives rfl

set_option maxRecDepth 100000 in
theorem e58 {kind base most : Int} {A B : Option Addr} {c d : Nat} {hs : List Int} {rs : List (Int × Int)} {l : List (Int × Int)} {C : Option Addr} {cc : Nat} {w : World} (hH : K.Rd w A 1 K.eI hs) (hR : K.Rd w B 2 K.eP rs) (hn : hs.length ≤ 4611686018427387904) (hm : rs.length ≤ 4611686018427387904) (he : (chk kind base most hs rs).2.2 ≠ 0) :
    Calls Tryz.prog 44 [.agg #[.int .i64 kind, .int .i64 base, .int .i64 most, .slice A hs.length c, .slice B rs.length d], .slice C l.length cc].toArray w (K.Gives (.tuple #[.agg #[.int .i64 0, .int .i64 0, .int .i64 0, .slice none 0 0, .slice none 0 0, .nilFunc], .int .i64 (chk kind base most hs rs).2.2]) w) := by
  refine K.enter (args := [.agg #[.int .i64 kind, .int .i64 base, .int .i64 most, .slice A hs.length c, .slice B rs.length d], .slice C l.length cc]) Tryz.func44 rfl (n := 27) rfl ?_
  simp only [List.replicate, List.cons_append, List.nil_append]
  refine K.seq ?_
  refine K.region_lit ?_
  refine K.seq_new (K.box) rfl ?_
  intro b2
  try dsimp only [setd, setn, ev, nth, over, cl, eI, eP, eT, List.map, List.append, List.drop, List.take]
  refine K.seq_new (K.alloc zr_99) rfl ?_
  intro b4
  try dsimp only [setd, setn, ev, nth, over, cl, eI, eP, eT, List.map, List.append, List.drop, List.take]
  refine K.seq_pure (K.assign) rfl ?_
  refine Rv.zn ?_
  refine K.seq_nil ?_
  refine K.norm_then ?_
  refine K.seq ?_
  refine K.seq ?_
  refine K.region_lit ?_
  refine K.seq_sil (K.loadA_own ag_38 rfl (K.m1) rfl) rfl ?_
  try dsimp only [setd, setn, ev, nth, over, cl, eI, eP, eT, List.map, List.append, List.drop, List.take]
  refine K.seq_call (K.call_g cal_60 (fun F w hF hw => c15 (hH.pass hw) (hR.pass hw) hn hm)) rfl ?_
  try dsimp only [setd, setn, ev, nth, over, cl, eI, eP, eT, List.map, List.append, List.drop, List.take]
  refine K.seq_pure (K.move) rfl ?_
  refine Rv.zn ?_
  refine K.seq_pure (K.extract rfl rfl) rfl ?_
  refine Rv.zn ?_
  refine K.seq_pure (K.extract rfl rfl) rfl ?_
  refine Rv.zn ?_
  refine K.seq_pure (K.extract rfl rfl) rfl ?_
  refine Rv.zn ?_
  refine K.seq_pure (K.assign) rfl ?_
  refine Rv.zn ?_
  refine K.seq_nil ?_
  refine K.norm_then ?_
  refine K.seq ?_
  refine K.region_lit ?_
  refine K.seq_pure (K.move) rfl ?_
  refine Rv.zn ?_
  refine K.seq_pure (K.neq rfl rfl) rfl ?_
  refine Rv.zn ?_
  refine K.seq_nil ?_
  refine K.norm_then ?_
  refine K.cond rfl (fun ht13 => ?_) (fun ht13 => ?_)
  · try replace ht13 := of_decide_eq_true ht13
    refine K.seq ?_
    refine K.region_lit ?_
    refine K.seq_sil (K.loadA_own ag_99 rfl (K.m0) rfl) rfl ?_
    try dsimp only [setd, setn, ev, nth, over, cl, eI, eP, eT, List.map, List.append, List.drop, List.take]
    refine K.seq_pure (K.move) rfl ?_
    refine Rv.zn ?_
    refine K.seq_st (K.store_all sz_99 rfl rfl rfl rfl (K.rp0)) rfl ?_
    try dsimp only [setd, setn, ev, nth, over, cl, eI, eP, eT, List.map, List.append, List.drop, List.take]
    refine K.seq_pure (K.assign) rfl ?_
    refine Rv.zn ?_
    refine K.seq_nil ?_
    refine K.norm_then ?_
    refine K.ret ?_
    refine K.ret_then ?_
    refine K.end_ret (fun w hw => K.res_ct rfl rfl (K.run_cellA ag_99 rfl (K.m0) rfl w hw)) ?_
    exact K.gives rfl
  try replace ht13 := of_decide_eq_false ht13
  exact absurd he ht13

set_option maxRecDepth 100000 in
theorem c58 {kind base most : Int} {A B : Option Addr} {c d : Nat} {hs : List Int} {rs : List (Int × Int)} {l : List (Int × Int)} {C : Option Addr} {cc : Nat} {w : World} (hH : K.Rd w A 1 K.eI hs) (hR : K.Rd w B 2 K.eP rs) (g : Good kind base most hs rs) (hS : K.Rd w C 2 K.eP l) (hl : l.length ≤ 4611686018427387904) :
    Calls Tryz.prog 44 [.agg #[.int .i64 kind, .int .i64 base, .int .i64 most, .slice A hs.length c, .slice B rs.length d], .slice C l.length cc].toArray w (K.Gives (.tuple #[.agg #[.int .i64 kind, .int .i64 base, .int .i64 most, .slice A hs.length c, .slice B rs.length d, .func (.func (110 + kind.toNat)) #[] #[]], .int .i64 (scsE l)]) w) := by
  have g1 := g.k
  have g2 := g.n
  have g3 := g.r
  have g4 := g.b
  have g5 := g.m
  refine K.enter (args := [.agg #[.int .i64 kind, .int .i64 base, .int .i64 most, .slice A hs.length c, .slice B rs.length d], .slice C l.length cc]) Tryz.func44 rfl (n := 27) rfl ?_
  simp only [List.replicate, List.cons_append, List.nil_append]
  refine K.seq ?_
  refine K.region_lit ?_
  refine K.seq_new (K.box) rfl ?_
  intro b2
  try dsimp only [setd, setn, ev, nth, over, cl, eI, eP, eT, List.map, List.append, List.drop, List.take]
  refine K.seq_new (K.alloc zr_99) rfl ?_
  intro b4
  try dsimp only [setd, setn, ev, nth, over, cl, eI, eP, eT, List.map, List.append, List.drop, List.take]
  refine K.seq_pure (K.assign) rfl ?_
  refine Rv.zn ?_
  refine K.seq_nil ?_
  refine K.norm_then ?_
  refine K.seq ?_
  refine K.seq ?_
  refine K.region_lit ?_
  refine K.seq_sil (K.loadA_own ag_38 rfl (K.m1) rfl) rfl ?_
  try dsimp only [setd, setn, ev, nth, over, cl, eI, eP, eT, List.map, List.append, List.drop, List.take]
  refine K.seq_call (K.call_g cal_60 (fun F w hF hw => c15 (hH.pass hw) (hR.pass hw) (by omega) (by omega))) rfl ?_
  try dsimp only [setd, setn, ev, nth, over, cl, eI, eP, eT, List.map, List.append, List.drop, List.take]
  refine K.seq_pure (K.move) rfl ?_
  refine Rv.zn ?_
  refine K.seq_pure (K.extract rfl rfl) rfl ?_
  refine Rv.zn ?_
  refine K.seq_pure (K.extract rfl rfl) rfl ?_
  refine Rv.zn ?_
  refine K.seq_pure (K.extract rfl rfl) rfl ?_
  refine Rv.zn ?_
  refine K.seq_pure (K.assign) rfl ?_
  refine Rv.zn ?_
  refine K.seq_nil ?_
  refine K.norm_then ?_
  refine K.seq ?_
  refine K.region_lit ?_
  refine K.seq_pure (K.move) rfl ?_
  refine Rv.zn ?_
  refine K.seq_pure (K.neq rfl rfl) rfl ?_
  refine Rv.zn ?_
  refine K.seq_nil ?_
  refine K.norm_then ?_
  refine K.cond rfl (fun ht13 => ?_) (fun ht13 => ?_)
  · try replace ht13 := of_decide_eq_true ht13
    exact absurd (by rw [g.chk]) ht13
  try replace ht13 := of_decide_eq_false ht13
  refine K.skip ?_
  refine K.norm_then ?_
  refine K.seq ?_
  refine K.region_lit ?_
  refine K.seq_pure (K.move) rfl ?_
  refine Rv.zn ?_
  refine K.seq_call (K.call_g cal_79 (fun F w hF hw => c85 (q := fun s : Int × Int => scE s.1 s.2) (cap := []) (hS.pass hw) hl cal_80 (fun x _ w1 _ => c86 w1))) rfl ?_
  try dsimp only [setd, setn, ev, nth, over, cl, eI, eP, eT, List.map, List.append, List.drop, List.take]
  refine K.seq_pure (K.move) rfl ?_
  refine Rv.zn ?_
  refine K.seq_pure (K.extract rfl rfl) rfl ?_
  refine Rv.zn ?_
  refine K.seq_pure (K.extract rfl rfl) rfl ?_
  refine Rv.zn ?_
  refine K.seq_pure (K.assign) rfl ?_
  refine Rv.zn ?_
  refine K.seq_nil ?_
  refine K.norm_then ?_
  refine K.seq ?_
  refine K.draw_L [8] Tryz_mixed ?_
  refine K.d_mem 0 rfl (K.loadA_own ag_38 rfl (K.m1) rfl) (fun _ h => h) (by kernel_rfl) (by kernel_rfl) rfl ?_
  try dsimp only [setd, setn, ev, nth, over, cl, eI, eP, eT, List.map, List.append, List.drop, List.take]
  refine K.d_pure 2 rfl (K.fieldAddr_lit fo_38_0 rfl) (by kernel_rfl) rfl ?_
  refine Rv.zn ?_
  refine K.d_mem 3 rfl (K.load1_own one_3 rfl (K.m1) rfl) (fun _ h => h) (by kernel_rfl) (by kernel_rfl) rfl ?_
  try dsimp only [setd, setn, ev, nth, over, cl, eI, eP, eT, List.map, List.append, List.drop, List.take]
  refine K.d_pure 4 rfl (K.sub_i64 rfl rfl (by omega)) (by kernel_rfl) rfl ?_
  refine Rv.zn ?_
  refine K.d_pure 7 rfl (K.move) (by kernel_rfl) rfl ?_
  refine Rv.zn ?_
  refine K.d_call 1 rfl (K.call_g cal_81 (fun F w hF hw => c87 w)) (fun _ h => h) (by kernel_rfl) rfl ?_
  try dsimp only [setd, setn, ev, nth, over, cl, eI, eP, eT, List.map, List.append, List.drop, List.take]
  refine K.d_pure 5 rfl (K.Pure.eq (K.index_arA ar_142 ag_97 rfl rfl (by omega) (by omega)) (rnd_ix g.k)) (by kernel_rfl) rfl ?_
  try dsimp only [setd, setn, ev, nth, over, cl, eI, eP, eT, List.map, List.append, List.drop, List.take]
  refine K.d_pure 6 rfl (K.build (bl97 _ _ _ _ _ _)) (by kernel_rfl) rfl ?_
  try dsimp only [setd, setn, ev, nth, over, cl, eI, eP, eT, List.map, List.append, List.drop, List.take]
  refine K.d_last 8 rfl (K.store_all sz_99 rfl rfl rfl rfl (K.rp0)) rfl (by kernel_rfl) rfl ?_
  intro _ _
  try dsimp only [setd, setn, ev, nth, over, cl, eI, eP, eT, List.map, List.append, List.drop, List.take]
  refine K.d_pure 9 rfl (K.assign) (by kernel_rfl) rfl ?_
  refine Rv.zn ?_
  refine K.d_done (by kernel_rfl) ?_
  refine K.norm_then ?_
  refine K.ret ?_
  refine K.end_ret (fun w hw => K.res_ct rfl rfl (K.run_cellA ag_99 rfl (K.m0) rfl w hw)) ?_
  exact K.gives (by rw [fst_scsE]; rfl)

set_option maxRecDepth 100000 in
theorem c60 {A : Option Addr} {c : Nat} {xs : List Int} {w : World} (hR : K.Rd w A 1 K.eI xs) (hn : xs.length ≤ 1000000) :
    Calls Tryz.prog 46 [.slice A xs.length c].toArray w (K.RetS 3 1 K.eI xs w) := by
  refine K.enter (args := [.slice A xs.length c]) Tryz.func46 rfl (n := 7) rfl ?_
  simp only [List.replicate, List.cons_append, List.nil_append]
  refine K.seq ?_
  refine K.region_lit ?_
  refine K.seq_pure (K.assign) rfl ?_
  refine Rv.zn ?_
  refine K.seq_nil ?_
  refine K.norm_then ?_
  refine K.seq ?_
  refine K.seq ?_
  refine K.region_lit ?_
  refine K.seq_pure (K.move) rfl ?_
  refine Rv.zn ?_
  refine K.seq_pure (K.eql_slnil sl_28 rfl) rfl ?_
  refine Rv.zn ?_
  refine K.seq_nil ?_
  refine K.norm_then ?_
  refine K.cond rfl (fun ht4 => ?_) (fun ht4 => ?_)
  · try replace ht4 := of_decide_eq_true ht4
    refine K.seq ?_
    refine K.region_lit ?_
    refine K.seq_pure (K.assign) rfl ?_
    refine Rv.zn ?_
    refine K.seq_nil ?_
    refine K.norm_then ?_
    refine K.ret ?_
    refine K.ret_then ?_
    refine K.end_ret (fun w _ => K.res_tmp rfl w) ?_
    cases A with
    | some a => cases ht4
    | none => exact K.rets_s0 (K.Rd.isNil hR) rfl
  try replace ht4 := of_decide_eq_false ht4
  refine K.skip ?_
  refine K.norm_then ?_
  refine K.seq ?_
  refine K.region_lit ?_
  refine K.seq_new (K.buildSlice (bs0)) rfl ?_
  intro b5
  try dsimp only [setd, setn, ev, nth, over, cl, eI, eP, eT, List.map, List.append, List.drop, List.take]
  refine K.seq_pure (K.move) rfl ?_
  refine Rv.zn ?_
  refine K.blk_row0 (size := 1) ?_
  refine K.seq_upd (K.appendS el_28 rfl rfl hR.sl (fun _ => rfl) (K.oneI _) (by omega) (by omega) (fun _ _ => K.rp0)) rfl ?_
  rintro ⟨A7, c7⟩ _
  try dsimp only [setd, setn, ev, nth, over, cl, eI, eP, eT, List.map, List.append, List.drop, List.take]
  refine K.seq_pure (K.assign) rfl ?_
  refine Rv.zn ?_
  refine K.seq_nil ?_
  refine K.norm_then ?_
  refine K.ret ?_
  refine K.end_ret (fun w _ => K.res_tmp rfl w) ?_
  exact K.rets_s (List.Mem.head _) (by omega) (List.nil_append _) rfl

set_option maxRecDepth 100000 in
theorem c88 {kind base most : Int} {A B : Option Addr} {c d : Nat} {hs : List Int} {rs : List (Int × Int)} {r : Int × Int} {cs : List Int} {w : World} (hH : K.Rd w A 1 K.eI hs) (hr : 0 ≤ r.1 ∧ r.1 < hs.length ∧ 0 ≤ r.2 ∧ r.2 < hs.length) (h8 : hs.length ≤ 8) (hb : Bd 0 9000 hs) (hc : Bd 0 270001 cs) :
    Calls Tryz.prog 83 [.agg #[.int .i64 kind, .int .i64 base, .int .i64 most, .slice A hs.length c, .slice B rs.length d, .func (.func (110 + kind.toNat)) #[] #[]], .agg #[.int .i64 r.1, .int .i64 r.2], .agg (a8 cs).toArray].toArray w (K.Gives (.tuple #[.int .i64 (riseS hs r), .int .i64 (riseS cs r)]) w) := by
  refine K.enter (args := [.agg #[.int .i64 kind, .int .i64 base, .int .i64 most, .slice A hs.length c, .slice B rs.length d, .func (.func (110 + kind.toNat)) #[] #[]], .agg #[.int .i64 r.1, .int .i64 r.2], .agg (a8 cs).toArray]) Tryz.func83 rfl (n := 29) rfl ?_
  simp only [List.replicate, List.cons_append, List.nil_append]
  refine K.seq ?_
  refine K.region_lit ?_
  refine K.seq_new (K.box) rfl ?_
  intro b3
  try dsimp only [setd, setn, ev, nth, over, cl, eI, eP, eT, List.map, List.append, List.drop, List.take]
  refine K.seq_new (K.box) rfl ?_
  intro b4
  try dsimp only [setd, setn, ev, nth, over, cl, eI, eP, eT, List.map, List.append, List.drop, List.take]
  refine K.seq_new (K.box) rfl ?_
  intro b5
  try dsimp only [setd, setn, ev, nth, over, cl, eI, eP, eT, List.map, List.append, List.drop, List.take]
  refine K.seq_pure (K.assign) rfl ?_
  refine Rv.zn ?_
  refine K.seq_pure (K.assign) rfl ?_
  refine Rv.zn ?_
  refine K.seq_nil ?_
  refine K.norm_then ?_
  refine K.seq ?_
  have q1 := hb r.1.toNat
  have q2 := hb r.2.toNat
  have q3 := hc r.1.toNat
  have q4 := hc r.2.toNat
  refine K.draw_L [] Tryz_mixed ?_
  refine K.d_pure 0 rfl (K.fieldAddr_lit fo_99_0 rfl) (by kernel_rfl) rfl ?_
  refine Rv.zn ?_
  refine K.d_pure 1 rfl (K.fieldAddr_lit fo_38_3 rfl) (by kernel_rfl) rfl ?_
  refine Rv.zn ?_
  refine K.d_mem 2 rfl (K.load1_own one_28 rfl (K.m2) rfl) (fun _ h => h) (by kernel_rfl) (by kernel_rfl) rfl ?_
  try dsimp only [setd, setn, ev, nth, over, cl, eI, eP, eT, List.map, List.append, List.drop, List.take]
  refine K.d_pure 3 rfl (K.fieldAddr_lit fo_94_1 rfl) (by kernel_rfl) rfl ?_
  refine Rv.zn ?_
  refine K.d_mem 4 rfl (K.load1_own one_3 rfl (K.m1) rfl) (fun _ h => h) (by kernel_rfl) (by kernel_rfl) rfl ?_
  try dsimp only [setd, setn, ev, nth, over, cl, eI, eP, eT, List.map, List.append, List.drop, List.take]
  refine K.d_ix (M := []) 5 r.2.toNat rfl hH.sl sl_28 rfl rfl (by omega) (by omega) (by kernel_rfl) rfl ?_
  intro p13 hp13
  try dsimp only [setd, setn, ev, nth, over, cl, eI, eP, eT, List.map, List.append, List.drop, List.take]
  refine K.d_mem 6 rfl (K.load1 one_3 rfl (hp13.any)) (fun _ h => h) (by kernel_rfl) (by kernel_rfl) rfl ?_
  try dsimp only [setd, setn, ev, nth, over, cl, eI, eP, eT, List.map, List.append, List.drop, List.take]
  refine K.d_pure 7 rfl (K.fieldAddr_lit fo_99_0 rfl) (by kernel_rfl) rfl ?_
  refine Rv.zn ?_
  refine K.d_pure 8 rfl (K.fieldAddr_lit fo_38_3 rfl) (by kernel_rfl) rfl ?_
  refine Rv.zn ?_
  refine K.d_mem 9 rfl (K.load1_own one_28 rfl (K.m2) rfl) (fun _ h => h) (by kernel_rfl) (by kernel_rfl) rfl ?_
  try dsimp only [setd, setn, ev, nth, over, cl, eI, eP, eT, List.map, List.append, List.drop, List.take]
  refine K.d_pure 10 rfl (K.fieldAddr_lit fo_94_0 rfl) (by kernel_rfl) rfl ?_
  refine Rv.zn ?_
  refine K.d_mem 11 rfl (K.load1_own one_3 rfl (K.m1) rfl) (fun _ h => h) (by kernel_rfl) (by kernel_rfl) rfl ?_
  try dsimp only [setd, setn, ev, nth, over, cl, eI, eP, eT, List.map, List.append, List.drop, List.take]
  refine K.d_ix (M := []) 12 r.1.toNat rfl hH.sl sl_28 rfl rfl (by omega) (by omega) (by kernel_rfl) rfl ?_
  intro p20 hp20
  try dsimp only [setd, setn, ev, nth, over, cl, eI, eP, eT, List.map, List.append, List.drop, List.take]
  refine K.d_mem 13 rfl (K.load1 one_3 rfl (hp20.any)) (fun _ h => h) (by kernel_rfl) (by kernel_rfl) rfl ?_
  try dsimp only [setd, setn, ev, nth, over, cl, eI, eP, eT, List.map, List.append, List.drop, List.take]
  refine K.d_pure 14 rfl (K.sub_i64 rfl rfl (by omega)) (by kernel_rfl) rfl ?_
  refine Rv.zn ?_
  refine K.d_pure 15 rfl (K.fieldAddr_lit fo_94_1 rfl) (by kernel_rfl) rfl ?_
  refine Rv.zn ?_
  refine K.d_mem 16 rfl (K.load1_own one_3 rfl (K.m1) rfl) (fun _ h => h) (by kernel_rfl) (by kernel_rfl) rfl ?_
  try dsimp only [setd, setn, ev, nth, over, cl, eI, eP, eT, List.map, List.append, List.drop, List.take]
  refine K.d_pure 17 rfl (K.indexAddr_ar ar_103 rfl rfl (by omega) (by omega)) (by kernel_rfl) rfl ?_
  try dsimp only [setd, setn, ev, nth, over, cl, eI, eP, eT, List.map, List.append, List.drop, List.take]
  refine K.d_mem 18 rfl (load8 one_3 rfl (K.m0) (by omega) (by omega)) (fun _ h => h) (by kernel_rfl) (by kernel_rfl) rfl ?_
  try dsimp only [setd, setn, ev, nth, over, cl, eI, eP, eT, List.map, List.append, List.drop, List.take]
  refine K.d_pure 19 rfl (K.fieldAddr_lit fo_94_0 rfl) (by kernel_rfl) rfl ?_
  refine Rv.zn ?_
  refine K.d_mem 20 rfl (K.load1_own one_3 rfl (K.m1) rfl) (fun _ h => h) (by kernel_rfl) (by kernel_rfl) rfl ?_
  try dsimp only [setd, setn, ev, nth, over, cl, eI, eP, eT, List.map, List.append, List.drop, List.take]
  refine K.d_pure 21 rfl (K.indexAddr_ar ar_103 rfl rfl (by omega) (by omega)) (by kernel_rfl) rfl ?_
  try dsimp only [setd, setn, ev, nth, over, cl, eI, eP, eT, List.map, List.append, List.drop, List.take]
  refine K.d_mem 22 rfl (load8 one_3 rfl (K.m0) (by omega) (by omega)) (fun _ h => h) (by kernel_rfl) (by kernel_rfl) rfl ?_
  try dsimp only [setd, setn, ev, nth, over, cl, eI, eP, eT, List.map, List.append, List.drop, List.take]
  refine K.d_pure 23 rfl (K.sub_i64 rfl rfl (by omega)) (by kernel_rfl) rfl ?_
  refine Rv.zn ?_
  refine K.d_pure 24 rfl (K.assign) (by kernel_rfl) rfl ?_
  refine Rv.zn ?_
  refine K.d_pure 25 rfl (K.assign) (by kernel_rfl) rfl ?_
  refine Rv.zn ?_
  refine K.d_done (by kernel_rfl) ?_
  refine K.norm_then ?_
  refine K.ret ?_
  refine K.end_ret (fun w _ => K.res_tmp2 rfl w) ?_
  exact K.gives rfl

end Go.Proofs.YtekkpcpbnonkaaaGreatDoor.Sc
end
section
set_option linter.unusedSimpArgs false
set_option linter.unusedVariables false
namespace Go.Proofs.YtekkpcpbnonkaaaGreatDoor.Sc
open Go.RowKit Go
open Go.K (setd setn ev nth over cl eI eP eT setM setF)
attribute [local irreducible] K.blk K.row

set_option maxRecDepth 100000 in
theorem c59 {kind base most : Int} {A B : Option Addr} {c d : Nat} {hs : List Int} {rs : List (Int × Int)} {u v : Int} {w : World} (hH : K.Rd w A 1 K.eI hs) (g : Good kind base most hs rs) (hp : Parts u v) :
    Calls Tryz.prog 45 [.agg #[.int .i64 kind, .int .i64 base, .int .i64 most, .slice A hs.length c, .slice B rs.length d, .func (.func (110 + kind.toNat)) #[] #[]], .agg #[.int .i64 u, .int .i64 v]].toArray w (K.Gives (.tuple #[.agg (a8 (cuts kind base u v hs)).toArray, .bool (fitB most (cuts kind base u v hs))]) w) := by
  have g1 := g.k
  have g2 := g.n
  have g3 := g.r
  have g4 := g.b
  have g5 := g.m
  refine K.enter (args := [.agg #[.int .i64 kind, .int .i64 base, .int .i64 most, .slice A hs.length c, .slice B rs.length d, .func (.func (110 + kind.toNat)) #[] #[]], .agg #[.int .i64 u, .int .i64 v]]) Tryz.func45 rfl (n := 44) rfl ?_
  simp only [List.replicate, List.cons_append, List.nil_append]
  refine K.seq ?_
  refine K.region_lit ?_
  refine K.seq_new (K.box) rfl ?_
  intro b2
  try dsimp only [setd, setn, ev, nth, over, cl, eI, eP, eT, List.map, List.append, List.drop, List.take]
  refine K.seq_new (K.box) rfl ?_
  intro b3
  try dsimp only [setd, setn, ev, nth, over, cl, eI, eP, eT, List.map, List.append, List.drop, List.take]
  refine K.seq_new (K.alloc zr_103) rfl ?_
  intro b4
  try dsimp only [setd, setn, ev, nth, over, cl, eI, eP, eT, List.map, List.append, List.drop, List.take]
  refine K.seq_pure (K.assign) rfl ?_
  refine Rv.zn ?_
  refine K.seq_nil ?_
  refine K.norm_then ?_
  refine K.seq ?_
  refine K.region_lit ?_
  refine K.seq_pure (K.assign) rfl ?_
  refine Rv.zn ?_
  refine K.seq_nil ?_
  refine K.norm_then ?_
  refine K.seq ?_
  refine K.seq ?_
  refine K.region_lit ?_
  refine K.seq_pure (K.fieldAddr_lit fo_99_0 rfl) rfl ?_
  refine Rv.zn ?_
  refine K.seq_pure (K.fieldAddr_lit fo_38_3 rfl) rfl ?_
  refine Rv.zn ?_
  refine K.seq_sil (K.load1_own one_28 rfl (K.m2) rfl) rfl ?_
  try dsimp only [setd, setn, ev, nth, over, cl, eI, eP, eT, List.map, List.append, List.drop, List.take]
  refine K.seq_pure (K.len_sl sl_28 rfl) rfl ?_
  refine Rv.zn ?_
  refine K.seq_pure (K.move) rfl ?_
  refine Rv.zn ?_
  refine K.seq_nil ?_
  refine K.norm_then ?_
  refine K.block ?_
  refine K.loopW [5, 12] [6, 7, 13, 14, 15, 16, 17, 18, 19, 20, 21, 22, 23, 24, 25, 26, 27, 28, 29, 30, 31, 32, 33, 34, 35, 36, 37, 38, 39, 40, 41, 42, 43] (fun vi L => ∃ (k : Nat) (fb : Bool) (ys : List Value), vi = [.bool fb, .int .i64 (k : Int)] ∧ L = [K.blk b4 103 ys, K.blk b3 42 [.int .i64 u, .int .i64 v], K.blk b2 99 [.int .i64 kind, .int .i64 base, .int .i64 most, .slice A hs.length c, .slice B rs.length d, .func (.func (110 + kind.toNat)) #[] #[]]] ∧ fb = fitB most ((hs.take k).map (ct kind base u v)) ∧ ys = a8 ((hs.take k).map (ct kind base u v)) ∧ k ≤ hs.length) (fun vi => hs.length - (intOf (K.nth vi 1)).toNat) ?_ ?_
  · exact ⟨0, true, _, rfl, rfl, rfl, a8_nil.symm, Nat.zero_le _⟩
  intro vi vr L hJ
  obtain ⟨k, fb, ys, rfl, rfl, hfb, hys, hkn⟩ := hJ
  try dsimp only [setd, setn, ev, nth, over, cl, eI, eP, eT, setM, setF, List.map, List.append, List.drop, List.take]
  refine K.seq ?_
  refine K.region_lit ?_
  refine K.seq_pure (K.lss rfl rfl) rfl ?_
  refine Rv.zn ?_
  refine K.seq_nil ?_
  refine K.norm_then ?_
  refine K.seq ?_
  refine K.cond rfl (fun ht13 => ?_) (fun ht13 => ?_)
  · try replace ht13 := of_decide_eq_true ht13
    have hk : k < hs.length := by omega
    refine K.skip ?_
    refine K.norm_then ?_
    refine K.seq ?_
    refine K.block ?_
    refine K.seq ?_
    refine K.region_lit ?_
    refine K.seq_pure (K.move) rfl ?_
    refine Rv.zn ?_
    refine K.seq_ix (M := []) _ hH.sl sl_28 rfl rfl rfl (by omega) rfl ?_
    intro p15 hp15
    try dsimp only [setd, setn, ev, nth, over, cl, eI, eP, eT, List.map, List.append, List.drop, List.take]
    refine K.seq_sil (K.load1 one_3 rfl (hp15.any)) rfl ?_
    try dsimp only [setd, setn, ev, nth, over, cl, eI, eP, eT, List.map, List.append, List.drop, List.take]
    refine K.seq_pure (K.assign) rfl ?_
    refine Rv.zn ?_
    refine K.seq_pure (K.assign) rfl ?_
    refine Rv.zn ?_
    refine K.seq_nil ?_
    refine K.norm_then ?_
    refine K.seq ?_
    have hg := g.at hk
    have hm := mul_bd (show 0 ≤ hs.getD k default - base by omega) (show hs.getD k default - base ≤ 9000 by omega) (show 0 ≤ u by omega) (show u ≤ 30 by omega)
    refine K.region_lit ?_
    refine K.seq_pure (K.move) rfl ?_
    refine Rv.zn ?_
    refine K.seq_pure (K.fieldAddr_lit fo_99_1 rfl) rfl ?_
    refine Rv.zn ?_
    refine K.seq_pure (K.fieldAddr_lit fo_97_0 rfl) rfl ?_
    refine Rv.zn ?_
    refine K.seq_sil (K.load1_own one_95 rfl (K.m2) rfl) rfl ?_
    try dsimp only [setd, setn, ev, nth, over, cl, eI, eP, eT, List.map, List.append, List.drop, List.take]
    refine K.seq_pure (K.move) rfl ?_
    refine Rv.zn ?_
    refine K.seq_pure (K.fieldAddr_lit fo_99_0 rfl) rfl ?_
    refine Rv.zn ?_
    refine K.seq_pure (K.fieldAddr_lit fo_38_1 rfl) rfl ?_
    refine Rv.zn ?_
    refine K.seq_sil (K.load1_own one_3 rfl (K.m2) rfl) rfl ?_
    try dsimp only [setd, setn, ev, nth, over, cl, eI, eP, eT, List.map, List.append, List.drop, List.take]
    refine K.seq_pure (K.sub_i64 rfl rfl (by omega)) rfl ?_
    refine Rv.zn ?_
    refine K.seq_pure (K.fieldAddr_lit fo_42_0 rfl) rfl ?_
    refine Rv.zn ?_
    refine K.seq_sil (K.load1_own one_3 rfl (K.m1) rfl) rfl ?_
    try dsimp only [setd, setn, ev, nth, over, cl, eI, eP, eT, List.map, List.append, List.drop, List.take]
    refine K.seq_pure (K.mul_i64 rfl rfl (by omega)) rfl ?_
    refine Rv.zn ?_
    refine K.seq_pure (K.fieldAddr_lit fo_42_1 rfl) rfl ?_
    refine Rv.zn ?_
    refine K.seq_sil (K.load1_own one_3 rfl (K.m1) rfl) rfl ?_
    try dsimp only [setd, setn, ev, nth, over, cl, eI, eP, eT, List.map, List.append, List.drop, List.take]
    refine K.seq_call (K.callv_g (first := []) (cap := []) rfl (cal_r g.k) (fun F w1 _ hw => cRound g.k (by omega) (by omega) hp w1)) rfl ?_
    try dsimp only [setd, setn, ev, nth, over, cl, eI, eP, eT, List.map, List.append, List.drop, List.take]
    refine K.seq_pure (K.indexAddr_ar ar_103 rfl rfl (by omega) (by omega)) rfl ?_
    try dsimp only [setd, setn, ev, nth, over, cl, eI, eP, eT, List.map, List.append, List.drop, List.take]
    refine K.seq_st (K.store_ix sz_3 rfl rfl (by rw [hys, a8_len]; omega) rfl (K.Rep.here)) rfl ?_
    try dsimp only [setd, setn, ev, nth, over, cl, eI, eP, eT, List.map, List.append, List.drop, List.take]
    subst hys
    rw [a8_over (xs := ((hs.take k).map (ct kind base u v))) (by simp; omega) (by simp; omega)]
    try dsimp only [setd, setn, ev, nth, over, cl, eI, eP, eT, List.map, List.append, List.drop, List.take]
    refine K.seq_nil ?_
    refine K.norm_then ?_
    refine K.draw_L [] Tryz_mixed ?_
    refine K.d_pure 0 rfl (K.move) (by kernel_rfl) rfl ?_
    refine Rv.zn ?_
    refine K.d_pure 1 rfl (K.move) (by kernel_rfl) rfl ?_
    refine Rv.zn ?_
    refine K.dsplit 34 rfl (fun hg34 => ?_) (fun hg34 => ?_)
    · try replace hg34 := of_decide_eq_true hg34
      refine K.d_pure 2 rfl (K.move) (by kernel_rfl) rfl ?_
      refine Rv.zn ?_
      refine K.d_pure 3 rfl (K.indexAddr_ar ar_103 rfl rfl (by omega) (by omega)) (by kernel_rfl) rfl ?_
      try dsimp only [setd, setn, ev, nth, over, cl, eI, eP, eT, List.map, List.append, List.drop, List.take]
      refine K.d_mem 4 rfl (load8 one_3 rfl (K.m0) (by omega) (by omega)) (fun _ h => h) (by kernel_rfl) (by kernel_rfl) rfl ?_
      try dsimp only [setd, setn, ev, nth, over, cl, eI, eP, eT, List.map, List.append, List.drop, List.take]
      refine K.d_pure 5 rfl (K.fieldAddr_lit fo_99_0 rfl) (by kernel_rfl) rfl ?_
      refine Rv.zn ?_
      refine K.d_pure 6 rfl (K.fieldAddr_lit fo_38_2 rfl) (by kernel_rfl) rfl ?_
      refine Rv.zn ?_
      refine K.d_mem 7 rfl (K.load1_own one_3 rfl (K.m2) rfl) (fun _ h => h) (by kernel_rfl) (by kernel_rfl) rfl ?_
      try dsimp only [setd, setn, ev, nth, over, cl, eI, eP, eT, List.map, List.append, List.drop, List.take]
      refine K.d_pure 8 rfl (K.leq rfl rfl) (by kernel_rfl) rfl ?_
      refine Rv.zn ?_
      refine K.d_pure 9 rfl (K.pick_t rfl) (by kernel_rfl) rfl ?_
      refine Rv.zn ?_
      refine K.d_pure 10 rfl (K.assign) (by kernel_rfl) rfl ?_
      refine Rv.zn ?_
      refine K.d_done (by kernel_rfl) ?_
      refine K.norm_block ?_
      refine K.norm_then ?_
      refine K.region_lit ?_
      refine K.seq_pure (K.add_i64 rfl rfl (by omega)) rfl ?_
      refine Rv.zn ?_
      refine K.seq_pure (K.move) rfl ?_
      refine Rv.zn ?_
      refine K.seq_nil ?_
      have hx : (((hs.take k).map (ct kind base u v)) ++ [ct kind base u v (hs.getD k default)]).getD (Int.toNat (k : Int)) default = ct kind base u v (hs.getD k default) := snoc_at (by simp; omega)
      exact K.round_endW [.bool (decide ((((hs.take k).map (ct kind base u v)) ++ [ct kind base u v (hs.getD k default)]).getD (Int.toNat (k : Int)) default ≤ most)), .int .i64 ((k : Int) + 1)] ⟨k + 1, _, _, rfl, rfl, by rw [take_succ_map _ hk, fitB_snoc, ← hfb, hg34]; first | rfl | (rw [hx]; rfl), by rw [take_succ_map _ hk], by omega⟩ (by simp [K.nth, intOf]; omega) (by repeat (first | exact List.Sublist.refl _ | apply List.Sublist.cons)) (by kernel_rfl)
    try replace hg34 := of_decide_eq_false hg34
    refine K.d_skip 2 rfl (by kernel_rfl) rfl ?_
    try dsimp only [setd, setn, ev, nth, over, cl, eI, eP, eT, List.map, List.append, List.drop, List.take]
    refine K.d_skip 3 rfl (by kernel_rfl) rfl ?_
    try dsimp only [setd, setn, ev, nth, over, cl, eI, eP, eT, List.map, List.append, List.drop, List.take]
    refine K.d_skip 4 rfl (by kernel_rfl) rfl ?_
    try dsimp only [setd, setn, ev, nth, over, cl, eI, eP, eT, List.map, List.append, List.drop, List.take]
    refine K.d_skip 5 rfl (by kernel_rfl) rfl ?_
    try dsimp only [setd, setn, ev, nth, over, cl, eI, eP, eT, List.map, List.append, List.drop, List.take]
    refine K.d_skip 6 rfl (by kernel_rfl) rfl ?_
    try dsimp only [setd, setn, ev, nth, over, cl, eI, eP, eT, List.map, List.append, List.drop, List.take]
    refine K.d_skip 7 rfl (by kernel_rfl) rfl ?_
    try dsimp only [setd, setn, ev, nth, over, cl, eI, eP, eT, List.map, List.append, List.drop, List.take]
    refine K.d_skip 8 rfl (by kernel_rfl) rfl ?_
    try dsimp only [setd, setn, ev, nth, over, cl, eI, eP, eT, List.map, List.append, List.drop, List.take]
    refine K.d_pure 9 rfl (K.pick_f rfl) (by kernel_rfl) rfl ?_
    refine Rv.zn ?_
    refine K.d_pure 10 rfl (K.assign) (by kernel_rfl) rfl ?_
    refine Rv.zn ?_
    refine K.d_done (by kernel_rfl) ?_
    refine K.norm_block ?_
    refine K.norm_then ?_
    refine K.region_lit ?_
    refine K.seq_pure (K.add_i64 rfl rfl (by omega)) rfl ?_
    refine Rv.zn ?_
    refine K.seq_pure (K.move) rfl ?_
    refine Rv.zn ?_
    refine K.seq_nil ?_
    have hx : (((hs.take k).map (ct kind base u v)) ++ [ct kind base u v (hs.getD k default)]).getD (Int.toNat (k : Int)) default = ct kind base u v (hs.getD k default) := snoc_at (by simp; omega)
    exact K.round_endW [.bool (false), .int .i64 ((k : Int) + 1)] ⟨k + 1, _, _, rfl, rfl, by rw [take_succ_map _ hk, fitB_snoc, ← hfb, hg34]; first | rfl | (rw [hx]; rfl), by rw [take_succ_map _ hk], by omega⟩ (by simp [K.nth, intOf]; omega) (by repeat (first | exact List.Sublist.refl _ | apply List.Sublist.cons)) (by kernel_rfl)
  try replace ht13 := of_decide_eq_false ht13
  refine K.exit ?_
  refine K.exit_then ?_
  refine K.exit_then ?_
  refine K.exit_here ?_
  refine K.norm_then ?_
  refine K.seq ?_
  subst hys
  refine K.region_lit ?_
  refine K.seq_sil (K.loadA_own ag_103 rfl (K.m0) rfl) rfl ?_
  try dsimp only [setd, setn, ev, nth, over, cl, eI, eP, eT, List.map, List.append, List.drop, List.take]
  refine K.seq_pure (K.move) rfl ?_
  refine Rv.zn ?_
  refine K.seq_st (K.store_all sz_103 rfl rfl rfl rfl (K.rp0)) rfl ?_
  try dsimp only [setd, setn, ev, nth, over, cl, eI, eP, eT, List.map, List.append, List.drop, List.take]
  refine K.seq_pure (K.assign) rfl ?_
  refine Rv.zn ?_
  refine K.seq_nil ?_
  refine K.norm_then ?_
  refine K.ret ?_
  refine K.end_ret (fun w hw => K.res_ct rfl rfl (K.run_cellA ag_103 rfl (K.m0) rfl w hw)) ?_
  exact K.gives (by rw [hfb, take_all (xs := hs) (by omega)]; rfl)

set_option maxRecDepth 100000 in
theorem c62 {kind base most : Int} {A B : Option Addr} {c d : Nat} {hs : List Int} {rs : List (Int × Int)} {r : Int × Int} {cs : List Int} {u v : Int} {w : World} (hH : K.Rd w A 1 K.eI hs) (hr : 0 ≤ r.1 ∧ r.1 < hs.length ∧ 0 ≤ r.2 ∧ r.2 < hs.length) (h8 : hs.length ≤ 8) (hb : Bd 0 9000 hs) (hc : Bd 0 270001 cs) (hp : Parts u v) :
    Calls Tryz.prog 51 [.agg #[.int .i64 kind, .int .i64 base, .int .i64 most, .slice A hs.length c, .slice B rs.length d, .func (.func (110 + kind.toNat)) #[] #[]], .agg #[.int .i64 r.1, .int .i64 r.2], .agg #[.int .i64 u, .int .i64 v], .agg (a8 cs).toArray].toArray w (K.Gives (.int .i64 (offS u v (riseS hs r) (riseS cs r))) w) := by
  have q1 := hb r.1.toNat
  have q2 := hb r.2.toNat
  have q3 := hc r.1.toNat
  have q4 := hc r.2.toNat
  have q5 : -9000 ≤ riseS hs r ∧ riseS hs r ≤ 9000 := by unfold riseS; omega
  have q6 : -270001 ≤ riseS cs r ∧ riseS cs r ≤ 270001 := by unfold riseS; omega
  have q7 := mulb (A := 30) (show 0 ≤ v ∧ v ≤ 30 by omega) q6
  have q8 := mulb (A := 30) (show 0 ≤ u ∧ u ≤ 30 by omega) q5
  refine K.enter (args := [.agg #[.int .i64 kind, .int .i64 base, .int .i64 most, .slice A hs.length c, .slice B rs.length d, .func (.func (110 + kind.toNat)) #[] #[]], .agg #[.int .i64 r.1, .int .i64 r.2], .agg #[.int .i64 u, .int .i64 v], .agg (a8 cs).toArray]) Tryz.func51 rfl (n := 44) rfl ?_
  simp only [List.replicate, List.cons_append, List.nil_append]
  refine K.seq ?_
  refine K.region_lit ?_
  refine K.seq_new (K.box) rfl ?_
  intro b4
  try dsimp only [setd, setn, ev, nth, over, cl, eI, eP, eT, List.map, List.append, List.drop, List.take]
  refine K.seq_new (K.box) rfl ?_
  intro b5
  try dsimp only [setd, setn, ev, nth, over, cl, eI, eP, eT, List.map, List.append, List.drop, List.take]
  refine K.seq_new (K.box) rfl ?_
  intro b6
  try dsimp only [setd, setn, ev, nth, over, cl, eI, eP, eT, List.map, List.append, List.drop, List.take]
  refine K.seq_new (K.box) rfl ?_
  intro b7
  try dsimp only [setd, setn, ev, nth, over, cl, eI, eP, eT, List.map, List.append, List.drop, List.take]
  refine K.seq_pure (K.assign) rfl ?_
  refine Rv.zn ?_
  refine K.seq_nil ?_
  refine K.norm_then ?_
  refine K.seq ?_
  refine K.region_lit ?_
  refine K.seq_sil (K.loadA_own ag_99 rfl (K.m3) rfl) rfl ?_
  try dsimp only [setd, setn, ev, nth, over, cl, eI, eP, eT, List.map, List.append, List.drop, List.take]
  refine K.seq_sil (K.loadA_own ag_94 rfl (K.m2) rfl) rfl ?_
  try dsimp only [setd, setn, ev, nth, over, cl, eI, eP, eT, List.map, List.append, List.drop, List.take]
  refine K.seq_sil (K.loadA_own ag_103 rfl ((K.m0)) (by rw [a8_len]; rfl)) rfl ?_
  try dsimp only [setd, setn, ev, nth, over, cl, eI, eP, eT, List.map, List.append, List.drop, List.take]
  refine K.seq_call (K.call_g cal_83 (fun F w hF hw => c88 (r := r) (cs := cs) (hH.pass hw) hr h8 hb hc)) rfl ?_
  try dsimp only [setd, setn, ev, nth, over, cl, eI, eP, eT, List.map, List.append, List.drop, List.take]
  refine K.seq_pure (K.move) rfl ?_
  refine Rv.zn ?_
  refine K.seq_pure (K.extract rfl rfl) rfl ?_
  refine Rv.zn ?_
  refine K.seq_pure (K.extract rfl rfl) rfl ?_
  refine Rv.zn ?_
  refine K.seq_pure (K.assign) rfl ?_
  refine Rv.zn ?_
  refine K.seq_pure (K.assign) rfl ?_
  refine Rv.zn ?_
  refine K.seq_nil ?_
  refine K.norm_then ?_
  refine K.seq ?_
  refine K.seq ?_
  refine K.region_lit ?_
  refine K.seq_pure (K.move) rfl ?_
  refine Rv.zn ?_
  refine K.seq_pure (K.eql rfl rfl) rfl ?_
  refine Rv.zn ?_
  refine K.seq_nil ?_
  refine K.norm_then ?_
  refine K.cond rfl (fun ht21 => ?_) (fun ht21 => ?_)
  · try replace ht21 := of_decide_eq_true ht21
    refine K.seq ?_
    refine K.region_lit ?_
    refine K.seq_pure (K.assign) rfl ?_
    refine Rv.zn ?_
    refine K.seq_nil ?_
    refine K.norm_then ?_
    refine K.ret ?_
    refine K.ret_then ?_
    refine K.end_ret (fun w _ => K.res_tmp rfl w) ?_
    exact K.gives_i rfl (by unfold offS; rw [if_pos ht21])
  try replace ht21 := of_decide_eq_false ht21
  have q9 := mul_bd (A := 30) (B := 9000) (show 0 ≤ u by omega) (show u ≤ 30 by omega) (show 0 ≤ max (riseS hs r) (-(riseS hs r)) by omega) (show max (riseS hs r) (-(riseS hs r)) ≤ 9000 by omega)
  have q10 : 1 ≤ u * max (riseS hs r) (-(riseS hs r)) := Int.mul_pos (by omega) (by omega)
  refine K.skip ?_
  refine K.norm_then ?_
  refine K.seq ?_
  refine K.draw_L [] Tryz_mixed ?_
  refine K.d_pure 0 rfl (K.fieldAddr_lit fo_42_1 rfl) (by kernel_rfl) rfl ?_
  refine Rv.zn ?_
  refine K.d_mem 1 rfl (K.load1_own one_3 rfl (K.m1) rfl) (fun _ h => h) (by kernel_rfl) (by kernel_rfl) rfl ?_
  try dsimp only [setd, setn, ev, nth, over, cl, eI, eP, eT, List.map, List.append, List.drop, List.take]
  refine K.d_pure 2 rfl (K.move) (by kernel_rfl) rfl ?_
  refine Rv.zn ?_
  refine K.d_pure 3 rfl (K.mul_i64 rfl rfl (by omega)) (by kernel_rfl) rfl ?_
  refine Rv.zn ?_
  refine K.d_pure 4 rfl (K.fieldAddr_lit fo_42_0 rfl) (by kernel_rfl) rfl ?_
  refine Rv.zn ?_
  refine K.d_mem 5 rfl (K.load1_own one_3 rfl (K.m1) rfl) (fun _ h => h) (by kernel_rfl) (by kernel_rfl) rfl ?_
  try dsimp only [setd, setn, ev, nth, over, cl, eI, eP, eT, List.map, List.append, List.drop, List.take]
  refine K.d_pure 6 rfl (K.move) (by kernel_rfl) rfl ?_
  refine Rv.zn ?_
  refine K.d_pure 7 rfl (K.mul_i64 rfl rfl (by omega)) (by kernel_rfl) rfl ?_
  refine Rv.zn ?_
  refine K.d_pure 8 rfl (K.sub_i64 rfl rfl (by omega)) (by kernel_rfl) rfl ?_
  refine Rv.zn ?_
  refine K.d_pure 9 rfl (K.mul_i64 rfl rfl (by omega)) (by kernel_rfl) rfl ?_
  refine Rv.zn ?_
  refine K.d_pure 10 rfl (K.fieldAddr_lit fo_42_0 rfl) (by kernel_rfl) rfl ?_
  refine Rv.zn ?_
  refine K.d_mem 11 rfl (K.load1_own one_3 rfl (K.m1) rfl) (fun _ h => h) (by kernel_rfl) (by kernel_rfl) rfl ?_
  try dsimp only [setd, setn, ev, nth, over, cl, eI, eP, eT, List.map, List.append, List.drop, List.take]
  refine K.d_pure 12 rfl (K.move) (by kernel_rfl) rfl ?_
  refine Rv.zn ?_
  refine K.d_pure 13 rfl (K.move) (by kernel_rfl) rfl ?_
  refine Rv.zn ?_
  refine K.d_pure 14 rfl (K.neg_i64 rfl (by omega)) (by kernel_rfl) rfl ?_
  refine Rv.zn ?_
  refine K.d_pure 15 rfl (K.max_int rfl rfl) (by kernel_rfl) rfl ?_
  refine Rv.zn ?_
  refine K.d_pure 16 rfl (K.mul_i64 rfl rfl (by omega)) (by kernel_rfl) rfl ?_
  refine Rv.zn ?_
  refine K.d_pure 17 rfl (K.assign) (by kernel_rfl) rfl ?_
  refine Rv.zn ?_
  refine K.d_pure 18 rfl (K.assign) (by kernel_rfl) rfl ?_
  refine Rv.zn ?_
  refine K.d_done (by kernel_rfl) ?_
  refine K.norm_then ?_
  refine K.seq ?_
  refine K.region_lit ?_
  refine K.seq_pure (K.move) rfl ?_
  refine Rv.zn ?_
  refine K.seq_pure (K.move) rfl ?_
  refine Rv.zn ?_
  refine K.seq_pure (K.neg_i64 rfl (by omega)) rfl ?_
  refine Rv.zn ?_
  refine K.seq_pure (K.max_int rfl rfl) rfl ?_
  refine Rv.zn ?_
  refine K.seq_pure (K.move) rfl ?_
  refine Rv.zn ?_
  refine K.seq_pure (K.add_i64 rfl rfl (by omega)) rfl ?_
  refine Rv.zn ?_
  refine K.seq_pure (K.sub_i64 rfl rfl (by omega)) rfl ?_
  refine Rv.zn ?_
  refine K.seq_pure (K.move) rfl ?_
  refine Rv.zn ?_
  refine K.seq_pure (K.quo_i64 rfl rfl (by omega) (by omega) (by omega)) rfl ?_
  refine Rv.zn ?_
  refine K.seq_pure (K.assign) rfl ?_
  refine Rv.zn ?_
  refine K.seq_nil ?_
  refine K.norm_then ?_
  refine K.ret ?_
  refine K.end_ret (fun w _ => K.res_tmp rfl w) ?_
  exact K.gives_i rfl (by unfold offS; rw [if_neg ht21])

end Go.Proofs.YtekkpcpbnonkaaaGreatDoor.Sc
end
section
set_option linter.unusedSimpArgs false
set_option linter.unusedVariables false
namespace Go.Proofs.YtekkpcpbnonkaaaGreatDoor.Sc
open Go.RowKit Go
open Go.K (setd setn ev nth over cl eI eP eT setM setF)
attribute [local irreducible] K.blk K.row

set_option maxRecDepth 100000 in
theorem c64 {kind base most : Int} {A B : Option Addr} {c d : Nat} {hs : List Int} {rs : List (Int × Int)} {cs : List Int} {w : World} (hH : K.Rd w A 1 K.eI hs) (hR : K.Rd w B 2 K.eP rs) (h8 : hs.length ≤ 8) (hb : Bd 0 9000 hs) (hc : Bd 0 270001 cs) (hrd : ∀ i, i < rs.length → 0 ≤ (rs.getD i default).1 ∧ (rs.getD i default).1 < hs.length ∧ 0 ≤ (rs.getD i default).2 ∧ (rs.getD i default).2 < hs.length) (h9 : rs.length ≤ 8) :
    Calls Tryz.prog 52 [.agg #[.int .i64 kind, .int .i64 base, .int .i64 most, .slice A hs.length c, .slice B rs.length d, .func (.func (110 + kind.toNat)) #[] #[]], .agg (a8 cs).toArray].toArray w (K.RetN 3 1 K.eI (flats hs cs rs) w) := by
  refine K.enter (args := [.agg #[.int .i64 kind, .int .i64 base, .int .i64 most, .slice A hs.length c, .slice B rs.length d, .func (.func (110 + kind.toNat)) #[] #[]], .agg (a8 cs).toArray]) Tryz.func52 rfl (n := 35) rfl ?_
  simp only [List.replicate, List.cons_append, List.nil_append]
  refine K.seq ?_
  refine K.region_lit ?_
  refine K.seq_new (K.box) rfl ?_
  intro b2
  try dsimp only [setd, setn, ev, nth, over, cl, eI, eP, eT, List.map, List.append, List.drop, List.take]
  refine K.seq_new (K.box) rfl ?_
  intro b3
  try dsimp only [setd, setn, ev, nth, over, cl, eI, eP, eT, List.map, List.append, List.drop, List.take]
  refine K.seq_pure (K.assign) rfl ?_
  refine Rv.zn ?_
  refine K.seq_nil ?_
  refine K.norm_then ?_
  refine K.seq ?_
  refine K.seq ?_
  refine K.region_lit ?_
  refine K.nil_row (e := 3) (size := 1) ?_
  refine K.seq_pure (K.fieldAddr_lit fo_99_0 rfl) rfl ?_
  refine Rv.zn ?_
  refine K.seq_pure (K.fieldAddr_lit fo_38_4 rfl) rfl ?_
  refine Rv.zn ?_
  refine K.seq_sil (K.load1_own one_36 rfl (K.m2) rfl) rfl ?_
  try dsimp only [setd, setn, ev, nth, over, cl, eI, eP, eT, List.map, List.append, List.drop, List.take]
  refine K.seq_pure (K.len_sl sl_36 rfl) rfl ?_
  refine Rv.zn ?_
  refine K.seq_pure (K.move) rfl ?_
  refine Rv.zn ?_
  refine K.seq_nil ?_
  refine K.norm_then ?_
  refine K.block ?_
  refine K.loopW [4, 13] [5, 6, 7, 8, 14, 15, 16, 17, 18, 19, 20, 21, 22, 23, 24, 25, 26, 27, 28, 29, 30, 31, 32, 33, 34, 35] (fun vi L => ∃ (k : Nat) (Q1 : Option Addr) (n1 q1 : Nat) (ys : List Value), vi = [.slice Q1 n1 q1, .int .i64 (k : Int)] ∧ L = [K.row (.slice Q1 n1 q1) 3 1 n1 ys, K.blk b3 103 (a8 cs), K.blk b2 99 [.int .i64 kind, .int .i64 base, .int .i64 most, .slice A hs.length c, .slice B rs.length d, .func (.func (110 + kind.toNat)) #[] #[]]] ∧ n1 = (selN (fun i => flatP hs cs (rs.getD i default)) k).length ∧ ys = (selN (fun i => flatP hs cs (rs.getD i default)) k).flatMap K.eI ∧ k ≤ rs.length ∧ (n1 = 0 → Q1 = none)) (fun vi => rs.length - (intOf (K.nth vi 1)).toNat) ?_ ?_
  · exact ⟨0, none, 0, 0, [], rfl, rfl, rfl, rfl, Nat.zero_le _, fun _ => rfl⟩
  intro vi vr L hJ
  obtain ⟨k, Q1, n1, q1, ys, rfl, rfl, hn1, hys, hkn, hnil⟩ := hJ
  have hsl := selN_len (p := (fun i => flatP hs cs (rs.getD i default))) (n := k)
  try dsimp only [setd, setn, ev, nth, over, cl, eI, eP, eT, setM, setF, List.map, List.append, List.drop, List.take]
  refine K.seq ?_
  refine K.region_lit ?_
  refine K.seq_pure (K.lss rfl rfl) rfl ?_
  refine Rv.zn ?_
  refine K.seq_nil ?_
  refine K.norm_then ?_
  refine K.seq ?_
  refine K.cond rfl (fun ht14 => ?_) (fun ht14 => ?_)
  · try replace ht14 := of_decide_eq_true ht14
    have hk : k < rs.length := by omega
    refine K.skip ?_
    refine K.norm_then ?_
    refine K.seq ?_
    refine K.block ?_
    refine K.seq ?_
    refine K.region_lit ?_
    refine K.seq_pure (K.move) rfl ?_
    refine Rv.zn ?_
    refine K.seq_ix (M := []) _ hR.sl sl_36 rfl rfl rfl (by omega) rfl ?_
    intro p16 hp16
    try dsimp only [setd, setn, ev, nth, over, cl, eI, eP, eT, List.map, List.append, List.drop, List.take]
    refine K.seq_sil (K.loadA_p ag_94 rfl (hp16.any) rfl) rfl ?_
    try dsimp only [setd, setn, ev, nth, over, cl, eI, eP, eT, List.map, List.append, List.drop, List.take]
    refine K.seq_new (K.alloc zr_94) rfl ?_
    intro b6
    try dsimp only [setd, setn, ev, nth, over, cl, eI, eP, eT, List.map, List.append, List.drop, List.take]
    refine K.seq_pure (K.assign) rfl ?_
    refine Rv.zn ?_
    refine K.seq_st (K.store_all sz_94 rfl rfl rfl rfl (K.rp0)) rfl ?_
    try dsimp only [setd, setn, ev, nth, over, cl, eI, eP, eT, List.map, List.append, List.drop, List.take]
    refine K.seq_nil ?_
    refine K.norm_then ?_
    refine K.seq ?_
    refine K.region_lit ?_
    refine K.seq_sil (K.loadA_own ag_99 rfl (K.m3) rfl) rfl ?_
    try dsimp only [setd, setn, ev, nth, over, cl, eI, eP, eT, List.map, List.append, List.drop, List.take]
    refine K.seq_sil (K.loadA_own ag_94 rfl (K.m0) rfl) rfl ?_
    try dsimp only [setd, setn, ev, nth, over, cl, eI, eP, eT, List.map, List.append, List.drop, List.take]
    refine K.seq_sil (K.loadA_own ag_103 rfl ((K.m2)) rfl) rfl ?_
    try dsimp only [setd, setn, ev, nth, over, cl, eI, eP, eT, List.map, List.append, List.drop, List.take]
    refine K.seq_call (K.call_g cal_83 (fun F w hF hw => c88 (r := (rs.getD k default)) (cs := cs) (hH.pass hw) (hrd k hk) h8 hb hc)) rfl ?_
    try dsimp only [setd, setn, ev, nth, over, cl, eI, eP, eT, List.map, List.append, List.drop, List.take]
    refine K.seq_pure (K.move) rfl ?_
    refine Rv.zn ?_
    refine K.seq_pure (K.extract rfl rfl) rfl ?_
    refine Rv.zn ?_
    refine K.seq_pure (K.extract rfl rfl) rfl ?_
    refine Rv.zn ?_
    refine K.seq_pure (K.assign) rfl ?_
    refine Rv.zn ?_
    refine K.seq_pure (K.assign) rfl ?_
    refine Rv.zn ?_
    refine K.seq_nil ?_
    refine K.norm_then ?_
    refine K.seq ?_
    refine K.region_lit ?_
    refine K.seq_pure (K.move) rfl ?_
    refine Rv.zn ?_
    refine K.seq_pure (K.neq rfl rfl) rfl ?_
    refine Rv.zn ?_
    refine K.seq_pure (K.move) rfl ?_
    refine Rv.zn ?_
    refine K.split 27 rfl (fun hg27 => ?_) (fun hg27 => ?_)
    · try replace hg27 := of_decide_eq_true hg27
      refine K.seq_pure (K.move) rfl ?_
      refine Rv.zn ?_
      refine K.seq_pure (K.eql rfl rfl) rfl ?_
      refine Rv.zn ?_
      refine K.seq_pure (K.pick_t rfl) rfl ?_
      refine Rv.zn ?_
      refine K.seq_nil ?_
      refine K.norm_then ?_
      refine K.cond rfl (fun ht30 => ?_) (fun ht30 => ?_)
      · try replace ht30 := of_decide_eq_true ht30
        have hp : (fun i => flatP hs cs (rs.getD i default)) k = true := Bool.and_eq_true_iff.2 ⟨decide_eq_true hg27, decide_eq_true ht30⟩
        refine K.region_lit ?_
        refine K.seq_pure (K.move) rfl ?_
        refine Rv.zn ?_
        refine K.seq_pure (K.move) rfl ?_
        refine Rv.zn ?_
        refine K.seq_new (K.buildSlice (bs1 _)) rfl ?_
        intro b33
        try dsimp only [setd, setn, ev, nth, over, cl, eI, eP, eT, List.map, List.append, List.drop, List.take]
        refine K.seq_upd (K.append el_28 rfl rfl (K.PtrL.own' (K.m0)) rfl rfl (by decide) (by omega) (by omega) (fun _ _ => K.rp2)) rfl ?_
        rintro ⟨g34, c34⟩ _
        try dsimp only [setd, setn, ev, nth, over, cl, eI, eP, eT, List.map, List.append, List.drop, List.take]
        refine K.seq_pure (K.assign) rfl ?_
        refine Rv.zn ?_
        refine K.seq_nil ?_
        refine K.norm_block ?_
        refine K.norm_then ?_
        refine K.region_lit ?_
        refine K.seq_pure (K.add_i64 rfl rfl (by omega)) rfl ?_
        refine Rv.zn ?_
        refine K.seq_pure (K.move) rfl ?_
        refine Rv.zn ?_
        refine K.seq_nil ?_
        exact K.round_endW [.slice (some ⟨g34, 0, none⟩) (n1 + 1) c34, .int .i64 ((k : Int) + 1)] ⟨k + 1, _, _, _, _, rfl, rfl, by rw [selN_t (p := (fun i => flatP hs cs (rs.getD i default))) (n := k) hp, List.length_append, ← hn1]; rfl, by rw [selN_t (p := (fun i => flatP hs cs (rs.getD i default))) (n := k) hp, List.flatMap_append, ← hys], by omega, fun h => absurd h (by omega)⟩ (by simp [K.nth, intOf]; omega) (by repeat (first | exact List.Sublist.refl _ | apply List.Sublist.cons)) (by kernel_rfl)
      try replace ht30 := of_decide_eq_false ht30
      have hp : (fun i => flatP hs cs (rs.getD i default)) k = false := Bool.and_eq_false_iff.2 (.inr (decide_eq_false ht30))
      refine K.skip ?_
      refine K.norm_block ?_
      refine K.norm_then ?_
      refine K.region_lit ?_
      refine K.seq_pure (K.add_i64 rfl rfl (by omega)) rfl ?_
      refine Rv.zn ?_
      refine K.seq_pure (K.move) rfl ?_
      refine Rv.zn ?_
      refine K.seq_nil ?_
      exact K.round_endW [.slice Q1 n1 q1, .int .i64 ((k : Int) + 1)] ⟨k + 1, _, _, _, _, rfl, rfl, by rw [selN_f (p := (fun i => flatP hs cs (rs.getD i default))) (n := k) hp, ← hn1], by rw [selN_f (p := (fun i => flatP hs cs (rs.getD i default))) (n := k) hp, ← hys], by omega, hnil⟩ (by simp [K.nth, intOf]; omega) (by repeat (first | exact List.Sublist.refl _ | apply List.Sublist.cons)) (by kernel_rfl)
    try replace hg27 := of_decide_eq_false hg27
    have hp : (fun i => flatP hs cs (rs.getD i default)) k = false := Bool.and_eq_false_iff.2 (.inl (decide_eq_false hg27))
    refine K.seq_skip ?_ ?_
    · rfl
    try dsimp only [setd, setn, ev, nth, over, cl, eI, eP, eT, List.map, List.append, List.drop, List.take]
    refine K.seq_skip ?_ ?_
    · rfl
    try dsimp only [setd, setn, ev, nth, over, cl, eI, eP, eT, List.map, List.append, List.drop, List.take]
    refine K.seq_pure (K.pick_f rfl) rfl ?_
    refine Rv.zn ?_
    refine K.seq_nil ?_
    refine K.norm_then ?_
    refine K.cond_false rfl ?_
    refine K.skip ?_
    refine K.norm_block ?_
    refine K.norm_then ?_
    refine K.region_lit ?_
    refine K.seq_pure (K.add_i64 rfl rfl (by omega)) rfl ?_
    refine Rv.zn ?_
    refine K.seq_pure (K.move) rfl ?_
    refine Rv.zn ?_
    refine K.seq_nil ?_
    exact K.round_endW [.slice Q1 n1 q1, .int .i64 ((k : Int) + 1)] ⟨k + 1, _, _, _, _, rfl, rfl, by rw [selN_f (p := (fun i => flatP hs cs (rs.getD i default))) (n := k) hp, ← hn1], by rw [selN_f (p := (fun i => flatP hs cs (rs.getD i default))) (n := k) hp, ← hys], by omega, hnil⟩ (by simp [K.nth, intOf]; omega) (by repeat (first | exact List.Sublist.refl _ | apply List.Sublist.cons)) (by kernel_rfl)
  try replace ht14 := of_decide_eq_false ht14
  refine K.exit ?_
  refine K.exit_then ?_
  refine K.exit_then ?_
  refine K.exit_here ?_
  refine K.norm_then ?_
  refine K.seq ?_
  refine K.region_lit ?_
  refine K.seq_pure (K.move) rfl ?_
  refine Rv.zn ?_
  refine K.seq_pure (K.assign) rfl ?_
  refine Rv.zn ?_
  refine K.seq_nil ?_
  refine K.norm_then ?_
  refine K.ret ?_
  refine K.end_ret (fun w _ => K.res_tmp rfl w) ?_
  have hk8 : k = rs.length := by omega
  subst hk8
  exact K.rets_n (List.Mem.head _) hn1 hys hnil rfl

set_option maxRecDepth 100000 in
theorem c19 {A B : Option Addr} {c d : Nat} {xs ys : List Int} {w : World} (hX : K.Rd w A 1 K.eI xs) (hY : K.Rd w B 1 K.eI ys) (hn : xs.length ≤ 4611686018427387904) (hm : ys.length ≤ 4611686018427387904) :
    Calls Tryz.prog 28 [.slice A xs.length c, .slice B ys.length d].toArray w (K.Gives (.bool (decide (xs = ys))) w) := by
  refine K.enter (args := [.slice A xs.length c, .slice B ys.length d]) Tryz.func28 rfl (n := 24) rfl ?_
  simp only [List.replicate, List.cons_append, List.nil_append]
  refine K.seq ?_
  refine K.region_lit ?_
  refine K.seq_pure (K.assign) rfl ?_
  refine Rv.zn ?_
  refine K.seq_nil ?_
  refine K.norm_then ?_
  refine K.seq ?_
  refine K.seq ?_
  refine K.region_lit ?_
  refine K.seq_pure (K.move) rfl ?_
  refine Rv.zn ?_
  refine K.seq_pure (K.len_sl sl_28 rfl) rfl ?_
  refine Rv.zn ?_
  refine K.seq_pure (K.move) rfl ?_
  refine Rv.zn ?_
  refine K.seq_pure (K.len_sl sl_28 rfl) rfl ?_
  refine Rv.zn ?_
  refine K.seq_pure (K.neq rfl rfl) rfl ?_
  refine Rv.zn ?_
  refine K.seq_nil ?_
  refine K.norm_then ?_
  refine K.cond rfl (fun ht10 => ?_) (fun ht10 => ?_)
  · try replace ht10 := of_decide_eq_true ht10
    refine K.seq ?_
    refine K.region_lit ?_
    refine K.seq_pure (K.assign) rfl ?_
    refine Rv.zn ?_
    refine K.seq_nil ?_
    refine K.norm_then ?_
    refine K.ret ?_
    refine K.ret_then ?_
    refine K.end_ret (fun w _ => K.res_tmp rfl w) ?_
    exact K.gives_b rfl (decide_eq_false (fun h => ht10 (by rw [h]))).symm
  try replace ht10 := of_decide_eq_false ht10
  refine K.skip ?_
  refine K.norm_then ?_
  refine K.seq ?_
  refine K.seq ?_
  refine K.region_lit ?_
  refine K.seq_pure (K.assign) rfl ?_
  refine Rv.zn ?_
  refine K.seq_nil ?_
  refine K.norm_then ?_
  refine K.block ?_
  refine K.loopW [5] [4, 11, 12, 13, 14, 15, 16, 17, 18, 19, 20, 21, 22, 23, 24, 25] (fun vi L => ∃ k : Nat, vi = [.int .i64 (k : Int)] ∧ L = [] ∧ k ≤ xs.length ∧ ∀ j, j < k → xs.getD j default = ys.getD j default) (fun vi => xs.length - (intOf (K.nth vi 0)).toNat) ?_ ?_
  · exact ⟨0, rfl, rfl, Nat.zero_le _, fun j hj => absurd hj (Nat.not_lt_zero j)⟩
  intro vi vr L hJ
  obtain ⟨k, rfl, rfl, hkn, hall⟩ := hJ
  try dsimp only [setd, setn, ev, nth, over, cl, eI, eP, eT, setM, setF, List.map, List.append, List.drop, List.take]
  refine K.seq ?_
  refine K.seq ?_
  refine K.region_lit ?_
  refine K.seq_pure (K.move) rfl ?_
  refine Rv.zn ?_
  refine K.seq_pure (K.move) rfl ?_
  refine Rv.zn ?_
  refine K.seq_pure (K.len_sl sl_28 rfl) rfl ?_
  refine Rv.zn ?_
  refine K.seq_pure (K.lss rfl rfl) rfl ?_
  refine Rv.zn ?_
  refine K.seq_nil ?_
  refine K.norm_then ?_
  refine K.cond rfl (fun ht14 => ?_) (fun ht14 => ?_)
  · try replace ht14 := of_decide_eq_true ht14
    have hk : k < xs.length := by omega
    refine K.skip ?_
    refine K.norm_then ?_
    refine K.seq ?_
    refine K.block ?_
    refine K.seq ?_
    refine K.draw_L [] Tryz_mixed ?_
    refine K.d_pure 0 rfl (K.move) (by kernel_rfl) rfl ?_
    refine Rv.zn ?_
    refine K.d_pure 1 rfl (K.move) (by kernel_rfl) rfl ?_
    refine Rv.zn ?_
    refine K.d_ix (M := []) 2 _ rfl hX.sl sl_28 rfl rfl rfl (by omega) (by kernel_rfl) rfl ?_
    intro p19 hp19
    try dsimp only [setd, setn, ev, nth, over, cl, eI, eP, eT, List.map, List.append, List.drop, List.take]
    refine K.d_mem 3 rfl (K.load1 one_3 rfl (hp19.any)) (fun _ h => h) (by kernel_rfl) (by kernel_rfl) rfl ?_
    try dsimp only [setd, setn, ev, nth, over, cl, eI, eP, eT, List.map, List.append, List.drop, List.take]
    refine K.d_pure 4 rfl (K.move) (by kernel_rfl) rfl ?_
    refine Rv.zn ?_
    refine K.d_pure 5 rfl (K.move) (by kernel_rfl) rfl ?_
    refine Rv.zn ?_
    refine K.d_ix (M := []) 6 _ rfl hY.sl sl_28 rfl rfl rfl (by omega) (by kernel_rfl) rfl ?_
    intro p23 hp23
    try dsimp only [setd, setn, ev, nth, over, cl, eI, eP, eT, List.map, List.append, List.drop, List.take]
    refine K.d_mem 7 rfl (K.load1 one_3 rfl (hp23.any)) (fun _ h => h) (by kernel_rfl) (by kernel_rfl) rfl ?_
    try dsimp only [setd, setn, ev, nth, over, cl, eI, eP, eT, List.map, List.append, List.drop, List.take]
    refine K.d_pure 8 rfl (K.neq rfl rfl) (by kernel_rfl) rfl ?_
    refine Rv.zn ?_
    refine K.d_done (by kernel_rfl) ?_
    refine K.norm_then ?_
    refine K.cond rfl (fun ht25 => ?_) (fun ht25 => ?_)
    · try replace ht25 := of_decide_eq_true ht25
      refine K.seq ?_
      refine K.region_lit ?_
      refine K.seq_pure (K.assign) rfl ?_
      refine Rv.zn ?_
      refine K.seq_nil ?_
      refine K.norm_then ?_
      refine K.ret ?_
      refine K.ret_block ?_
      refine K.ret_then ?_
      refine K.ret_then ?_
      refine K.ret_block ?_
      refine K.ret_then ?_
      refine K.end_ret (fun w _ => K.res_tmp rfl w) ?_
      exact K.gives_b rfl (decide_eq_false (fun h => ht25 (by rw [h]))).symm
    try replace ht25 := of_decide_eq_false ht25
    refine K.skip ?_
    refine K.norm_block ?_
    refine K.norm_then ?_
    refine K.region_lit ?_
    refine K.seq_pure (K.move) rfl ?_
    refine Rv.zn ?_
    refine K.seq_pure (K.add_i64 rfl rfl (by omega)) rfl ?_
    refine Rv.zn ?_
    refine K.seq_pure (K.assign) rfl ?_
    refine Rv.zn ?_
    refine K.seq_nil ?_
    exact K.round_endW (L'' := []) [.int .i64 ((k : Int) + 1)] ⟨k + 1, rfl, rfl, by omega, K.lt_succ_case hall (Decidable.not_not.1 ht25)⟩ (by simp [K.nth, intOf]; omega) (List.nil_sublist _) (by kernel_rfl)
  try replace ht14 := of_decide_eq_false ht14
  refine K.exit ?_
  refine K.exit_then ?_
  refine K.exit_then ?_
  refine K.exit_here ?_
  refine K.norm_then ?_
  refine K.seq ?_
  refine K.region_lit ?_
  refine K.seq_pure (K.assign) rfl ?_
  refine Rv.zn ?_
  refine K.seq_nil ?_
  refine K.norm_then ?_
  refine K.ret ?_
  refine K.end_ret (fun w _ => K.res_tmp rfl w) ?_
  exact K.gives_b rfl (decide_eq_true (ext_getD (by omega) (fun j hj => hall j (by omega)))).symm

set_option maxRecDepth 100000 in
theorem c33 {A B : Option Addr} {c d : Nat} {xs ys : List (Int × Int)} {w : World} (hX : K.Rd w A 2 K.eP xs) (hY : K.Rd w B 2 K.eP ys) (hn : xs.length ≤ 4611686018427387904) (hm : ys.length ≤ 4611686018427387904) :
    Calls Tryz.prog 29 [.slice A xs.length c, .slice B ys.length d].toArray w (K.Gives (.bool (decide (xs = ys))) w) := by
  refine K.enter (args := [.slice A xs.length c, .slice B ys.length d]) Tryz.func29 rfl (n := 24) rfl ?_
  simp only [List.replicate, List.cons_append, List.nil_append]
  refine K.seq ?_
  refine K.region_lit ?_
  refine K.seq_pure (K.assign) rfl ?_
  refine Rv.zn ?_
  refine K.seq_nil ?_
  refine K.norm_then ?_
  refine K.seq ?_
  refine K.seq ?_
  refine K.region_lit ?_
  refine K.seq_pure (K.move) rfl ?_
  refine Rv.zn ?_
  refine K.seq_pure (K.len_sl sl_55 rfl) rfl ?_
  refine Rv.zn ?_
  refine K.seq_pure (K.move) rfl ?_
  refine Rv.zn ?_
  refine K.seq_pure (K.len_sl sl_55 rfl) rfl ?_
  refine Rv.zn ?_
  refine K.seq_pure (K.neq rfl rfl) rfl ?_
  refine Rv.zn ?_
  refine K.seq_nil ?_
  refine K.norm_then ?_
  refine K.cond rfl (fun ht10 => ?_) (fun ht10 => ?_)
  · try replace ht10 := of_decide_eq_true ht10
    refine K.seq ?_
    refine K.region_lit ?_
    refine K.seq_pure (K.assign) rfl ?_
    refine Rv.zn ?_
    refine K.seq_nil ?_
    refine K.norm_then ?_
    refine K.ret ?_
    refine K.ret_then ?_
    refine K.end_ret (fun w _ => K.res_tmp rfl w) ?_
    exact K.gives_b rfl (decide_eq_false (fun h => ht10 (by rw [h]))).symm
  try replace ht10 := of_decide_eq_false ht10
  refine K.skip ?_
  refine K.norm_then ?_
  refine K.seq ?_
  refine K.seq ?_
  refine K.region_lit ?_
  refine K.seq_pure (K.assign) rfl ?_
  refine Rv.zn ?_
  refine K.seq_nil ?_
  refine K.norm_then ?_
  refine K.block ?_
  refine K.loopW [5] [4, 11, 12, 13, 14, 15, 16, 17, 18, 19, 20, 21, 22, 23, 24, 25] (fun vi L => ∃ k : Nat, vi = [.int .i64 (k : Int)] ∧ L = [] ∧ k ≤ xs.length ∧ ∀ j, j < k → xs.getD j default = ys.getD j default) (fun vi => xs.length - (intOf (K.nth vi 0)).toNat) ?_ ?_
  · exact ⟨0, rfl, rfl, Nat.zero_le _, fun j hj => absurd hj (Nat.not_lt_zero j)⟩
  intro vi vr L hJ
  obtain ⟨k, rfl, rfl, hkn, hall⟩ := hJ
  try dsimp only [setd, setn, ev, nth, over, cl, eI, eP, eT, setM, setF, List.map, List.append, List.drop, List.take]
  refine K.seq ?_
  refine K.seq ?_
  refine K.region_lit ?_
  refine K.seq_pure (K.move) rfl ?_
  refine Rv.zn ?_
  refine K.seq_pure (K.move) rfl ?_
  refine Rv.zn ?_
  refine K.seq_pure (K.len_sl sl_55 rfl) rfl ?_
  refine Rv.zn ?_
  refine K.seq_pure (K.lss rfl rfl) rfl ?_
  refine Rv.zn ?_
  refine K.seq_nil ?_
  refine K.norm_then ?_
  refine K.cond rfl (fun ht14 => ?_) (fun ht14 => ?_)
  · try replace ht14 := of_decide_eq_true ht14
    have hk : k < xs.length := by omega
    refine K.skip ?_
    refine K.norm_then ?_
    refine K.seq ?_
    refine K.block ?_
    refine K.seq ?_
    refine K.draw_L [] Tryz_mixed ?_
    refine K.d_pure 0 rfl (K.move) (by kernel_rfl) rfl ?_
    refine Rv.zn ?_
    refine K.d_pure 1 rfl (K.move) (by kernel_rfl) rfl ?_
    refine Rv.zn ?_
    refine K.d_ix (M := []) 2 _ rfl hX.sl sl_55 rfl rfl rfl (by omega) (by kernel_rfl) rfl ?_
    intro p19 hp19
    try dsimp only [setd, setn, ev, nth, over, cl, eI, eP, eT, List.map, List.append, List.drop, List.take]
    refine K.d_mem 3 rfl (K.loadA_p ag_42 rfl (hp19.any) rfl) (fun _ h => h) (by kernel_rfl) (by kernel_rfl) rfl ?_
    try dsimp only [setd, setn, ev, nth, over, cl, eI, eP, eT, List.map, List.append, List.drop, List.take]
    refine K.d_pure 4 rfl (K.move) (by kernel_rfl) rfl ?_
    refine Rv.zn ?_
    refine K.d_pure 5 rfl (K.move) (by kernel_rfl) rfl ?_
    refine Rv.zn ?_
    refine K.d_ix (M := []) 6 _ rfl hY.sl sl_55 rfl rfl rfl (by omega) (by kernel_rfl) rfl ?_
    intro p23 hp23
    try dsimp only [setd, setn, ev, nth, over, cl, eI, eP, eT, List.map, List.append, List.drop, List.take]
    refine K.d_mem 7 rfl (K.loadA_p ag_42 rfl (hp23.any) rfl) (fun _ h => h) (by kernel_rfl) (by kernel_rfl) rfl ?_
    try dsimp only [setd, setn, ev, nth, over, cl, eI, eP, eT, List.map, List.append, List.drop, List.take]
    refine K.d_pure 8 rfl (K.neq_s2 s2_27 rfl rfl) (by kernel_rfl) rfl ?_
    refine Rv.zn ?_
    refine K.d_done (by kernel_rfl) ?_
    refine K.norm_then ?_
    refine K.cond rfl (fun ht25 => ?_) (fun ht25 => ?_)
    · try replace ht25 := of_decide_eq_true ht25
      refine K.seq ?_
      refine K.region_lit ?_
      refine K.seq_pure (K.assign) rfl ?_
      refine Rv.zn ?_
      refine K.seq_nil ?_
      refine K.norm_then ?_
      refine K.ret ?_
      refine K.ret_block ?_
      refine K.ret_then ?_
      refine K.ret_then ?_
      refine K.ret_block ?_
      refine K.ret_then ?_
      refine K.end_ret (fun w _ => K.res_tmp rfl w) ?_
      exact K.gives_b rfl (decide_eq_false (fun h => ht25 (by rw [h]))).symm
    try replace ht25 := of_decide_eq_false ht25
    refine K.skip ?_
    refine K.norm_block ?_
    refine K.norm_then ?_
    refine K.region_lit ?_
    refine K.seq_pure (K.move) rfl ?_
    refine Rv.zn ?_
    refine K.seq_pure (K.add_i64 rfl rfl (by omega)) rfl ?_
    refine Rv.zn ?_
    refine K.seq_pure (K.assign) rfl ?_
    refine Rv.zn ?_
    refine K.seq_nil ?_
    exact K.round_endW (L'' := []) [.int .i64 ((k : Int) + 1)] ⟨k + 1, rfl, rfl, by omega, K.lt_succ_case hall (Decidable.not_not.1 ht25)⟩ (by simp [K.nth, intOf]; omega) (List.nil_sublist _) (by kernel_rfl)
  try replace ht14 := of_decide_eq_false ht14
  refine K.exit ?_
  refine K.exit_then ?_
  refine K.exit_then ?_
  refine K.exit_here ?_
  refine K.norm_then ?_
  refine K.seq ?_
  refine K.region_lit ?_
  refine K.seq_pure (K.assign) rfl ?_
  refine Rv.zn ?_
  refine K.seq_nil ?_
  refine K.norm_then ?_
  refine K.ret ?_
  refine K.end_ret (fun w _ => K.res_tmp rfl w) ?_
  exact K.gives_b rfl (decide_eq_true (ext_getD (by omega) (fun j hj => hall j (by omega)))).symm

end Go.Proofs.YtekkpcpbnonkaaaGreatDoor.Sc
end
section
set_option linter.unusedSimpArgs false
set_option linter.unusedVariables false
namespace Go.Proofs.YtekkpcpbnonkaaaGreatDoor.Sc
open Go.RowKit Go
open Go.K (setd setn ev nth over cl eI eP eT setM setF)
attribute [local irreducible] K.blk K.row

set_option maxRecDepth 100000 in
theorem e17 {kind base most : Int} {A B : Option Addr} {c d : Nat} {hs : List Int} {rs : List (Int × Int)} {u v : Int} {w : World} (hH : K.Rd w A 1 K.eI hs) (hR : K.Rd w B 2 K.eP rs) (hn : hs.length ≤ 4611686018427387904) (hm : rs.length ≤ 4611686018427387904) (he : (chk kind base most hs rs).2.2 ≠ 0) :
    Calls Tryz.prog 11 [.agg #[.int .i64 kind, .int .i64 base, .int .i64 most, .slice A hs.length c, .slice B rs.length d], .agg #[.int .i64 u, .int .i64 v]].toArray w (K.RetSE 3 1 K.eI ([] : List Int) (chk kind base most hs rs).2.2 w) := by
  refine K.enter (args := [.agg #[.int .i64 kind, .int .i64 base, .int .i64 most, .slice A hs.length c, .slice B rs.length d], .agg #[.int .i64 u, .int .i64 v]]) Tryz.func11 rfl (n := 29) rfl ?_
  simp only [List.replicate, List.cons_append, List.nil_append]
  refine K.seq ?_
  refine K.region_lit ?_
  refine K.seq_new (K.box) rfl ?_
  intro b2
  try dsimp only [setd, setn, ev, nth, over, cl, eI, eP, eT, List.map, List.append, List.drop, List.take]
  refine K.seq_new (K.box) rfl ?_
  intro b3
  try dsimp only [setd, setn, ev, nth, over, cl, eI, eP, eT, List.map, List.append, List.drop, List.take]
  refine K.seq_pure (K.assign) rfl ?_
  refine Rv.zn ?_
  refine K.seq_pure (K.assign) rfl ?_
  refine Rv.zn ?_
  refine K.seq_nil ?_
  refine K.norm_then ?_
  refine K.seq ?_
  refine K.region_lit ?_
  refine K.seq_sil (K.loadA_own ag_38 rfl (K.m1) rfl) rfl ?_
  try dsimp only [setd, setn, ev, nth, over, cl, eI, eP, eT, List.map, List.append, List.drop, List.take]
  refine K.seq_sil (K.loadA_own ag_42 rfl (K.m0) rfl) rfl ?_
  try dsimp only [setd, setn, ev, nth, over, cl, eI, eP, eT, List.map, List.append, List.drop, List.take]
  refine K.seq_new (K.buildSlice (bs27 _ _)) rfl ?_
  intro b13
  try dsimp only [setd, setn, ev, nth, over, cl, eI, eP, eT, List.map, List.append, List.drop, List.take]
  refine K.seq_call (K.call_g cal_44 (fun F w hF hw => e58 (l := [(u, v)]) (hH.pass hw) (hR.pass hw) hn hm he)) rfl ?_
  try dsimp only [setd, setn, ev, nth, over, cl, eI, eP, eT, List.map, List.append, List.drop, List.take]
  refine K.seq_pure (K.move) rfl ?_
  refine Rv.zn ?_
  refine K.seq_pure (K.extract rfl rfl) rfl ?_
  refine Rv.zn ?_
  refine K.seq_pure (K.extract rfl rfl) rfl ?_
  refine Rv.zn ?_
  refine K.seq_new (K.alloc zr_99) rfl ?_
  intro b6
  try dsimp only [setd, setn, ev, nth, over, cl, eI, eP, eT, List.map, List.append, List.drop, List.take]
  refine K.seq_st (K.store_all sz_99 rfl rfl rfl rfl (K.rp0)) rfl ?_
  try dsimp only [setd, setn, ev, nth, over, cl, eI, eP, eT, List.map, List.append, List.drop, List.take]
  refine K.seq_pure (K.assign) rfl ?_
  refine Rv.zn ?_
  refine K.seq_nil ?_
  refine K.norm_then ?_
  refine K.seq ?_
  refine K.seq ?_
  refine K.region_lit ?_
  refine K.seq_pure (K.move) rfl ?_
  refine Rv.zn ?_
  refine K.seq_pure (K.neq rfl rfl) rfl ?_
  refine Rv.zn ?_
  refine K.seq_nil ?_
  refine K.norm_then ?_
  refine K.cond rfl (fun ht18 => ?_) (fun ht18 => ?_)
  · try replace ht18 := of_decide_eq_true ht18
    refine K.seq ?_
    refine K.region_lit ?_
    refine K.seq_pure (K.move) rfl ?_
    refine Rv.zn ?_
    refine K.seq_pure (K.assign) rfl ?_
    refine Rv.zn ?_
    refine K.seq_pure (K.assign) rfl ?_
    refine Rv.zn ?_
    refine K.seq_nil ?_
    refine K.norm_then ?_
    refine K.ret ?_
    refine K.ret_then ?_
    refine K.end_ret (fun w _ => K.res_tmp2 rfl w) ?_
    exact K.rets_se0 rfl rfl rfl
  try replace ht18 := of_decide_eq_false ht18
  exact absurd he ht18

set_option maxRecDepth 100000 in
theorem g17 {kind base most : Int} {A B : Option Addr} {c d : Nat} {hs : List Int} {rs : List (Int × Int)} {u v : Int} {w : World} (hH : K.Rd w A 1 K.eI hs) (hR : K.Rd w B 2 K.eP rs) (g : Good kind base most hs rs) :
    Calls Tryz.prog 11 [.agg #[.int .i64 kind, .int .i64 base, .int .i64 most, .slice A hs.length c, .slice B rs.length d], .agg #[.int .i64 u, .int .i64 v]].toArray w (K.RetSE 3 1 K.eI (if scE u v = 0 then (cuts kind base u v hs) else []) (scE u v) w) := by
  have g1 := g.k
  have g2 := g.n
  have g3 := g.r
  have g4 := g.b
  have g5 := g.m
  refine K.enter (args := [.agg #[.int .i64 kind, .int .i64 base, .int .i64 most, .slice A hs.length c, .slice B rs.length d], .agg #[.int .i64 u, .int .i64 v]]) Tryz.func11 rfl (n := 29) rfl ?_
  simp only [List.replicate, List.cons_append, List.nil_append]
  refine K.seq ?_
  refine K.region_lit ?_
  refine K.seq_new (K.box) rfl ?_
  intro b2
  try dsimp only [setd, setn, ev, nth, over, cl, eI, eP, eT, List.map, List.append, List.drop, List.take]
  refine K.seq_new (K.box) rfl ?_
  intro b3
  try dsimp only [setd, setn, ev, nth, over, cl, eI, eP, eT, List.map, List.append, List.drop, List.take]
  refine K.seq_pure (K.assign) rfl ?_
  refine Rv.zn ?_
  refine K.seq_pure (K.assign) rfl ?_
  refine Rv.zn ?_
  refine K.seq_nil ?_
  refine K.norm_then ?_
  refine K.seq ?_
  refine K.region_lit ?_
  refine K.seq_sil (K.loadA_own ag_38 rfl (K.m1) rfl) rfl ?_
  try dsimp only [setd, setn, ev, nth, over, cl, eI, eP, eT, List.map, List.append, List.drop, List.take]
  refine K.seq_sil (K.loadA_own ag_42 rfl (K.m0) rfl) rfl ?_
  try dsimp only [setd, setn, ev, nth, over, cl, eI, eP, eT, List.map, List.append, List.drop, List.take]
  refine K.seq_new (K.buildSlice (bs27 _ _)) rfl ?_
  intro b13
  try dsimp only [setd, setn, ev, nth, over, cl, eI, eP, eT, List.map, List.append, List.drop, List.take]
  refine K.seq_call (K.call_g cal_44 (fun F w hF hw => c58 (l := [(u, v)]) (hH.pass hw) (hR.pass hw) g (K.Rd.lit hw (hF _ (K.m0)) (fun _ => rfl) (by decide) rfl) (by simp))) rfl ?_
  try dsimp only [setd, setn, ev, nth, over, cl, eI, eP, eT, List.map, List.append, List.drop, List.take]
  refine K.seq_pure (K.move) rfl ?_
  refine Rv.zn ?_
  refine K.seq_pure (K.extract rfl rfl) rfl ?_
  refine Rv.zn ?_
  refine K.seq_pure (K.extract rfl rfl) rfl ?_
  refine Rv.zn ?_
  refine K.seq_new (K.alloc zr_99) rfl ?_
  intro b6
  try dsimp only [setd, setn, ev, nth, over, cl, eI, eP, eT, List.map, List.append, List.drop, List.take]
  refine K.seq_st (K.store_all sz_99 rfl rfl rfl rfl (K.rp0)) rfl ?_
  try dsimp only [setd, setn, ev, nth, over, cl, eI, eP, eT, List.map, List.append, List.drop, List.take]
  refine K.seq_pure (K.assign) rfl ?_
  refine Rv.zn ?_
  refine K.seq_nil ?_
  refine K.norm_then ?_
  refine K.seq ?_
  refine K.seq ?_
  refine K.region_lit ?_
  refine K.seq_pure (K.move) rfl ?_
  refine Rv.zn ?_
  refine K.seq_pure (K.neq rfl rfl) rfl ?_
  refine Rv.zn ?_
  refine K.seq_nil ?_
  refine K.norm_then ?_
  refine K.cond rfl (fun ht18 => ?_) (fun ht18 => ?_)
  · try replace ht18 := of_decide_eq_true ht18
    refine K.seq ?_
    refine K.region_lit ?_
    refine K.seq_pure (K.move) rfl ?_
    refine Rv.zn ?_
    refine K.seq_pure (K.assign) rfl ?_
    refine Rv.zn ?_
    refine K.seq_pure (K.assign) rfl ?_
    refine Rv.zn ?_
    refine K.seq_nil ?_
    refine K.norm_then ?_
    refine K.ret ?_
    refine K.ret_then ?_
    refine K.end_ret (fun w _ => K.res_tmp2 rfl w) ?_
    exact K.rets_se0 (by rw [if_neg (by rw [← scsE1]; exact ht18)]) scsE1 rfl
  try replace ht18 := of_decide_eq_false ht18
  have hp : Parts u v := scE_parts (by have h1 := @scsE1 u v; omega)
  refine K.skip ?_
  refine K.norm_then ?_
  refine K.seq ?_
  refine K.region_lit ?_
  refine K.seq_sil (K.loadA_own ag_99 rfl (K.m0) rfl) rfl ?_
  try dsimp only [setd, setn, ev, nth, over, cl, eI, eP, eT, List.map, List.append, List.drop, List.take]
  refine K.seq_sil (K.loadA_own ag_42 rfl (K.m2) rfl) rfl ?_
  try dsimp only [setd, setn, ev, nth, over, cl, eI, eP, eT, List.map, List.append, List.drop, List.take]
  refine K.seq_call (K.call_g cal_45 (fun F w hF hw => c59 (hH.pass hw) g hp)) rfl ?_
  try dsimp only [setd, setn, ev, nth, over, cl, eI, eP, eT, List.map, List.append, List.drop, List.take]
  refine K.seq_pure (K.move) rfl ?_
  refine Rv.zn ?_
  refine K.seq_pure (K.extract rfl rfl) rfl ?_
  refine Rv.zn ?_
  refine K.seq_pure (K.extract rfl rfl) rfl ?_
  refine Rv.zn ?_
  refine K.seq_new (K.alloc zr_103) rfl ?_
  intro b8
  try dsimp only [setd, setn, ev, nth, over, cl, eI, eP, eT, List.map, List.append, List.drop, List.take]
  refine K.seq_st (K.store_all sz_103 rfl rfl rfl rfl (K.rp0)) rfl ?_
  try dsimp only [setd, setn, ev, nth, over, cl, eI, eP, eT, List.map, List.append, List.drop, List.take]
  refine K.seq_pure (K.assign) rfl ?_
  refine Rv.zn ?_
  refine K.seq_nil ?_
  refine K.norm_then ?_
  refine K.seq ?_
  refine K.region_lit ?_
  refine K.seq_pure (K.fieldAddr_lit fo_38_3 rfl) rfl ?_
  refine Rv.zn ?_
  refine K.seq_sil (K.load1_own one_28 rfl (K.m4) rfl) rfl ?_
  try dsimp only [setd, setn, ev, nth, over, cl, eI, eP, eT, List.map, List.append, List.drop, List.take]
  refine K.seq_pure (K.len_sl sl_28 rfl) rfl ?_
  refine Rv.zn ?_
  refine K.seq_pure (K.slice_ar (cuts kind base u v hs).length ar_103 rfl rfl (by rw [cuts_len]) (by rw [cuts_len]; omega)) rfl ?_
  try dsimp only [setd, setn, ev, nth, over, cl, eI, eP, eT, List.map, List.append, List.drop, List.take]
  refine K.seq_loud (K.call_f cal_46 (fun F w hF hw => c60 (xs := (cuts kind base u v hs)) (K.Rd.litp hw (hF _ (K.m0)) (fun _ => rfl) (by decide) (a8_flat (by rw [cuts_len]; omega))) (by rw [cuts_len]; omega))) rfl ?_
  rintro ⟨A2, c2⟩ hA2
  try dsimp only [setd, setn, ev, nth, over, cl, eI, eP, eT, List.map, List.append, List.drop, List.take]
  refine K.seq_pure (K.assign) rfl ?_
  refine Rv.zn ?_
  refine K.seq_pure (K.assign) rfl ?_
  refine Rv.zn ?_
  refine K.seq_nil ?_
  refine K.norm_then ?_
  refine K.ret ?_
  refine K.end_ret (fun w _ => K.res_tmp2 rfl w) ?_
  have hs0 : scE u v = 0 := (by have h1 := @scsE1 u v; omega)
  rw [if_pos hs0, hs0]
  exact K.rets_se (List.Mem.head _) rfl rfl rfl rfl

theorem c17 {kind base most : Int} {A B : Option Addr} {c d : Nat} {hs : List Int} {rs : List (Int × Int)} {u v : Int} {w : World} (hH : K.Rd w A 1 K.eI hs) (hR : K.Rd w B 2 K.eP rs) (hn : hs.length ≤ 4611686018427387904) (hm : rs.length ≤ 4611686018427387904) : Calls Tryz.prog 11 [.agg #[.int .i64 kind, .int .i64 base, .int .i64 most, .slice A hs.length c, .slice B rs.length d], .agg #[.int .i64 u, .int .i64 v]].toArray w (K.RetSE 3 1 K.eI (cutsR kind base most hs rs u v) (askE kind base most hs rs u v) w) := by
  by_cases he : (chk kind base most hs rs).2.2 = 0
  · have h := g17 (A := A) (B := B) (c := c) (d := d) (u := u) (v := v) (w := w) hH hR (chk_good he)
    have g := chk_good he
    rw [← askE_good g] at h
    exact h
  · have h := e17 (A := A) (B := B) (c := c) (d := d) (u := u) (v := v) (w := w) hH hR hn hm he
    have e : cutsR kind base most hs rs u v = [] := by unfold cutsR; rw [if_neg (by rw [askE_bad he]; exact he)]
    rw [e, askE_bad he]
    exact h


set_option maxRecDepth 100000 in
theorem e20 {kind base most : Int} {A B : Option Addr} {c d : Nat} {hs : List Int} {rs : List (Int × Int)} {u v : Int} {w : World} (hH : K.Rd w A 1 K.eI hs) (hR : K.Rd w B 2 K.eP rs) (hn : hs.length ≤ 4611686018427387904) (hm : rs.length ≤ 4611686018427387904) (he : (chk kind base most hs rs).2.2 ≠ 0) :
    Calls Tryz.prog 20 [.agg #[.int .i64 kind, .int .i64 base, .int .i64 most, .slice A hs.length c, .slice B rs.length d], .agg #[.int .i64 u, .int .i64 v]].toArray w (K.RetSE 3 1 K.eI ([] : List Int) (chk kind base most hs rs).2.2 w) := by
  refine K.enter (args := [.agg #[.int .i64 kind, .int .i64 base, .int .i64 most, .slice A hs.length c, .slice B rs.length d], .agg #[.int .i64 u, .int .i64 v]]) Tryz.func20 rfl (n := 42) rfl ?_
  simp only [List.replicate, List.cons_append, List.nil_append]
  refine K.seq ?_
  refine K.region_lit ?_
  refine K.seq_new (K.box) rfl ?_
  intro b2
  try dsimp only [setd, setn, ev, nth, over, cl, eI, eP, eT, List.map, List.append, List.drop, List.take]
  refine K.seq_new (K.box) rfl ?_
  intro b3
  try dsimp only [setd, setn, ev, nth, over, cl, eI, eP, eT, List.map, List.append, List.drop, List.take]
  refine K.seq_pure (K.assign) rfl ?_
  refine Rv.zn ?_
  refine K.seq_pure (K.assign) rfl ?_
  refine Rv.zn ?_
  refine K.seq_nil ?_
  refine K.norm_then ?_
  refine K.seq ?_
  refine K.region_lit ?_
  refine K.seq_sil (K.loadA_own ag_38 rfl (K.m1) rfl) rfl ?_
  try dsimp only [setd, setn, ev, nth, over, cl, eI, eP, eT, List.map, List.append, List.drop, List.take]
  refine K.seq_sil (K.loadA_own ag_42 rfl (K.m0) rfl) rfl ?_
  try dsimp only [setd, setn, ev, nth, over, cl, eI, eP, eT, List.map, List.append, List.drop, List.take]
  refine K.seq_new (K.buildSlice (bs27 _ _)) rfl ?_
  intro b14
  try dsimp only [setd, setn, ev, nth, over, cl, eI, eP, eT, List.map, List.append, List.drop, List.take]
  refine K.seq_call (K.call_g cal_44 (fun F w hF hw => e58 (l := [(u, v)]) (hH.pass hw) (hR.pass hw) hn hm he)) rfl ?_
  try dsimp only [setd, setn, ev, nth, over, cl, eI, eP, eT, List.map, List.append, List.drop, List.take]
  refine K.seq_pure (K.move) rfl ?_
  refine Rv.zn ?_
  refine K.seq_pure (K.extract rfl rfl) rfl ?_
  refine Rv.zn ?_
  refine K.seq_pure (K.extract rfl rfl) rfl ?_
  refine Rv.zn ?_
  refine K.seq_new (K.alloc zr_99) rfl ?_
  intro b6
  try dsimp only [setd, setn, ev, nth, over, cl, eI, eP, eT, List.map, List.append, List.drop, List.take]
  refine K.seq_st (K.store_all sz_99 rfl rfl rfl rfl (K.rp0)) rfl ?_
  try dsimp only [setd, setn, ev, nth, over, cl, eI, eP, eT, List.map, List.append, List.drop, List.take]
  refine K.seq_pure (K.assign) rfl ?_
  refine Rv.zn ?_
  refine K.seq_nil ?_
  refine K.norm_then ?_
  refine K.seq ?_
  refine K.seq ?_
  refine K.region_lit ?_
  refine K.seq_pure (K.move) rfl ?_
  refine Rv.zn ?_
  refine K.seq_pure (K.neq rfl rfl) rfl ?_
  refine Rv.zn ?_
  refine K.seq_nil ?_
  refine K.norm_then ?_
  refine K.cond rfl (fun ht19 => ?_) (fun ht19 => ?_)
  · try replace ht19 := of_decide_eq_true ht19
    refine K.seq ?_
    refine K.region_lit ?_
    refine K.seq_pure (K.move) rfl ?_
    refine Rv.zn ?_
    refine K.seq_pure (K.assign) rfl ?_
    refine Rv.zn ?_
    refine K.seq_pure (K.assign) rfl ?_
    refine Rv.zn ?_
    refine K.seq_nil ?_
    refine K.norm_then ?_
    refine K.ret ?_
    refine K.ret_then ?_
    refine K.end_ret (fun w _ => K.res_tmp2 rfl w) ?_
    exact K.rets_se0 rfl rfl rfl
  try replace ht19 := of_decide_eq_false ht19
  exact absurd he ht19

set_option maxRecDepth 100000 in
theorem g20 {kind base most : Int} {A B : Option Addr} {c d : Nat} {hs : List Int} {rs : List (Int × Int)} {u v : Int} {w : World} (hH : K.Rd w A 1 K.eI hs) (hR : K.Rd w B 2 K.eP rs) (g : Good kind base most hs rs) :
    Calls Tryz.prog 20 [.agg #[.int .i64 kind, .int .i64 base, .int .i64 most, .slice A hs.length c, .slice B rs.length d], .agg #[.int .i64 u, .int .i64 v]].toArray w (K.RetSE 3 1 K.eI (if scE u v = 0 then offs u v hs (cuts kind base u v hs) rs else []) (scE u v) w) := by
  have g1 := g.k
  have g2 := g.n
  have g3 := g.r
  have g4 := g.b
  have g5 := g.m
  refine K.enter (args := [.agg #[.int .i64 kind, .int .i64 base, .int .i64 most, .slice A hs.length c, .slice B rs.length d], .agg #[.int .i64 u, .int .i64 v]]) Tryz.func20 rfl (n := 42) rfl ?_
  simp only [List.replicate, List.cons_append, List.nil_append]
  refine K.seq ?_
  refine K.region_lit ?_
  refine K.seq_new (K.box) rfl ?_
  intro b2
  try dsimp only [setd, setn, ev, nth, over, cl, eI, eP, eT, List.map, List.append, List.drop, List.take]
  refine K.seq_new (K.box) rfl ?_
  intro b3
  try dsimp only [setd, setn, ev, nth, over, cl, eI, eP, eT, List.map, List.append, List.drop, List.take]
  refine K.seq_pure (K.assign) rfl ?_
  refine Rv.zn ?_
  refine K.seq_pure (K.assign) rfl ?_
  refine Rv.zn ?_
  refine K.seq_nil ?_
  refine K.norm_then ?_
  refine K.seq ?_
  refine K.region_lit ?_
  refine K.seq_sil (K.loadA_own ag_38 rfl (K.m1) rfl) rfl ?_
  try dsimp only [setd, setn, ev, nth, over, cl, eI, eP, eT, List.map, List.append, List.drop, List.take]
  refine K.seq_sil (K.loadA_own ag_42 rfl (K.m0) rfl) rfl ?_
  try dsimp only [setd, setn, ev, nth, over, cl, eI, eP, eT, List.map, List.append, List.drop, List.take]
  refine K.seq_new (K.buildSlice (bs27 _ _)) rfl ?_
  intro b14
  try dsimp only [setd, setn, ev, nth, over, cl, eI, eP, eT, List.map, List.append, List.drop, List.take]
  refine K.seq_call (K.call_g cal_44 (fun F w hF hw => c58 (l := [(u, v)]) (hH.pass hw) (hR.pass hw) g (K.Rd.lit hw (hF _ (K.m0)) (fun _ => rfl) (by decide) rfl) (by simp))) rfl ?_
  try dsimp only [setd, setn, ev, nth, over, cl, eI, eP, eT, List.map, List.append, List.drop, List.take]
  refine K.seq_pure (K.move) rfl ?_
  refine Rv.zn ?_
  refine K.seq_pure (K.extract rfl rfl) rfl ?_
  refine Rv.zn ?_
  refine K.seq_pure (K.extract rfl rfl) rfl ?_
  refine Rv.zn ?_
  refine K.seq_new (K.alloc zr_99) rfl ?_
  intro b6
  try dsimp only [setd, setn, ev, nth, over, cl, eI, eP, eT, List.map, List.append, List.drop, List.take]
  refine K.seq_st (K.store_all sz_99 rfl rfl rfl rfl (K.rp0)) rfl ?_
  try dsimp only [setd, setn, ev, nth, over, cl, eI, eP, eT, List.map, List.append, List.drop, List.take]
  refine K.seq_pure (K.assign) rfl ?_
  refine Rv.zn ?_
  refine K.seq_nil ?_
  refine K.norm_then ?_
  refine K.seq ?_
  refine K.seq ?_
  refine K.region_lit ?_
  refine K.seq_pure (K.move) rfl ?_
  refine Rv.zn ?_
  refine K.seq_pure (K.neq rfl rfl) rfl ?_
  refine Rv.zn ?_
  refine K.seq_nil ?_
  refine K.norm_then ?_
  refine K.cond rfl (fun ht19 => ?_) (fun ht19 => ?_)
  · try replace ht19 := of_decide_eq_true ht19
    refine K.seq ?_
    refine K.region_lit ?_
    refine K.seq_pure (K.move) rfl ?_
    refine Rv.zn ?_
    refine K.seq_pure (K.assign) rfl ?_
    refine Rv.zn ?_
    refine K.seq_pure (K.assign) rfl ?_
    refine Rv.zn ?_
    refine K.seq_nil ?_
    refine K.norm_then ?_
    refine K.ret ?_
    refine K.ret_then ?_
    refine K.end_ret (fun w _ => K.res_tmp2 rfl w) ?_
    exact K.rets_se0 (by rw [if_neg (by rw [← scsE1]; exact ht19)]) scsE1 rfl
  try replace ht19 := of_decide_eq_false ht19
  have hp : Parts u v := scE_parts (by have h1 := @scsE1 u v; omega)
  refine K.skip ?_
  refine K.norm_then ?_
  refine K.seq ?_
  refine K.region_lit ?_
  refine K.seq_sil (K.loadA_own ag_99 rfl (K.m0) rfl) rfl ?_
  try dsimp only [setd, setn, ev, nth, over, cl, eI, eP, eT, List.map, List.append, List.drop, List.take]
  refine K.seq_sil (K.loadA_own ag_42 rfl (K.m2) rfl) rfl ?_
  try dsimp only [setd, setn, ev, nth, over, cl, eI, eP, eT, List.map, List.append, List.drop, List.take]
  refine K.seq_call (K.call_g cal_45 (fun F w hF hw => c59 (hH.pass hw) g hp)) rfl ?_
  try dsimp only [setd, setn, ev, nth, over, cl, eI, eP, eT, List.map, List.append, List.drop, List.take]
  refine K.seq_pure (K.move) rfl ?_
  refine Rv.zn ?_
  refine K.seq_pure (K.extract rfl rfl) rfl ?_
  refine Rv.zn ?_
  refine K.seq_pure (K.extract rfl rfl) rfl ?_
  refine Rv.zn ?_
  refine K.seq_new (K.alloc zr_103) rfl ?_
  intro b7
  try dsimp only [setd, setn, ev, nth, over, cl, eI, eP, eT, List.map, List.append, List.drop, List.take]
  refine K.seq_st (K.store_all sz_103 rfl rfl rfl rfl (K.rp0)) rfl ?_
  try dsimp only [setd, setn, ev, nth, over, cl, eI, eP, eT, List.map, List.append, List.drop, List.take]
  refine K.seq_pure (K.assign) rfl ?_
  refine Rv.zn ?_
  refine K.seq_nil ?_
  refine K.norm_then ?_
  refine K.seq ?_
  refine K.seq ?_
  refine K.region_lit ?_
  refine K.nil_row (e := 3) (size := 1) ?_
  refine K.seq_pure (K.fieldAddr_lit fo_38_4 rfl) rfl ?_
  refine Rv.zn ?_
  refine K.seq_sil (K.load1_own one_36 rfl (K.m5) rfl) rfl ?_
  try dsimp only [setd, setn, ev, nth, over, cl, eI, eP, eT, List.map, List.append, List.drop, List.take]
  refine K.seq_pure (K.len_sl sl_36 rfl) rfl ?_
  refine Rv.zn ?_
  refine K.seq_pure (K.move) rfl ?_
  refine Rv.zn ?_
  refine K.seq_nil ?_
  refine K.norm_then ?_
  refine K.block ?_
  refine K.loopW [4, 30] [10, 31, 32, 33, 34, 35, 36, 37, 38, 39, 40, 41, 42] (fun vi L => ∃ (k : Nat) (Q1 : Option Addr) (q1 : Nat) (ys : List Value), vi = [.slice Q1 k q1, .int .i64 (k : Int)] ∧ L = [K.row (.slice Q1 k q1) 3 1 k ys, K.blk b7 103 (a8 (cuts kind base u v hs)), K.blk b6 99 [.int .i64 kind, .int .i64 base, .int .i64 most, .slice A hs.length c, .slice B rs.length d, .func (.func (110 + kind.toNat)) #[] #[]], K.blk b14 42 [.int .i64 u, .int .i64 v], K.blk b3 42 [.int .i64 u, .int .i64 v], K.blk b2 38 [.int .i64 kind, .int .i64 base, .int .i64 most, .slice A hs.length c, .slice B rs.length d]] ∧ ys = ((rs.take k).map (fun r => offS u v (riseS hs r) (riseS (cuts kind base u v hs) r))).flatMap K.eI ∧ k ≤ rs.length) (fun vi => rs.length - (intOf (K.nth vi 1)).toNat) ?_ ?_
  · exact ⟨0, none, 0, [], rfl, rfl, rfl, Nat.zero_le _⟩
  intro vi vr L hJ
  obtain ⟨k, Q1, q1, ys, rfl, rfl, hys, hkn⟩ := hJ
  try dsimp only [setd, setn, ev, nth, over, cl, eI, eP, eT, setM, setF, List.map, List.append, List.drop, List.take]
  refine K.seq ?_
  refine K.region_lit ?_
  refine K.seq_pure (K.lss rfl rfl) rfl ?_
  refine Rv.zn ?_
  refine K.seq_nil ?_
  refine K.norm_then ?_
  refine K.seq ?_
  refine K.cond rfl (fun ht31 => ?_) (fun ht31 => ?_)
  · try replace ht31 := of_decide_eq_true ht31
    have hk : k < rs.length := by omega
    refine K.skip ?_
    refine K.norm_then ?_
    refine K.seq ?_
    refine K.block ?_
    refine K.seq ?_
    refine K.region_lit ?_
    refine K.seq_ix (M := []) _ hR.sl sl_36 rfl rfl rfl (by omega) rfl ?_
    intro p32 hp32
    try dsimp only [setd, setn, ev, nth, over, cl, eI, eP, eT, List.map, List.append, List.drop, List.take]
    refine K.seq_sil (K.loadA_p ag_94 rfl (hp32.any) rfl) rfl ?_
    try dsimp only [setd, setn, ev, nth, over, cl, eI, eP, eT, List.map, List.append, List.drop, List.take]
    refine K.seq_new (K.alloc zr_94) rfl ?_
    intro b10
    try dsimp only [setd, setn, ev, nth, over, cl, eI, eP, eT, List.map, List.append, List.drop, List.take]
    refine K.seq_st (K.store_all sz_94 rfl rfl rfl rfl (K.rp0)) rfl ?_
    try dsimp only [setd, setn, ev, nth, over, cl, eI, eP, eT, List.map, List.append, List.drop, List.take]
    refine K.seq_nil ?_
    refine K.norm_then ?_
    refine K.region_lit ?_
    refine K.seq_pure (K.move) rfl ?_
    refine Rv.zn ?_
    refine K.seq_sil (K.loadA_own ag_99 rfl (K.m3) rfl) rfl ?_
    try dsimp only [setd, setn, ev, nth, over, cl, eI, eP, eT, List.map, List.append, List.drop, List.take]
    refine K.seq_sil (K.loadA_own ag_94 rfl (K.m0) rfl) rfl ?_
    try dsimp only [setd, setn, ev, nth, over, cl, eI, eP, eT, List.map, List.append, List.drop, List.take]
    refine K.seq_sil (K.loadA_own ag_42 rfl (K.m5) rfl) rfl ?_
    try dsimp only [setd, setn, ev, nth, over, cl, eI, eP, eT, List.map, List.append, List.drop, List.take]
    refine K.seq_sil (K.loadA_own ag_103 rfl ((K.m2)) rfl) rfl ?_
    try dsimp only [setd, setn, ev, nth, over, cl, eI, eP, eT, List.map, List.append, List.drop, List.take]
    refine K.seq_call (K.call_g cal_51 (fun F w hF hw => c62 (r := rs.getD k default) (cs := (cuts kind base u v hs)) (hH.pass hw) (g.road4 hk) (by omega) g.bdh (g.bdc hp) hp)) rfl ?_
    try dsimp only [setd, setn, ev, nth, over, cl, eI, eP, eT, List.map, List.append, List.drop, List.take]
    refine K.seq_new (K.buildSlice (bs1 _)) rfl ?_
    intro b40
    try dsimp only [setd, setn, ev, nth, over, cl, eI, eP, eT, List.map, List.append, List.drop, List.take]
    refine K.seq_upd (K.append el_28 rfl rfl (K.PtrL.own' (K.m0)) rfl rfl (by decide) (by omega) (by omega) (fun _ _ => K.rp2)) rfl ?_
    rintro ⟨g41, c41⟩ _
    try dsimp only [setd, setn, ev, nth, over, cl, eI, eP, eT, List.map, List.append, List.drop, List.take]
    refine K.seq_pure (K.assign) rfl ?_
    refine Rv.zn ?_
    refine K.seq_nil ?_
    refine K.norm_block ?_
    refine K.norm_then ?_
    refine K.region_lit ?_
    refine K.seq_pure (K.add_i64 rfl rfl (by omega)) rfl ?_
    refine Rv.zn ?_
    refine K.seq_pure (K.move) rfl ?_
    refine Rv.zn ?_
    refine K.seq_nil ?_
    exact K.round_endW [.slice (some ⟨g41, 0, none⟩) (k + 1) c41, .int .i64 ((k : Int) + 1)] ⟨k + 1, _, _, _, rfl, rfl, by rw [take_succ_map _ hk, List.flatMap_append, ← hys], by omega⟩ (by simp [K.nth, intOf]; omega) (by repeat (first | exact List.Sublist.refl _ | apply List.Sublist.cons)) (by kernel_rfl)
  try replace ht31 := of_decide_eq_false ht31
  refine K.exit ?_
  refine K.exit_then ?_
  refine K.exit_then ?_
  refine K.exit_here ?_
  refine K.norm_then ?_
  refine K.seq ?_
  refine K.region_lit ?_
  refine K.seq_pure (K.move) rfl ?_
  refine Rv.zn ?_
  refine K.seq_pure (K.assign) rfl ?_
  refine Rv.zn ?_
  refine K.seq_pure (K.assign) rfl ?_
  refine Rv.zn ?_
  refine K.seq_nil ?_
  refine K.norm_then ?_
  refine K.ret ?_
  refine K.end_ret (fun w _ => K.res_tmp2 rfl w) ?_
  have hs0 : scE u v = 0 := (by have h1 := @scsE1 u v; omega)
  rw [if_pos hs0, hs0]
  exact K.rets_se (List.Mem.head _) (by unfold offs; rw [List.length_map]; omega) (by rw [hys, take_all (xs := rs) (by omega)]; rfl) rfl rfl

theorem c20 {kind base most : Int} {A B : Option Addr} {c d : Nat} {hs : List Int} {rs : List (Int × Int)} {u v : Int} {w : World} (hH : K.Rd w A 1 K.eI hs) (hR : K.Rd w B 2 K.eP rs) (hn : hs.length ≤ 4611686018427387904) (hm : rs.length ≤ 4611686018427387904) : Calls Tryz.prog 20 [.agg #[.int .i64 kind, .int .i64 base, .int .i64 most, .slice A hs.length c, .slice B rs.length d], .agg #[.int .i64 u, .int .i64 v]].toArray w (K.RetSE 3 1 K.eI (offsR kind base most hs rs u v) (askE kind base most hs rs u v) w) := by
  by_cases he : (chk kind base most hs rs).2.2 = 0
  · have h := g20 (A := A) (B := B) (c := c) (d := d) (u := u) (v := v) (w := w) hH hR (chk_good he)
    have g := chk_good he
    rw [← askE_good g] at h
    exact h
  · have h := e20 (A := A) (B := B) (c := c) (d := d) (u := u) (v := v) (w := w) hH hR hn hm he
    have e : offsR kind base most hs rs u v = [] := by unfold offsR; rw [if_neg (by rw [askE_bad he]; exact he)]
    rw [e, askE_bad he]
    exact h


set_option maxRecDepth 100000 in
theorem e22 {kind base most : Int} {A B : Option Addr} {c d : Nat} {hs : List Int} {rs : List (Int × Int)} {u v : Int} {w : World} (hH : K.Rd w A 1 K.eI hs) (hR : K.Rd w B 2 K.eP rs) (hn : hs.length ≤ 4611686018427387904) (hm : rs.length ≤ 4611686018427387904) (he : (chk kind base most hs rs).2.2 ≠ 0) :
    Calls Tryz.prog 21 [.agg #[.int .i64 kind, .int .i64 base, .int .i64 most, .slice A hs.length c, .slice B rs.length d], .agg #[.int .i64 u, .int .i64 v]].toArray w (K.RetSE 3 1 K.eI ([] : List Int) (chk kind base most hs rs).2.2 w) := by
  refine K.enter (args := [.agg #[.int .i64 kind, .int .i64 base, .int .i64 most, .slice A hs.length c, .slice B rs.length d], .agg #[.int .i64 u, .int .i64 v]]) Tryz.func21 rfl (n := 27) rfl ?_
  simp only [List.replicate, List.cons_append, List.nil_append]
  refine K.seq ?_
  refine K.region_lit ?_
  refine K.seq_new (K.box) rfl ?_
  intro b2
  try dsimp only [setd, setn, ev, nth, over, cl, eI, eP, eT, List.map, List.append, List.drop, List.take]
  refine K.seq_new (K.box) rfl ?_
  intro b3
  try dsimp only [setd, setn, ev, nth, over, cl, eI, eP, eT, List.map, List.append, List.drop, List.take]
  refine K.seq_pure (K.assign) rfl ?_
  refine Rv.zn ?_
  refine K.seq_pure (K.assign) rfl ?_
  refine Rv.zn ?_
  refine K.seq_nil ?_
  refine K.norm_then ?_
  refine K.seq ?_
  refine K.region_lit ?_
  refine K.seq_sil (K.loadA_own ag_38 rfl (K.m1) rfl) rfl ?_
  try dsimp only [setd, setn, ev, nth, over, cl, eI, eP, eT, List.map, List.append, List.drop, List.take]
  refine K.seq_sil (K.loadA_own ag_42 rfl (K.m0) rfl) rfl ?_
  try dsimp only [setd, setn, ev, nth, over, cl, eI, eP, eT, List.map, List.append, List.drop, List.take]
  refine K.seq_new (K.buildSlice (bs27 _ _)) rfl ?_
  intro b13
  try dsimp only [setd, setn, ev, nth, over, cl, eI, eP, eT, List.map, List.append, List.drop, List.take]
  refine K.seq_call (K.call_g cal_44 (fun F w hF hw => e58 (l := [(u, v)]) (hH.pass hw) (hR.pass hw) hn hm he)) rfl ?_
  try dsimp only [setd, setn, ev, nth, over, cl, eI, eP, eT, List.map, List.append, List.drop, List.take]
  refine K.seq_pure (K.move) rfl ?_
  refine Rv.zn ?_
  refine K.seq_pure (K.extract rfl rfl) rfl ?_
  refine Rv.zn ?_
  refine K.seq_pure (K.extract rfl rfl) rfl ?_
  refine Rv.zn ?_
  refine K.seq_new (K.alloc zr_99) rfl ?_
  intro b6
  try dsimp only [setd, setn, ev, nth, over, cl, eI, eP, eT, List.map, List.append, List.drop, List.take]
  refine K.seq_st (K.store_all sz_99 rfl rfl rfl rfl (K.rp0)) rfl ?_
  try dsimp only [setd, setn, ev, nth, over, cl, eI, eP, eT, List.map, List.append, List.drop, List.take]
  refine K.seq_pure (K.assign) rfl ?_
  refine Rv.zn ?_
  refine K.seq_nil ?_
  refine K.norm_then ?_
  refine K.seq ?_
  refine K.seq ?_
  refine K.region_lit ?_
  refine K.seq_pure (K.move) rfl ?_
  refine Rv.zn ?_
  refine K.seq_pure (K.neq rfl rfl) rfl ?_
  refine Rv.zn ?_
  refine K.seq_nil ?_
  refine K.norm_then ?_
  refine K.cond rfl (fun ht18 => ?_) (fun ht18 => ?_)
  · try replace ht18 := of_decide_eq_true ht18
    refine K.seq ?_
    refine K.region_lit ?_
    refine K.seq_pure (K.move) rfl ?_
    refine Rv.zn ?_
    refine K.seq_pure (K.assign) rfl ?_
    refine Rv.zn ?_
    refine K.seq_pure (K.assign) rfl ?_
    refine Rv.zn ?_
    refine K.seq_nil ?_
    refine K.norm_then ?_
    refine K.ret ?_
    refine K.ret_then ?_
    refine K.end_ret (fun w _ => K.res_tmp2 rfl w) ?_
    exact K.rets_se0 rfl rfl rfl
  try replace ht18 := of_decide_eq_false ht18
  exact absurd he ht18

set_option maxRecDepth 100000 in
theorem g22 {kind base most : Int} {A B : Option Addr} {c d : Nat} {hs : List Int} {rs : List (Int × Int)} {u v : Int} {w : World} (hH : K.Rd w A 1 K.eI hs) (hR : K.Rd w B 2 K.eP rs) (g : Good kind base most hs rs) :
    Calls Tryz.prog 21 [.agg #[.int .i64 kind, .int .i64 base, .int .i64 most, .slice A hs.length c, .slice B rs.length d], .agg #[.int .i64 u, .int .i64 v]].toArray w (K.RetSE 3 1 K.eI (if scE u v = 0 then flats hs (cuts kind base u v hs) rs else []) (scE u v) w) := by
  have g1 := g.k
  have g2 := g.n
  have g3 := g.r
  have g4 := g.b
  have g5 := g.m
  refine K.enter (args := [.agg #[.int .i64 kind, .int .i64 base, .int .i64 most, .slice A hs.length c, .slice B rs.length d], .agg #[.int .i64 u, .int .i64 v]]) Tryz.func21 rfl (n := 27) rfl ?_
  simp only [List.replicate, List.cons_append, List.nil_append]
  refine K.seq ?_
  refine K.region_lit ?_
  refine K.seq_new (K.box) rfl ?_
  intro b2
  try dsimp only [setd, setn, ev, nth, over, cl, eI, eP, eT, List.map, List.append, List.drop, List.take]
  refine K.seq_new (K.box) rfl ?_
  intro b3
  try dsimp only [setd, setn, ev, nth, over, cl, eI, eP, eT, List.map, List.append, List.drop, List.take]
  refine K.seq_pure (K.assign) rfl ?_
  refine Rv.zn ?_
  refine K.seq_pure (K.assign) rfl ?_
  refine Rv.zn ?_
  refine K.seq_nil ?_
  refine K.norm_then ?_
  refine K.seq ?_
  refine K.region_lit ?_
  refine K.seq_sil (K.loadA_own ag_38 rfl (K.m1) rfl) rfl ?_
  try dsimp only [setd, setn, ev, nth, over, cl, eI, eP, eT, List.map, List.append, List.drop, List.take]
  refine K.seq_sil (K.loadA_own ag_42 rfl (K.m0) rfl) rfl ?_
  try dsimp only [setd, setn, ev, nth, over, cl, eI, eP, eT, List.map, List.append, List.drop, List.take]
  refine K.seq_new (K.buildSlice (bs27 _ _)) rfl ?_
  intro b13
  try dsimp only [setd, setn, ev, nth, over, cl, eI, eP, eT, List.map, List.append, List.drop, List.take]
  refine K.seq_call (K.call_g cal_44 (fun F w hF hw => c58 (l := [(u, v)]) (hH.pass hw) (hR.pass hw) g (K.Rd.lit hw (hF _ (K.m0)) (fun _ => rfl) (by decide) rfl) (by simp))) rfl ?_
  try dsimp only [setd, setn, ev, nth, over, cl, eI, eP, eT, List.map, List.append, List.drop, List.take]
  refine K.seq_pure (K.move) rfl ?_
  refine Rv.zn ?_
  refine K.seq_pure (K.extract rfl rfl) rfl ?_
  refine Rv.zn ?_
  refine K.seq_pure (K.extract rfl rfl) rfl ?_
  refine Rv.zn ?_
  refine K.seq_new (K.alloc zr_99) rfl ?_
  intro b6
  try dsimp only [setd, setn, ev, nth, over, cl, eI, eP, eT, List.map, List.append, List.drop, List.take]
  refine K.seq_st (K.store_all sz_99 rfl rfl rfl rfl (K.rp0)) rfl ?_
  try dsimp only [setd, setn, ev, nth, over, cl, eI, eP, eT, List.map, List.append, List.drop, List.take]
  refine K.seq_pure (K.assign) rfl ?_
  refine Rv.zn ?_
  refine K.seq_nil ?_
  refine K.norm_then ?_
  refine K.seq ?_
  refine K.seq ?_
  refine K.region_lit ?_
  refine K.seq_pure (K.move) rfl ?_
  refine Rv.zn ?_
  refine K.seq_pure (K.neq rfl rfl) rfl ?_
  refine Rv.zn ?_
  refine K.seq_nil ?_
  refine K.norm_then ?_
  refine K.cond rfl (fun ht18 => ?_) (fun ht18 => ?_)
  · try replace ht18 := of_decide_eq_true ht18
    refine K.seq ?_
    refine K.region_lit ?_
    refine K.seq_pure (K.move) rfl ?_
    refine Rv.zn ?_
    refine K.seq_pure (K.assign) rfl ?_
    refine Rv.zn ?_
    refine K.seq_pure (K.assign) rfl ?_
    refine Rv.zn ?_
    refine K.seq_nil ?_
    refine K.norm_then ?_
    refine K.ret ?_
    refine K.ret_then ?_
    refine K.end_ret (fun w _ => K.res_tmp2 rfl w) ?_
    exact K.rets_se0 (by rw [if_neg (by rw [← scsE1]; exact ht18)]) scsE1 rfl
  try replace ht18 := of_decide_eq_false ht18
  have hp : Parts u v := scE_parts (by have h1 := @scsE1 u v; omega)
  refine K.skip ?_
  refine K.norm_then ?_
  refine K.seq ?_
  refine K.region_lit ?_
  refine K.seq_sil (K.loadA_own ag_99 rfl (K.m0) rfl) rfl ?_
  try dsimp only [setd, setn, ev, nth, over, cl, eI, eP, eT, List.map, List.append, List.drop, List.take]
  refine K.seq_sil (K.loadA_own ag_42 rfl (K.m2) rfl) rfl ?_
  try dsimp only [setd, setn, ev, nth, over, cl, eI, eP, eT, List.map, List.append, List.drop, List.take]
  refine K.seq_call (K.call_g cal_45 (fun F w hF hw => c59 (hH.pass hw) g hp)) rfl ?_
  try dsimp only [setd, setn, ev, nth, over, cl, eI, eP, eT, List.map, List.append, List.drop, List.take]
  refine K.seq_pure (K.move) rfl ?_
  refine Rv.zn ?_
  refine K.seq_pure (K.extract rfl rfl) rfl ?_
  refine Rv.zn ?_
  refine K.seq_pure (K.extract rfl rfl) rfl ?_
  refine Rv.zn ?_
  refine K.seq_new (K.alloc zr_103) rfl ?_
  intro b8
  try dsimp only [setd, setn, ev, nth, over, cl, eI, eP, eT, List.map, List.append, List.drop, List.take]
  refine K.seq_st (K.store_all sz_103 rfl rfl rfl rfl (K.rp0)) rfl ?_
  try dsimp only [setd, setn, ev, nth, over, cl, eI, eP, eT, List.map, List.append, List.drop, List.take]
  refine K.seq_pure (K.assign) rfl ?_
  refine Rv.zn ?_
  refine K.seq_nil ?_
  refine K.norm_then ?_
  refine K.seq ?_
  refine K.region_lit ?_
  refine K.seq_sil (K.loadA_own ag_99 rfl (K.m1) rfl) rfl ?_
  try dsimp only [setd, setn, ev, nth, over, cl, eI, eP, eT, List.map, List.append, List.drop, List.take]
  refine K.seq_sil (K.loadA_own ag_103 rfl ((K.m0)) rfl) rfl ?_
  try dsimp only [setd, setn, ev, nth, over, cl, eI, eP, eT, List.map, List.append, List.drop, List.take]
  refine K.seq_loud (K.call_f cal_52 (fun F w hF hw => c64 (cs := (cuts kind base u v hs)) (hH.pass hw) (hR.pass hw) (by omega) g.bdh (g.bdc hp) (fun i hi => g.road4 hi) (by omega))) rfl ?_
  rintro ⟨A2, c2⟩ hA2
  try dsimp only [setd, setn, ev, nth, over, cl, eI, eP, eT, List.map, List.append, List.drop, List.take]
  refine K.seq_pure (K.assign) rfl ?_
  refine Rv.zn ?_
  refine K.seq_pure (K.assign) rfl ?_
  refine Rv.zn ?_
  refine K.seq_nil ?_
  refine K.norm_then ?_
  refine K.ret ?_
  refine K.end_ret (fun w _ => K.res_tmp2 rfl w) ?_
  have hs0 : scE u v = 0 := (by have h1 := @scsE1 u v; omega)
  rw [if_pos hs0, hs0]
  exact K.rets_se (List.Mem.head _) rfl rfl rfl rfl

theorem c22 {kind base most : Int} {A B : Option Addr} {c d : Nat} {hs : List Int} {rs : List (Int × Int)} {u v : Int} {w : World} (hH : K.Rd w A 1 K.eI hs) (hR : K.Rd w B 2 K.eP rs) (hn : hs.length ≤ 4611686018427387904) (hm : rs.length ≤ 4611686018427387904) : Calls Tryz.prog 21 [.agg #[.int .i64 kind, .int .i64 base, .int .i64 most, .slice A hs.length c, .slice B rs.length d], .agg #[.int .i64 u, .int .i64 v]].toArray w (K.RetSE 3 1 K.eI (flatsR kind base most hs rs u v) (askE kind base most hs rs u v) w) := by
  by_cases he : (chk kind base most hs rs).2.2 = 0
  · have h := g22 (A := A) (B := B) (c := c) (d := d) (u := u) (v := v) (w := w) hH hR (chk_good he)
    have g := chk_good he
    rw [← askE_good g] at h
    exact h
  · have h := e22 (A := A) (B := B) (c := c) (d := d) (u := u) (v := v) (w := w) hH hR hn hm he
    have e : flatsR kind base most hs rs u v = [] := by unfold flatsR; rw [if_neg (by rw [askE_bad he]; exact he)]
    rw [e, askE_bad he]
    exact h


end Go.Proofs.YtekkpcpbnonkaaaGreatDoor.Sc
end
section
set_option linter.unusedSimpArgs false
set_option linter.unusedVariables false
namespace Go.Proofs.YtekkpcpbnonkaaaGreatDoor.Sc
open Go.RowKit Go
open Go.K (setd setn ev nth over cl eI eP eT setM setF)
attribute [local irreducible] K.blk K.row
theorem key101 : Tryz.prog.keyTypeAt 10 103 = true := by kernel_rfl
theorem guard101 : Tryz.prog.eqGuardType Tryz.prog.depth 103 = false := by kernel_rfl
theorem form101 (xs : List Int) : (Value.agg (a8 xs).toArray).formed Tryz.prog 103 = true := by kernel_rfl
theorem scsE2_0 {u v u2 v2 : Int} (h : scsE [(u, v), (u2, v2)] = 0) : scE u v = 0 ∧ scE u2 v2 = 0 := by
  rw [scsE2] at h
  by_cases h1 : scE u v = 0
  · rw [if_neg (by omega)] at h; exact ⟨h1, h⟩
  · rw [if_pos h1] at h; exact absurd h h1
theorem ul3 : Tryz.prog.underlying 3 = some (.int .i64) := by kernel_rfl
theorem ul101 : Tryz.prog.underlying 103 = some (.array 8 3) := by kernel_rfl
theorem co3 : Tryz.prog.cellsOf 3 = 1 := by kernel_rfl
theorem co101 : Tryz.prog.cellsOf 103 = 8 := by kernel_rfl
theorem lits3 {n : Int} (h : (Lit.int .i64 n).wf = true) : Tryz.prog.keyLits 4 3 [.int .i64 n] = some [.int .i64 n] := by
  unfold Program.keyLits
  rw [ul3]
  simp [h]
theorem lits101 {xs : List Int} (h : Bd 0 270001 xs) : Tryz.prog.keyLits 5 103 (Value.agg (a8 xs).toArray).cells.toList = some (litA8 xs) := by
  have w : ∀ i, (Lit.int .i64 (xs.getD i default)).wf = true := fun i => WalkArith.wf_i64 (by have := h i; omega)
  have e : (Value.agg (a8 xs).toArray).cells.toList = a8 xs := rfl
  rw [e]
  unfold Program.keyLits
  rw [ul101]
  have e2 : List.range 8 = [0, 1, 2, 3, 4, 5, 6, 7] := rfl
  have e3 : ∀ i, i < 8 → ((a8 xs).drop (i * 1)).take 1 = [.int .i64 (xs.getD i default)] := fun i hi => by
    have : i = 0 ∨ i = 1 ∨ i = 2 ∨ i = 3 ∨ i = 4 ∨ i = 5 ∨ i = 6 ∨ i = 7 := by omega
    rcases this with h | h | h | h | h | h | h | h <;> subst h <;> rfl
  simp only [co101, co3, a8_len, if_true, e2, List.mapM_cons, List.mapM_nil, e3 0 (by omega), e3 1 (by omega), e3 2 (by omega), e3 3 (by omega), e3 4 (by omega), e3 5 (by omega), e3 6 (by omega), e3 7 (by omega), lits3 (w _)]
  rfl

set_option maxRecDepth 100000 in
theorem e24 {kind base most : Int} {A B : Option Addr} {c d : Nat} {hs : List Int} {rs : List (Int × Int)} {u v u2 v2 : Int} {w : World} (hH : K.Rd w A 1 K.eI hs) (hR : K.Rd w B 2 K.eP rs) (hn : hs.length ≤ 4611686018427387904) (hm : rs.length ≤ 4611686018427387904) (he : (chk kind base most hs rs).2.2 ≠ 0) :
    Calls Tryz.prog 26 [.agg #[.int .i64 kind, .int .i64 base, .int .i64 most, .slice A hs.length c, .slice B rs.length d], .agg #[.int .i64 u, .int .i64 v], .agg #[.int .i64 u2, .int .i64 v2]].toArray w (K.RetSE 3 1 K.eI ([] : List Int) (chk kind base most hs rs).2.2 w) := by
  refine K.enter (args := [.agg #[.int .i64 kind, .int .i64 base, .int .i64 most, .slice A hs.length c, .slice B rs.length d], .agg #[.int .i64 u, .int .i64 v], .agg #[.int .i64 u2, .int .i64 v2]]) Tryz.func26 rfl (n := 56) rfl ?_
  simp only [List.replicate, List.cons_append, List.nil_append]
  refine K.seq ?_
  refine K.region_lit ?_
  refine K.seq_new (K.box) rfl ?_
  intro b3
  try dsimp only [setd, setn, ev, nth, over, cl, eI, eP, eT, List.map, List.append, List.drop, List.take]
  refine K.seq_new (K.box) rfl ?_
  intro b4
  try dsimp only [setd, setn, ev, nth, over, cl, eI, eP, eT, List.map, List.append, List.drop, List.take]
  refine K.seq_new (K.box) rfl ?_
  intro b5
  try dsimp only [setd, setn, ev, nth, over, cl, eI, eP, eT, List.map, List.append, List.drop, List.take]
  refine K.seq_pure (K.assign) rfl ?_
  refine Rv.zn ?_
  refine K.seq_pure (K.assign) rfl ?_
  refine Rv.zn ?_
  refine K.seq_nil ?_
  refine K.norm_then ?_
  refine K.seq ?_
  refine K.region_lit ?_
  refine K.seq_sil (K.loadA_own ag_38 rfl (K.m2) rfl) rfl ?_
  try dsimp only [setd, setn, ev, nth, over, cl, eI, eP, eT, List.map, List.append, List.drop, List.take]
  refine K.seq_sil (K.loadA_own ag_42 rfl (K.m1) rfl) rfl ?_
  try dsimp only [setd, setn, ev, nth, over, cl, eI, eP, eT, List.map, List.append, List.drop, List.take]
  refine K.seq_sil (K.loadA_own ag_42 rfl (K.m0) rfl) rfl ?_
  try dsimp only [setd, setn, ev, nth, over, cl, eI, eP, eT, List.map, List.append, List.drop, List.take]
  refine K.seq_new (K.buildSlice (bs27_2 _ _ _ _)) rfl ?_
  intro b18
  try dsimp only [setd, setn, ev, nth, over, cl, eI, eP, eT, List.map, List.append, List.drop, List.take]
  refine K.seq_call (K.call_g cal_44 (fun F w hF hw => e58 (l := [(u, v), (u2, v2)]) (hH.pass hw) (hR.pass hw) hn hm he)) rfl ?_
  try dsimp only [setd, setn, ev, nth, over, cl, eI, eP, eT, List.map, List.append, List.drop, List.take]
  refine K.seq_pure (K.move) rfl ?_
  refine Rv.zn ?_
  refine K.seq_pure (K.extract rfl rfl) rfl ?_
  refine Rv.zn ?_
  refine K.seq_pure (K.extract rfl rfl) rfl ?_
  refine Rv.zn ?_
  refine K.seq_new (K.alloc zr_99) rfl ?_
  intro b8
  try dsimp only [setd, setn, ev, nth, over, cl, eI, eP, eT, List.map, List.append, List.drop, List.take]
  refine K.seq_st (K.store_all sz_99 rfl rfl rfl rfl (K.rp0)) rfl ?_
  try dsimp only [setd, setn, ev, nth, over, cl, eI, eP, eT, List.map, List.append, List.drop, List.take]
  refine K.seq_pure (K.assign) rfl ?_
  refine Rv.zn ?_
  refine K.seq_nil ?_
  refine K.norm_then ?_
  refine K.seq ?_
  refine K.seq ?_
  refine K.region_lit ?_
  refine K.seq_pure (K.move) rfl ?_
  refine Rv.zn ?_
  refine K.seq_pure (K.neq rfl rfl) rfl ?_
  refine Rv.zn ?_
  refine K.seq_nil ?_
  refine K.norm_then ?_
  refine K.cond rfl (fun ht23 => ?_) (fun ht23 => ?_)
  · try replace ht23 := of_decide_eq_true ht23
    refine K.seq ?_
    refine K.region_lit ?_
    refine K.seq_pure (K.move) rfl ?_
    refine Rv.zn ?_
    refine K.seq_pure (K.assign) rfl ?_
    refine Rv.zn ?_
    refine K.seq_pure (K.assign) rfl ?_
    refine Rv.zn ?_
    refine K.seq_nil ?_
    refine K.norm_then ?_
    refine K.ret ?_
    refine K.ret_then ?_
    refine K.end_ret (fun w _ => K.res_tmp2 rfl w) ?_
    exact K.rets_se0 rfl rfl rfl
  try replace ht23 := of_decide_eq_false ht23
  exact absurd he ht23

set_option maxRecDepth 100000 in
theorem g24 {kind base most : Int} {A B : Option Addr} {c d : Nat} {hs : List Int} {rs : List (Int × Int)} {u v u2 v2 : Int} {w : World} (hH : K.Rd w A 1 K.eI hs) (hR : K.Rd w B 2 K.eP rs) (g : Good kind base most hs rs) :
    Calls Tryz.prog 26 [.agg #[.int .i64 kind, .int .i64 base, .int .i64 most, .slice A hs.length c, .slice B rs.length d], .agg #[.int .i64 u, .int .i64 v], .agg #[.int .i64 u2, .int .i64 v2]].toArray w (K.RetSE 3 1 K.eI (if scsE [(u, v), (u2, v2)] = 0 then diffs (cuts kind base u v hs) (cuts kind base u2 v2 hs) else []) (scsE [(u, v), (u2, v2)]) w) := by
  have g1 := g.k
  have g2 := g.n
  have g3 := g.r
  have g4 := g.b
  have g5 := g.m
  have hcl : (cuts kind base u v hs).length = hs.length := cuts_len
  have hcl2 : (cuts kind base u2 v2 hs).length = hs.length := cuts_len
  refine K.enter (args := [.agg #[.int .i64 kind, .int .i64 base, .int .i64 most, .slice A hs.length c, .slice B rs.length d], .agg #[.int .i64 u, .int .i64 v], .agg #[.int .i64 u2, .int .i64 v2]]) Tryz.func26 rfl (n := 56) rfl ?_
  simp only [List.replicate, List.cons_append, List.nil_append]
  refine K.seq ?_
  refine K.region_lit ?_
  refine K.seq_new (K.box) rfl ?_
  intro b3
  try dsimp only [setd, setn, ev, nth, over, cl, eI, eP, eT, List.map, List.append, List.drop, List.take]
  refine K.seq_new (K.box) rfl ?_
  intro b4
  try dsimp only [setd, setn, ev, nth, over, cl, eI, eP, eT, List.map, List.append, List.drop, List.take]
  refine K.seq_new (K.box) rfl ?_
  intro b5
  try dsimp only [setd, setn, ev, nth, over, cl, eI, eP, eT, List.map, List.append, List.drop, List.take]
  refine K.seq_pure (K.assign) rfl ?_
  refine Rv.zn ?_
  refine K.seq_pure (K.assign) rfl ?_
  refine Rv.zn ?_
  refine K.seq_nil ?_
  refine K.norm_then ?_
  refine K.seq ?_
  refine K.region_lit ?_
  refine K.seq_sil (K.loadA_own ag_38 rfl (K.m2) rfl) rfl ?_
  try dsimp only [setd, setn, ev, nth, over, cl, eI, eP, eT, List.map, List.append, List.drop, List.take]
  refine K.seq_sil (K.loadA_own ag_42 rfl (K.m1) rfl) rfl ?_
  try dsimp only [setd, setn, ev, nth, over, cl, eI, eP, eT, List.map, List.append, List.drop, List.take]
  refine K.seq_sil (K.loadA_own ag_42 rfl (K.m0) rfl) rfl ?_
  try dsimp only [setd, setn, ev, nth, over, cl, eI, eP, eT, List.map, List.append, List.drop, List.take]
  refine K.seq_new (K.buildSlice (bs27_2 _ _ _ _)) rfl ?_
  intro b18
  try dsimp only [setd, setn, ev, nth, over, cl, eI, eP, eT, List.map, List.append, List.drop, List.take]
  refine K.seq_call (K.call_g cal_44 (fun F w hF hw => c58 (l := [(u, v), (u2, v2)]) (hH.pass hw) (hR.pass hw) g (K.Rd.lit hw (hF _ (K.m0)) (fun _ => rfl) (by decide) rfl) (by simp))) rfl ?_
  try dsimp only [setd, setn, ev, nth, over, cl, eI, eP, eT, List.map, List.append, List.drop, List.take]
  refine K.seq_pure (K.move) rfl ?_
  refine Rv.zn ?_
  refine K.seq_pure (K.extract rfl rfl) rfl ?_
  refine Rv.zn ?_
  refine K.seq_pure (K.extract rfl rfl) rfl ?_
  refine Rv.zn ?_
  refine K.seq_new (K.alloc zr_99) rfl ?_
  intro b8
  try dsimp only [setd, setn, ev, nth, over, cl, eI, eP, eT, List.map, List.append, List.drop, List.take]
  refine K.seq_st (K.store_all sz_99 rfl rfl rfl rfl (K.rp0)) rfl ?_
  try dsimp only [setd, setn, ev, nth, over, cl, eI, eP, eT, List.map, List.append, List.drop, List.take]
  refine K.seq_pure (K.assign) rfl ?_
  refine Rv.zn ?_
  refine K.seq_nil ?_
  refine K.norm_then ?_
  refine K.seq ?_
  refine K.seq ?_
  refine K.region_lit ?_
  refine K.seq_pure (K.move) rfl ?_
  refine Rv.zn ?_
  refine K.seq_pure (K.neq rfl rfl) rfl ?_
  refine Rv.zn ?_
  refine K.seq_nil ?_
  refine K.norm_then ?_
  refine K.cond rfl (fun ht23 => ?_) (fun ht23 => ?_)
  · try replace ht23 := of_decide_eq_true ht23
    refine K.seq ?_
    refine K.region_lit ?_
    refine K.seq_pure (K.move) rfl ?_
    refine Rv.zn ?_
    refine K.seq_pure (K.assign) rfl ?_
    refine Rv.zn ?_
    refine K.seq_pure (K.assign) rfl ?_
    refine Rv.zn ?_
    refine K.seq_nil ?_
    refine K.norm_then ?_
    refine K.ret ?_
    refine K.ret_then ?_
    refine K.end_ret (fun w _ => K.res_tmp2 rfl w) ?_
    exact K.rets_se0 (by rw [if_neg ht23]) rfl rfl
  try replace ht23 := of_decide_eq_false ht23
  have hq := scsE2_0 (u := u) (v := v) (u2 := u2) (v2 := v2) (by omega)
  have hp := scE_parts hq.1
  have hp2 := scE_parts hq.2
  have he0 : scsE [(u, v), (u2, v2)] = 0 := by omega
  refine K.skip ?_
  refine K.norm_then ?_
  refine K.seq ?_
  refine K.region_lit ?_
  refine K.seq_sil (K.loadA_own ag_99 rfl (K.m0) rfl) rfl ?_
  try dsimp only [setd, setn, ev, nth, over, cl, eI, eP, eT, List.map, List.append, List.drop, List.take]
  refine K.seq_sil (K.loadA_own ag_42 rfl (K.m3) rfl) rfl ?_
  try dsimp only [setd, setn, ev, nth, over, cl, eI, eP, eT, List.map, List.append, List.drop, List.take]
  refine K.seq_call (K.call_g cal_45 (fun F w hF hw => c59 (hH.pass hw) g hp)) rfl ?_
  try dsimp only [setd, setn, ev, nth, over, cl, eI, eP, eT, List.map, List.append, List.drop, List.take]
  refine K.seq_pure (K.move) rfl ?_
  refine Rv.zn ?_
  refine K.seq_pure (K.extract rfl rfl) rfl ?_
  refine Rv.zn ?_
  refine K.seq_pure (K.extract rfl rfl) rfl ?_
  refine Rv.zn ?_
  refine K.seq_new (K.alloc zr_103) rfl ?_
  intro b9
  try dsimp only [setd, setn, ev, nth, over, cl, eI, eP, eT, List.map, List.append, List.drop, List.take]
  refine K.seq_st (K.store_all sz_103 rfl rfl rfl rfl (K.rp0)) rfl ?_
  try dsimp only [setd, setn, ev, nth, over, cl, eI, eP, eT, List.map, List.append, List.drop, List.take]
  refine K.seq_pure (K.assign) rfl ?_
  refine Rv.zn ?_
  refine K.seq_nil ?_
  refine K.norm_then ?_
  refine K.seq ?_
  refine K.region_lit ?_
  refine K.seq_sil (K.loadA_own ag_99 rfl (K.m1) rfl) rfl ?_
  try dsimp only [setd, setn, ev, nth, over, cl, eI, eP, eT, List.map, List.append, List.drop, List.take]
  refine K.seq_sil (K.loadA_own ag_42 rfl (K.m3) rfl) rfl ?_
  try dsimp only [setd, setn, ev, nth, over, cl, eI, eP, eT, List.map, List.append, List.drop, List.take]
  refine K.seq_call (K.call_g cal_45 (fun F w hF hw => c59 (hH.pass hw) g hp2)) rfl ?_
  try dsimp only [setd, setn, ev, nth, over, cl, eI, eP, eT, List.map, List.append, List.drop, List.take]
  refine K.seq_pure (K.move) rfl ?_
  refine Rv.zn ?_
  refine K.seq_pure (K.extract rfl rfl) rfl ?_
  refine Rv.zn ?_
  refine K.seq_pure (K.extract rfl rfl) rfl ?_
  refine Rv.zn ?_
  refine K.seq_new (K.alloc zr_103) rfl ?_
  intro b11
  try dsimp only [setd, setn, ev, nth, over, cl, eI, eP, eT, List.map, List.append, List.drop, List.take]
  refine K.seq_st (K.store_all sz_103 rfl rfl rfl rfl (K.rp0)) rfl ?_
  try dsimp only [setd, setn, ev, nth, over, cl, eI, eP, eT, List.map, List.append, List.drop, List.take]
  refine K.seq_pure (K.assign) rfl ?_
  refine Rv.zn ?_
  refine K.seq_nil ?_
  refine K.norm_then ?_
  refine K.seq ?_
  refine K.seq ?_
  refine K.region_lit ?_
  refine K.seq_sil (K.loadA_own ag_103 rfl ((K.m1)) rfl) rfl ?_
  try dsimp only [setd, setn, ev, nth, over, cl, eI, eP, eT, List.map, List.append, List.drop, List.take]
  refine K.seq_sil (K.loadA_own ag_103 rfl ((K.m0)) rfl) rfl ?_
  try dsimp only [setd, setn, ev, nth, over, cl, eI, eP, eT, List.map, List.append, List.drop, List.take]
  refine K.seq_pure (K.eql_key (m := 5) (a := .agg (a8 (cuts kind base u v hs)).toArray) (b := .agg (a8 (cuts kind base u2 v2 hs)).toArray) key101 guard101 rfl rfl (form101 _) (form101 _) (lits101 (g.bdc hp)) (lits101 (g.bdc hp2)) ⟨_, _, rfl, rfl⟩ (decide ((cuts kind base u v hs) = (cuts kind base u2 v2 hs))) (by rw [decide_eq_true_iff, litA8_eq (by omega) (by omega)])) rfl ?_
  refine Rv.zn ?_
  refine K.seq_nil ?_
  refine K.norm_then ?_
  refine K.cond rfl (fun ht39 => ?_) (fun ht39 => ?_)
  · try replace ht39 := of_decide_eq_true ht39
    refine K.seq ?_
    refine K.region_lit ?_
    refine K.seq_pure (K.assign) rfl ?_
    refine Rv.zn ?_
    refine K.seq_pure (K.assign) rfl ?_
    refine Rv.zn ?_
    refine K.seq_nil ?_
    refine K.norm_then ?_
    refine K.ret ?_
    refine K.ret_then ?_
    refine K.end_ret (fun w _ => K.res_tmp2 rfl w) ?_
    rw [if_pos he0, he0]
    exact K.rets_se0 (by rw [ht39, diffs_self]) rfl rfl
  try replace ht39 := of_decide_eq_false ht39
  refine K.skip ?_
  refine K.norm_then ?_
  refine K.seq ?_
  refine K.seq ?_
  refine K.region_lit ?_
  refine K.nil_row (e := 3) (size := 1) ?_
  refine K.seq_pure (K.fieldAddr_lit fo_38_3 rfl) rfl ?_
  refine Rv.zn ?_
  refine K.seq_sil (K.load1_own one_28 rfl (K.m7) rfl) rfl ?_
  try dsimp only [setd, setn, ev, nth, over, cl, eI, eP, eT, List.map, List.append, List.drop, List.take]
  refine K.seq_pure (K.len_sl sl_28 rfl) rfl ?_
  refine Rv.zn ?_
  refine K.seq_pure (K.move) rfl ?_
  refine Rv.zn ?_
  refine K.seq_nil ?_
  refine K.norm_then ?_
  refine K.block ?_
  refine K.loopW [6, 43] [13, 44, 45, 46, 47, 48, 49, 50, 51, 52, 53, 54, 55, 56, 57] (fun vi L => ∃ (k : Nat) (Q1 : Option Addr) (n1 q1 : Nat) (ys : List Value), vi = [.slice Q1 n1 q1, .int .i64 (k : Int)] ∧ L = [K.row (.slice Q1 n1 q1) 3 1 n1 ys, K.blk b11 103 (a8 (cuts kind base u2 v2 hs)), K.blk b9 103 (a8 (cuts kind base u v hs)), K.blk b8 99 [.int .i64 kind, .int .i64 base, .int .i64 most, .slice A hs.length c, .slice B rs.length d, .func (.func (110 + kind.toNat)) #[] #[]], K.blk b18 42 [.int .i64 u, .int .i64 v, .int .i64 u2, .int .i64 v2], K.blk b5 42 [.int .i64 u2, .int .i64 v2], K.blk b4 42 [.int .i64 u, .int .i64 v], K.blk b3 38 [.int .i64 kind, .int .i64 base, .int .i64 most, .slice A hs.length c, .slice B rs.length d]] ∧ n1 = (selN (fun i => decide ((cuts kind base u v hs).getD i default ≠ (cuts kind base u2 v2 hs).getD i default)) k).length ∧ ys = (selN (fun i => decide ((cuts kind base u v hs).getD i default ≠ (cuts kind base u2 v2 hs).getD i default)) k).flatMap K.eI ∧ k ≤ hs.length) (fun vi => hs.length - (intOf (K.nth vi 1)).toNat) ?_ ?_
  · exact ⟨0, none, 0, 0, [], rfl, rfl, rfl, rfl, Nat.zero_le _⟩
  intro vi vr L hJ
  obtain ⟨k, Q1, n1, q1, ys, rfl, rfl, hn1, hys, hkn⟩ := hJ
  have hsl := selN_len (p := (fun i => decide ((cuts kind base u v hs).getD i default ≠ (cuts kind base u2 v2 hs).getD i default))) (n := k)
  try dsimp only [setd, setn, ev, nth, over, cl, eI, eP, eT, setM, setF, List.map, List.append, List.drop, List.take]
  refine K.seq ?_
  refine K.region_lit ?_
  refine K.seq_pure (K.lss rfl rfl) rfl ?_
  refine Rv.zn ?_
  refine K.seq_nil ?_
  refine K.norm_then ?_
  refine K.seq ?_
  refine K.cond rfl (fun ht44 => ?_) (fun ht44 => ?_)
  · try replace ht44 := of_decide_eq_true ht44
    have hk : k < hs.length := by omega
    refine K.skip ?_
    refine K.norm_then ?_
    refine K.seq ?_
    refine K.block ?_
    refine K.seq ?_
    refine K.region_lit ?_
    refine K.seq_pure (K.move) rfl ?_
    refine Rv.zn ?_
    refine K.seq_pure (K.assign) rfl ?_
    refine Rv.zn ?_
    refine K.seq_nil ?_
    refine K.norm_then ?_
    refine K.seq ?_
    refine K.draw_L [] Tryz_mixed ?_
    refine K.d_pure 0 rfl (K.move) (by kernel_rfl) rfl ?_
    refine Rv.zn ?_
    refine K.d_pure 1 rfl (K.indexAddr_ar ar_103 rfl rfl (by omega) (by omega)) (by kernel_rfl) rfl ?_
    try dsimp only [setd, setn, ev, nth, over, cl, eI, eP, eT, List.map, List.append, List.drop, List.take]
    refine K.d_mem 2 rfl (load8 one_3 rfl (K.m2) (by omega) (by omega)) (fun _ h => h) (by kernel_rfl) (by kernel_rfl) rfl ?_
    try dsimp only [setd, setn, ev, nth, over, cl, eI, eP, eT, List.map, List.append, List.drop, List.take]
    refine K.d_pure 3 rfl (K.move) (by kernel_rfl) rfl ?_
    refine Rv.zn ?_
    refine K.d_pure 4 rfl (K.indexAddr_ar ar_103 rfl rfl (by omega) (by omega)) (by kernel_rfl) rfl ?_
    try dsimp only [setd, setn, ev, nth, over, cl, eI, eP, eT, List.map, List.append, List.drop, List.take]
    refine K.d_mem 5 rfl (load8 one_3 rfl (K.m1) (by omega) (by omega)) (fun _ h => h) (by kernel_rfl) (by kernel_rfl) rfl ?_
    try dsimp only [setd, setn, ev, nth, over, cl, eI, eP, eT, List.map, List.append, List.drop, List.take]
    refine K.d_pure 6 rfl (K.neq rfl rfl) (by kernel_rfl) rfl ?_
    refine Rv.zn ?_
    refine K.d_done (by kernel_rfl) ?_
    refine K.norm_then ?_
    refine K.cond rfl (fun ht52 => ?_) (fun ht52 => ?_)
    · try replace ht52 := of_decide_eq_true ht52
      have hp : (fun i => decide ((cuts kind base u v hs).getD i default ≠ (cuts kind base u2 v2 hs).getD i default)) k = true := decide_eq_true ht52
      refine K.region_lit ?_
      refine K.seq_pure (K.move) rfl ?_
      refine Rv.zn ?_
      refine K.seq_pure (K.move) rfl ?_
      refine Rv.zn ?_
      refine K.seq_new (K.buildSlice (bs1 _)) rfl ?_
      intro b55
      try dsimp only [setd, setn, ev, nth, over, cl, eI, eP, eT, List.map, List.append, List.drop, List.take]
      refine K.seq_upd (K.append el_28 rfl rfl (K.PtrL.own' (K.m0)) rfl rfl (by decide) (by omega) (by omega) (fun _ _ => K.rp1)) rfl ?_
      rintro ⟨g56, c56⟩ _
      try dsimp only [setd, setn, ev, nth, over, cl, eI, eP, eT, List.map, List.append, List.drop, List.take]
      refine K.seq_pure (K.assign) rfl ?_
      refine Rv.zn ?_
      refine K.seq_nil ?_
      refine K.norm_block ?_
      refine K.norm_then ?_
      refine K.region_lit ?_
      refine K.seq_pure (K.add_i64 rfl rfl (by omega)) rfl ?_
      refine Rv.zn ?_
      refine K.seq_pure (K.move) rfl ?_
      refine Rv.zn ?_
      refine K.seq_nil ?_
      exact K.round_endW [.slice (some ⟨g56, 0, none⟩) (n1 + 1) c56, .int .i64 ((k : Int) + 1)] ⟨k + 1, _, _, _, _, rfl, rfl, by rw [selN_t (p := (fun i => decide ((cuts kind base u v hs).getD i default ≠ (cuts kind base u2 v2 hs).getD i default))) (n := k) hp, List.length_append, ← hn1]; rfl, by rw [selN_t (p := (fun i => decide ((cuts kind base u v hs).getD i default ≠ (cuts kind base u2 v2 hs).getD i default))) (n := k) hp, List.flatMap_append, ← hys], by omega⟩ (by simp [K.nth, intOf]; omega) (by repeat (first | exact List.Sublist.refl _ | apply List.Sublist.cons)) (by kernel_rfl)
    try replace ht52 := of_decide_eq_false ht52
    have hp : (fun i => decide ((cuts kind base u v hs).getD i default ≠ (cuts kind base u2 v2 hs).getD i default)) k = false := decide_eq_false ht52
    refine K.skip ?_
    refine K.norm_block ?_
    refine K.norm_then ?_
    refine K.region_lit ?_
    refine K.seq_pure (K.add_i64 rfl rfl (by omega)) rfl ?_
    refine Rv.zn ?_
    refine K.seq_pure (K.move) rfl ?_
    refine Rv.zn ?_
    refine K.seq_nil ?_
    exact K.round_endW [.slice Q1 n1 q1, .int .i64 ((k : Int) + 1)] ⟨k + 1, _, _, _, _, rfl, rfl, by rw [selN_f (p := (fun i => decide ((cuts kind base u v hs).getD i default ≠ (cuts kind base u2 v2 hs).getD i default))) (n := k) hp, ← hn1], by rw [selN_f (p := (fun i => decide ((cuts kind base u v hs).getD i default ≠ (cuts kind base u2 v2 hs).getD i default))) (n := k) hp, ← hys], by omega⟩ (by simp [K.nth, intOf]; omega) (by repeat (first | exact List.Sublist.refl _ | apply List.Sublist.cons)) (by kernel_rfl)
  try replace ht44 := of_decide_eq_false ht44
  refine K.exit ?_
  refine K.exit_then ?_
  refine K.exit_then ?_
  refine K.exit_here ?_
  refine K.norm_then ?_
  refine K.seq ?_
  refine K.region_lit ?_
  refine K.seq_pure (K.move) rfl ?_
  refine Rv.zn ?_
  refine K.seq_pure (K.assign) rfl ?_
  refine Rv.zn ?_
  refine K.seq_pure (K.assign) rfl ?_
  refine Rv.zn ?_
  refine K.seq_nil ?_
  refine K.norm_then ?_
  refine K.ret ?_
  refine K.end_ret (fun w _ => K.res_tmp2 rfl w) ?_
  rw [if_pos he0, he0]
  have hk8 : k = (cuts kind base u v hs).length := by omega
  subst hk8
  exact K.rets_se (List.Mem.head _) hn1 hys rfl rfl

theorem c24 {kind base most : Int} {A B : Option Addr} {c d : Nat} {hs : List Int} {rs : List (Int × Int)} {u v u2 v2 : Int} {w : World} (hH : K.Rd w A 1 K.eI hs) (hR : K.Rd w B 2 K.eP rs) (hn : hs.length ≤ 4611686018427387904) (hm : rs.length ≤ 4611686018427387904) : Calls Tryz.prog 26 [.agg #[.int .i64 kind, .int .i64 base, .int .i64 most, .slice A hs.length c, .slice B rs.length d], .agg #[.int .i64 u, .int .i64 v], .agg #[.int .i64 u2, .int .i64 v2]].toArray w (K.RetSE 3 1 K.eI (apartR kind base most hs rs u v u2 v2) (ask2 kind base most hs rs u v u2 v2) w) := by
  by_cases he : (chk kind base most hs rs).2.2 = 0
  · have h := g24 (A := A) (B := B) (c := c) (d := d) (u := u) (v := v) (u2 := u2) (v2 := v2) (w := w) hH hR (chk_good he)
    have g := chk_good he
    have e1 : scsE [(u, v), (u2, v2)] = ask2 kind base most hs rs u v u2 v2 := by rw [scsE2]; unfold ask2; rw [askE_good g]
    rw [e1] at h
    exact h
  · have h := e24 (A := A) (B := B) (c := c) (d := d) (u := u) (v := v) (u2 := u2) (v2 := v2) (w := w) hH hR hn hm he
    have e1 : ask2 kind base most hs rs u v u2 v2 = (chk kind base most hs rs).2.2 := by unfold ask2; rw [askE_bad he, if_pos he]
    have e : apartR kind base most hs rs u v u2 v2 = [] := by unfold apartR; rw [if_neg (by rw [e1]; exact he)]
    rw [e, e1]
    exact h


end Go.Proofs.YtekkpcpbnonkaaaGreatDoor.Sc
end
section
set_option linter.unusedSimpArgs false
set_option linter.unusedVariables false
namespace Go.Proofs.YtekkpcpbnonkaaaGreatDoor.Sc
open Go.RowKit Go
open Go.K (setd setn ev nth over cl eI eP eT setM setF)
attribute [local irreducible] K.blk K.row

theorem K.app_l {α : Type} {xs ys : List α} {i : Nat} {x : α} (h : xs[i]? = some x) : (xs ++ ys)[i]? = some x := by
  rw [List.getElem?_append_left (List.getElem?_eq_some_iff.1 h).1, h]
theorem K.app_m {α : Type} {xs ys : List α} {x : α} : (xs ++ x :: ys)[xs.length]? = some x := by simp
theorem K.app_r {α : Type} {xs ys : List α} {y x : α} {i : Nat} (h : ys[i]? = some x) : (xs ++ y :: ys)[i + xs.length + 1]? = some x := by
  rw [List.getElem?_append_right (by omega)]
  have e : i + xs.length + 1 - xs.length = i + 1 := by omega
  rw [e]; simpa using h


theorem R.Step.fail2 {α : Type} {XS : List α} {J Jx : Nat → (Nat → Prop) → World → Prop} (hJxa : R.Abides Jx) {m m' k k' : Nat} {f f' : Nat → Prop} {w w1 w' w2 : World} (h : R.Step XS J Jx m k f w false w') (hw : K.St w' [] w2) : R.Step XS J Jx m' k' f' w1 false w2 := by
  rcases h with ⟨h, _⟩ | ⟨_, k2, f2, h1, h2⟩
  · cases h
  · exact .inr ⟨rfl, k2, f2, h1, hJxa _ _ _ _ h2 hw.1⟩


set_option maxRecDepth 100000 in
theorem c91 {XS : List (Int × Int)} {J Jx : Nat → (Nat → Prop) → World → Prop} {lr : Nat} (hR : R.RoundOK Tryz.prog lr (fun x : Int × Int => .agg #[.int .i64 x.1, .int .i64 x.2]) XS J Jx) (hJa : R.Abides J) (hJxa : R.Abides Jx) : ∀ (n : Nat) (a b : Int × Int) (k : Nat) (f : Nat → Prop) (w : World) {p q : Addr}, (0 ≤ a.1 ∧ a.1 ≤ 30 ∧ 0 ≤ a.2 ∧ a.2 ≤ 30) → (0 ≤ b.1 ∧ b.1 ≤ 30 ∧ 0 ≤ b.2 ∧ b.2 ≤ 30) → (1 ≤ a.1 + a.2 ∧ 1 ≤ b.1 + b.2) → 62 ≤ a.1 + a.2 + (b.1 + b.2) + n →
    J k f w → (∀ i, f i → i < w.heap.size) → R.Own1 f w p [.func (.func 86) #[] #[.pointer (some p), .pointer (some q)]] → R.Own1 f w q [.func (.yield lr) #[] #[]] → (∀ i x, (sb n a b)[i]? = some x → XS[k + i]? = some x) →
    Calls Tryz.prog 86 [.agg #[.int .i64 a.1, .int .i64 a.2], .agg #[.int .i64 b.1, .int .i64 b.2], .pointer (some p), .pointer (some q)].toArray w (fun e w' => ∃ bb, e = .returned (.bool bb) ∧ R.Step XS J Jx (sb n a b).length k f w bb w') := by
  intro n
  induction n with
  | zero =>
    intro a b k f w p q ha hb hab hn hJ hf hp hq hx
    refine R.enter (args := [.agg #[.int .i64 a.1, .int .i64 a.2], .agg #[.int .i64 b.1, .int .i64 b.2], .pointer (some p), .pointer (some q)]) Tryz.func86 rfl (m := 38) rfl ?_
    simp only [List.replicate, List.cons_append, List.nil_append]
    refine R.seq ?_
    refine R.region_lit rfl ?_
    refine K.seq_new (K.box) rfl ?_
    intro b4
    try dsimp only [setd, setn, ev, nth, over, cl, eI, eP, eT, List.map, List.append, List.drop, List.take]
    refine K.seq_new (K.box) rfl ?_
    intro b5
    try dsimp only [setd, setn, ev, nth, over, cl, eI, eP, eT, List.map, List.append, List.drop, List.take]
    refine K.seq_pure (K.assign) rfl ?_
    refine Rv.zn ?_
    refine K.seq_nil ?_
    refine R.out ?_
    refine R.norm_then ?_
    refine R.seq ?_
    refine R.region_lit rfl ?_
    refine K.seq_pure (K.fieldAddr_lit fo_42_0 rfl) rfl ?_
    refine Rv.zn ?_
    refine K.seq_sil (K.load1_own one_3 rfl (K.m1) rfl) rfl ?_
    try dsimp only [setd, setn, ev, nth, over, cl, eI, eP, eT, List.map, List.append, List.drop, List.take]
    refine K.seq_pure (K.fieldAddr_lit fo_42_0 rfl) rfl ?_
    refine Rv.zn ?_
    refine K.seq_sil (K.load1_own one_3 rfl (K.m0) rfl) rfl ?_
    try dsimp only [setd, setn, ev, nth, over, cl, eI, eP, eT, List.map, List.append, List.drop, List.take]
    refine K.seq_pure (K.add_i64 rfl rfl (by omega)) rfl ?_
    refine Rv.zn ?_
    refine K.seq_pure (K.fieldAddr_lit fo_42_1 rfl) rfl ?_
    refine Rv.zn ?_
    refine K.seq_sil (K.load1_own one_3 rfl (K.m1) rfl) rfl ?_
    try dsimp only [setd, setn, ev, nth, over, cl, eI, eP, eT, List.map, List.append, List.drop, List.take]
    refine K.seq_pure (K.fieldAddr_lit fo_42_1 rfl) rfl ?_
    refine Rv.zn ?_
    refine K.seq_sil (K.load1_own one_3 rfl (K.m0) rfl) rfl ?_
    try dsimp only [setd, setn, ev, nth, over, cl, eI, eP, eT, List.map, List.append, List.drop, List.take]
    refine K.seq_pure (K.add_i64 rfl rfl (by omega)) rfl ?_
    refine Rv.zn ?_
    refine K.seq_pure (K.build (bl27 _ _)) rfl ?_
    try dsimp only [setd, setn, ev, nth, over, cl, eI, eP, eT, List.map, List.append, List.drop, List.take]
    refine K.seq_new (K.alloc zr_42) rfl ?_
    intro b7
    try dsimp only [setd, setn, ev, nth, over, cl, eI, eP, eT, List.map, List.append, List.drop, List.take]
    refine K.seq_st (K.store_all sz_42 rfl rfl rfl rfl (K.rp0)) rfl ?_
    try dsimp only [setd, setn, ev, nth, over, cl, eI, eP, eT, List.map, List.append, List.drop, List.take]
    refine K.seq_nil ?_
    refine R.out ?_
    refine R.norm_then ?_
    refine R.seq ?_
    refine R.seq ?_
    refine R.region_lit rfl ?_
    refine K.seq_pure (K.fieldAddr_lit fo_42_0 rfl) rfl ?_
    refine Rv.zn ?_
    refine K.seq_sil (K.load1_own one_3 rfl (K.m0) rfl) rfl ?_
    try dsimp only [setd, setn, ev, nth, over, cl, eI, eP, eT, List.map, List.append, List.drop, List.take]
    refine K.seq_pure (K.gtr rfl rfl) rfl ?_
    refine Rv.zn ?_
    refine K.seq_pure (K.move) rfl ?_
    refine Rv.zn ?_
    refine K.split 22 rfl (fun hg22 => ?_) (fun hg22 => ?_)
    · try replace hg22 := of_decide_eq_true hg22
      refine K.seq_skip ?_ ?_
      · rfl
      try dsimp only [setd, setn, ev, nth, over, cl, eI, eP, eT, List.map, List.append, List.drop, List.take]
      refine K.seq_skip ?_ ?_
      · rfl
      try dsimp only [setd, setn, ev, nth, over, cl, eI, eP, eT, List.map, List.append, List.drop, List.take]
      refine K.seq_skip ?_ ?_
      · rfl
      try dsimp only [setd, setn, ev, nth, over, cl, eI, eP, eT, List.map, List.append, List.drop, List.take]
      refine K.seq_pure (K.pick_t rfl) rfl ?_
      refine Rv.zn ?_
      refine K.seq_nil ?_
      refine R.out ?_
      refine R.norm_then ?_
      refine R.cond_true rfl ?_
      refine R.seq ?_
      refine R.region_lit rfl ?_
      refine K.seq_pure (K.assign) rfl ?_
      refine Rv.zn ?_
      refine K.seq_nil ?_
      refine R.out ?_
      refine R.norm_then ?_
      refine R.ret ?_
      refine R.ret_then ?_
      refine R.end_ret (fun w _ => K.res_tmp rfl w) ?_
      exact fun w' hw' => ⟨true, rfl, .inl ⟨rfl, f, hJa _ _ _ _ hJ hw'.1, R.Keep.below hw'.1, fun i hi => Nat.lt_of_lt_of_le (hf i hi) hw'.1.size⟩⟩
    try replace hg22 := of_decide_eq_false hg22
    refine K.seq_pure (K.fieldAddr_lit fo_42_1 rfl) rfl ?_
    refine Rv.zn ?_
    refine K.seq_sil (K.load1_own one_3 rfl (K.m0) rfl) rfl ?_
    try dsimp only [setd, setn, ev, nth, over, cl, eI, eP, eT, List.map, List.append, List.drop, List.take]
    refine K.seq_pure (K.gtr rfl rfl) rfl ?_
    refine Rv.zn ?_
    refine K.seq_pure (K.pick_f rfl) rfl ?_
    refine Rv.zn ?_
    refine K.seq_nil ?_
    refine R.out ?_
    refine R.norm_then ?_
    refine R.cond rfl (fun ht26 => ?_) (fun ht26 => ?_)
    · try replace ht26 := of_decide_eq_true ht26
      refine R.seq ?_
      refine R.region_lit rfl ?_
      refine K.seq_pure (K.assign) rfl ?_
      refine Rv.zn ?_
      refine K.seq_nil ?_
      refine R.out ?_
      refine R.norm_then ?_
      refine R.ret ?_
      refine R.ret_then ?_
      refine R.end_ret (fun w _ => K.res_tmp rfl w) ?_
      exact fun w' hw' => ⟨true, rfl, .inl ⟨rfl, f, hJa _ _ _ _ hJ hw'.1, R.Keep.below hw'.1, fun i hi => Nat.lt_of_lt_of_le (hf i hi) hw'.1.size⟩⟩
    try replace ht26 := of_decide_eq_false ht26
    refine R.skip ?_
    refine R.norm_then ?_
    refine R.seq ?_
    exfalso; omega
  | succ n ih =>
    intro a b k f w p q ha hb hab hn hJ hf hp hq hx
    refine R.enter (args := [.agg #[.int .i64 a.1, .int .i64 a.2], .agg #[.int .i64 b.1, .int .i64 b.2], .pointer (some p), .pointer (some q)]) Tryz.func86 rfl (m := 38) rfl ?_
    simp only [List.replicate, List.cons_append, List.nil_append]
    refine R.seq ?_
    refine R.region_lit rfl ?_
    refine K.seq_new (K.box) rfl ?_
    intro b4
    try dsimp only [setd, setn, ev, nth, over, cl, eI, eP, eT, List.map, List.append, List.drop, List.take]
    refine K.seq_new (K.box) rfl ?_
    intro b5
    try dsimp only [setd, setn, ev, nth, over, cl, eI, eP, eT, List.map, List.append, List.drop, List.take]
    refine K.seq_pure (K.assign) rfl ?_
    refine Rv.zn ?_
    refine K.seq_nil ?_
    refine R.out ?_
    refine R.norm_then ?_
    refine R.seq ?_
    refine R.region_lit rfl ?_
    refine K.seq_pure (K.fieldAddr_lit fo_42_0 rfl) rfl ?_
    refine Rv.zn ?_
    refine K.seq_sil (K.load1_own one_3 rfl (K.m1) rfl) rfl ?_
    try dsimp only [setd, setn, ev, nth, over, cl, eI, eP, eT, List.map, List.append, List.drop, List.take]
    refine K.seq_pure (K.fieldAddr_lit fo_42_0 rfl) rfl ?_
    refine Rv.zn ?_
    refine K.seq_sil (K.load1_own one_3 rfl (K.m0) rfl) rfl ?_
    try dsimp only [setd, setn, ev, nth, over, cl, eI, eP, eT, List.map, List.append, List.drop, List.take]
    refine K.seq_pure (K.add_i64 rfl rfl (by omega)) rfl ?_
    refine Rv.zn ?_
    refine K.seq_pure (K.fieldAddr_lit fo_42_1 rfl) rfl ?_
    refine Rv.zn ?_
    refine K.seq_sil (K.load1_own one_3 rfl (K.m1) rfl) rfl ?_
    try dsimp only [setd, setn, ev, nth, over, cl, eI, eP, eT, List.map, List.append, List.drop, List.take]
    refine K.seq_pure (K.fieldAddr_lit fo_42_1 rfl) rfl ?_
    refine Rv.zn ?_
    refine K.seq_sil (K.load1_own one_3 rfl (K.m0) rfl) rfl ?_
    try dsimp only [setd, setn, ev, nth, over, cl, eI, eP, eT, List.map, List.append, List.drop, List.take]
    refine K.seq_pure (K.add_i64 rfl rfl (by omega)) rfl ?_
    refine Rv.zn ?_
    refine K.seq_pure (K.build (bl27 _ _)) rfl ?_
    try dsimp only [setd, setn, ev, nth, over, cl, eI, eP, eT, List.map, List.append, List.drop, List.take]
    refine K.seq_new (K.alloc zr_42) rfl ?_
    intro b7
    try dsimp only [setd, setn, ev, nth, over, cl, eI, eP, eT, List.map, List.append, List.drop, List.take]
    refine K.seq_st (K.store_all sz_42 rfl rfl rfl rfl (K.rp0)) rfl ?_
    try dsimp only [setd, setn, ev, nth, over, cl, eI, eP, eT, List.map, List.append, List.drop, List.take]
    refine K.seq_nil ?_
    refine R.out ?_
    refine R.norm_then ?_
    refine R.seq ?_
    refine R.seq ?_
    refine R.region_lit rfl ?_
    refine K.seq_pure (K.fieldAddr_lit fo_42_0 rfl) rfl ?_
    refine Rv.zn ?_
    refine K.seq_sil (K.load1_own one_3 rfl (K.m0) rfl) rfl ?_
    try dsimp only [setd, setn, ev, nth, over, cl, eI, eP, eT, List.map, List.append, List.drop, List.take]
    refine K.seq_pure (K.gtr rfl rfl) rfl ?_
    refine Rv.zn ?_
    refine K.seq_pure (K.move) rfl ?_
    refine Rv.zn ?_
    refine K.split 22 rfl (fun hg22 => ?_) (fun hg22 => ?_)
    · try replace hg22 := of_decide_eq_true hg22
      refine K.seq_skip ?_ ?_
      · rfl
      try dsimp only [setd, setn, ev, nth, over, cl, eI, eP, eT, List.map, List.append, List.drop, List.take]
      refine K.seq_skip ?_ ?_
      · rfl
      try dsimp only [setd, setn, ev, nth, over, cl, eI, eP, eT, List.map, List.append, List.drop, List.take]
      refine K.seq_skip ?_ ?_
      · rfl
      try dsimp only [setd, setn, ev, nth, over, cl, eI, eP, eT, List.map, List.append, List.drop, List.take]
      refine K.seq_pure (K.pick_t rfl) rfl ?_
      refine Rv.zn ?_
      refine K.seq_nil ?_
      refine R.out ?_
      refine R.norm_then ?_
      refine R.cond_true rfl ?_
      refine R.seq ?_
      refine R.region_lit rfl ?_
      refine K.seq_pure (K.assign) rfl ?_
      refine Rv.zn ?_
      refine K.seq_nil ?_
      refine R.out ?_
      refine R.norm_then ?_
      refine R.ret ?_
      refine R.ret_then ?_
      refine R.end_ret (fun w _ => K.res_tmp rfl w) ?_
      have e0 : sb (n + 1) a b = [] := by unfold sb; rw [if_pos (by omega)]
      rw [e0]
      exact fun w' hw' => ⟨true, rfl, .inl ⟨rfl, f, hJa _ _ _ _ hJ hw'.1, R.Keep.below hw'.1, fun i hi => Nat.lt_of_lt_of_le (hf i hi) hw'.1.size⟩⟩
    try replace hg22 := of_decide_eq_false hg22
    refine K.seq_pure (K.fieldAddr_lit fo_42_1 rfl) rfl ?_
    refine Rv.zn ?_
    refine K.seq_sil (K.load1_own one_3 rfl (K.m0) rfl) rfl ?_
    try dsimp only [setd, setn, ev, nth, over, cl, eI, eP, eT, List.map, List.append, List.drop, List.take]
    refine K.seq_pure (K.gtr rfl rfl) rfl ?_
    refine Rv.zn ?_
    refine K.seq_pure (K.pick_f rfl) rfl ?_
    refine Rv.zn ?_
    refine K.seq_nil ?_
    refine R.out ?_
    refine R.norm_then ?_
    refine R.cond rfl (fun ht26 => ?_) (fun ht26 => ?_)
    · try replace ht26 := of_decide_eq_true ht26
      refine R.seq ?_
      refine R.region_lit rfl ?_
      refine K.seq_pure (K.assign) rfl ?_
      refine Rv.zn ?_
      refine K.seq_nil ?_
      refine R.out ?_
      refine R.norm_then ?_
      refine R.ret ?_
      refine R.ret_then ?_
      refine R.end_ret (fun w _ => K.res_tmp rfl w) ?_
      have e0 : sb (n + 1) a b = [] := by unfold sb; rw [if_pos (by omega)]
      rw [e0]
      exact fun w' hw' => ⟨true, rfl, .inl ⟨rfl, f, hJa _ _ _ _ hJ hw'.1, R.Keep.below hw'.1, fun i hi => Nat.lt_of_lt_of_le (hf i hi) hw'.1.size⟩⟩
    try replace ht26 := of_decide_eq_false ht26
    refine R.skip ?_
    refine R.norm_then ?_
    refine R.seq ?_
    have hsb : sb (n + 1) a b = sb n a (a.1 + b.1, a.2 + b.2) ++ (a.1 + b.1, a.2 + b.2) :: sb n (a.1 + b.1, a.2 + b.2) b := by rw [sb, if_neg (by omega)]
    refine R.lregion ?_
    refine R.lseq_sil (K.load1 one_147 rfl hp.ptr.any) rfl rfl ?_
    try dsimp only [setd, setn, ev, nth, over, cl, eI, eP, eT, List.map, List.append, List.drop, List.take]
    refine R.lseq_sil (K.loadA_own ag_42 rfl (K.m2) rfl) rfl rfl ?_
    try dsimp only [setd, setn, ev, nth, over, cl, eI, eP, eT, List.map, List.append, List.drop, List.take]
    refine R.lseq_sil (K.loadA_own ag_42 rfl (K.m0) rfl) rfl rfl ?_
    try dsimp only [setd, setn, ev, nth, over, cl, eI, eP, eT, List.map, List.append, List.drop, List.take]
    refine R.lseq_wild (first := []) (cap := [.pointer (some p), .pointer (some q)]) (post := fun w' bb w1 => R.Step XS J Jx (sb n a (a.1 + b.1, a.2 + b.2)).length k f w' bb w1) rfl cal_86 rfl (fun w' hw' => ih _ _ k f w' (by (try simp only); omega) (by (try simp only); omega) (by (try simp only); omega) (by (try simp only); omega) (hJa _ _ _ _ hJ hw'.1) (fun i hi => Nat.lt_of_lt_of_le (hf i hi) hw'.1.size) (hp.keep (R.Keep.below hw'.1)) (hq.keep (R.Keep.below hw'.1)) (fun i x hi => hx i x (by rw [hsb]; exact K.app_l hi))) ?_
    intro w1 hw1 bb w2 hst
    have o4 := R.Own1.blk hw1 (K.m2) hf
    have o5 := R.Own1.blk hw1 (K.m1) hf
    have o7 := R.Own1.blk hw1 (K.m0) hf
    have k1 := R.Keep.below (f := f) hw1.1
    try dsimp only [setd, setn, ev, nth, over, cl, eI, eP, eT, List.map, List.append, List.drop, List.take]
    refine R.lseq_pure K.move rfl rfl ?_
    try dsimp only [setd, setn, ev, nth, over, cl, eI, eP, eT, List.map, List.append, List.drop, List.take]
    cases bb with
    | false =>
      try dsimp only [setd, setn, ev, nth, over, cl, eI, eP, eT, List.map, List.append, List.drop, List.take]
      refine R.lseq_skip rfl ?_
      try dsimp only [setd, setn, ev, nth, over, cl, eI, eP, eT, List.map, List.append, List.drop, List.take]
      refine R.lseq_skip rfl ?_
      try dsimp only [setd, setn, ev, nth, over, cl, eI, eP, eT, List.map, List.append, List.drop, List.take]
      refine R.lseq_skip rfl ?_
      try dsimp only [setd, setn, ev, nth, over, cl, eI, eP, eT, List.map, List.append, List.drop, List.take]
      refine R.lseq_pure (K.pick_f rfl) rfl rfl ?_
      try dsimp only [setd, setn, ev, nth, over, cl, eI, eP, eT, List.map, List.append, List.drop, List.take]
      refine R.lseq_pure K.move rfl rfl ?_
      try dsimp only [setd, setn, ev, nth, over, cl, eI, eP, eT, List.map, List.append, List.drop, List.take]
      refine R.lseq_skip rfl ?_
      try dsimp only [setd, setn, ev, nth, over, cl, eI, eP, eT, List.map, List.append, List.drop, List.take]
      refine R.lseq_skip rfl ?_
      try dsimp only [setd, setn, ev, nth, over, cl, eI, eP, eT, List.map, List.append, List.drop, List.take]
      refine R.lseq_skip rfl ?_
      try dsimp only [setd, setn, ev, nth, over, cl, eI, eP, eT, List.map, List.append, List.drop, List.take]
      refine R.lseq_skip rfl ?_
      try dsimp only [setd, setn, ev, nth, over, cl, eI, eP, eT, List.map, List.append, List.drop, List.take]
      refine R.lseq_pure (K.pick_f rfl) rfl rfl ?_
      try dsimp only [setd, setn, ev, nth, over, cl, eI, eP, eT, List.map, List.append, List.drop, List.take]
      refine R.lseq_pure K.assign rfl rfl ?_
      try dsimp only [setd, setn, ev, nth, over, cl, eI, eP, eT, List.map, List.append, List.drop, List.take]
      refine R.lseq_nil ?_
      refine R.norm_then ?_
      refine R.ret ?_
      refine R.end_ret (fun w _ => K.res_tmp rfl w) ?_
      exact fun w' hw' => ⟨false, rfl, R.Step.fail2 hJxa hst hw'⟩
    | true =>
      rcases hst with ⟨_, f1, hJ1, hk1, hf1⟩ | ⟨h, _⟩
      case inr => cases h
      have hk2 := k1.trans hk1
      replace o4 := o4.keep hk1
      replace o5 := o5.keep hk1
      replace o7 := o7.keep hk1
      have hp1 := hp.keep hk2
      have hq1 := hq.keep hk2
      try dsimp only [setd, setn, ev, nth, over, cl, eI, eP, eT, List.map, List.append, List.drop, List.take]
      refine R.lseq_sil (K.load1 one_146 rfl hq1.ptr) rfl rfl ?_
      try dsimp only [setd, setn, ev, nth, over, cl, eI, eP, eT, List.map, List.append, List.drop, List.take]
      refine R.lseq_sil (K.loadA_p ag_42 rfl o7.ptr rfl) rfl rfl ?_
      try dsimp only [setd, setn, ev, nth, over, cl, eI, eP, eT, List.map, List.append, List.drop, List.take]
      refine R.lseq_yield (u := .agg #[.int .i64 (a.1 + b.1), .int .i64 (a.2 + b.2)]) (post := fun w' bb w1 => R.Step XS J Jx 1 (k + (sb n a (a.1 + b.1, a.2 + b.2)).length) f1 w' bb w1) rfl rfl rfl (fun w' hw' => R.yield_step hR (x := (a.1 + b.1, a.2 + b.2)) (hx _ _ (by rw [hsb]; exact K.app_m)) (hJa _ _ _ _ hJ1 hw'.1)) ?_
      intro w3 hw3 bb w4 hst
      have k3 := R.Keep.below (f := f1) hw3.1
      try dsimp only [setd, setn, ev, nth, over, cl, eI, eP, eT, List.map, List.append, List.drop, List.take]
      cases bb with
      | false =>
        try dsimp only [setd, setn, ev, nth, over, cl, eI, eP, eT, List.map, List.append, List.drop, List.take]
        refine R.lseq_pure (K.pick_t rfl) rfl rfl ?_
        try dsimp only [setd, setn, ev, nth, over, cl, eI, eP, eT, List.map, List.append, List.drop, List.take]
        refine R.lseq_pure K.move rfl rfl ?_
        try dsimp only [setd, setn, ev, nth, over, cl, eI, eP, eT, List.map, List.append, List.drop, List.take]
        refine R.lseq_skip rfl ?_
        try dsimp only [setd, setn, ev, nth, over, cl, eI, eP, eT, List.map, List.append, List.drop, List.take]
        refine R.lseq_skip rfl ?_
        try dsimp only [setd, setn, ev, nth, over, cl, eI, eP, eT, List.map, List.append, List.drop, List.take]
        refine R.lseq_skip rfl ?_
        try dsimp only [setd, setn, ev, nth, over, cl, eI, eP, eT, List.map, List.append, List.drop, List.take]
        refine R.lseq_skip rfl ?_
        try dsimp only [setd, setn, ev, nth, over, cl, eI, eP, eT, List.map, List.append, List.drop, List.take]
        refine R.lseq_pure (K.pick_f rfl) rfl rfl ?_
        try dsimp only [setd, setn, ev, nth, over, cl, eI, eP, eT, List.map, List.append, List.drop, List.take]
        refine R.lseq_pure K.assign rfl rfl ?_
        try dsimp only [setd, setn, ev, nth, over, cl, eI, eP, eT, List.map, List.append, List.drop, List.take]
        refine R.lseq_nil ?_
        refine R.norm_then ?_
        refine R.ret ?_
        refine R.end_ret (fun w _ => K.res_tmp rfl w) ?_
        exact fun w' hw' => ⟨false, rfl, R.Step.fail2 hJxa hst hw'⟩
      | true =>
        rcases hst with ⟨_, f2, hJ2, hk4, hf2⟩ | ⟨h, _⟩
        case inr => cases h
        have hk5 := k3.trans hk4
        replace o5 := o5.keep hk5
        replace o7 := o7.keep hk5
        have hp2 := hp1.keep hk5
        have hq2 := hq1.keep hk5
        have hk6 := hk2.trans hk5
        try dsimp only [setd, setn, ev, nth, over, cl, eI, eP, eT, List.map, List.append, List.drop, List.take]
        refine R.lseq_pure (K.pick_t rfl) rfl rfl ?_
        try dsimp only [setd, setn, ev, nth, over, cl, eI, eP, eT, List.map, List.append, List.drop, List.take]
        refine R.lseq_pure K.move rfl rfl ?_
        try dsimp only [setd, setn, ev, nth, over, cl, eI, eP, eT, List.map, List.append, List.drop, List.take]
        refine R.lseq_sil (K.load1 one_147 rfl hp2.ptr) rfl rfl ?_
        try dsimp only [setd, setn, ev, nth, over, cl, eI, eP, eT, List.map, List.append, List.drop, List.take]
        refine R.lseq_sil (K.loadA_p ag_42 rfl o7.ptr rfl) rfl rfl ?_
        try dsimp only [setd, setn, ev, nth, over, cl, eI, eP, eT, List.map, List.append, List.drop, List.take]
        refine R.lseq_sil (K.loadA_p ag_42 rfl o5.ptr rfl) rfl rfl ?_
        try dsimp only [setd, setn, ev, nth, over, cl, eI, eP, eT, List.map, List.append, List.drop, List.take]
        refine R.lseq_wild (first := []) (cap := [.pointer (some p), .pointer (some q)]) (post := fun w' bb w1 => R.Step XS J Jx (sb n (a.1 + b.1, a.2 + b.2) b).length (k + (sb n a (a.1 + b.1, a.2 + b.2)).length + 1) f2 w' bb w1) rfl cal_86 rfl (fun w' hw' => ih _ _ _ f2 w' (by (try simp only); omega) (by (try simp only); omega) (by (try simp only); omega) (by (try simp only); omega) (hJa _ _ _ _ hJ2 hw'.1) (fun i hi => Nat.lt_of_lt_of_le (hf2 i hi) hw'.1.size) (hp2.keep (R.Keep.below hw'.1)) (hq2.keep (R.Keep.below hw'.1)) (fun i x hi => by
          have := hx (i + (sb n a (a.1 + b.1, a.2 + b.2)).length + 1) x (by rw [hsb]; exact K.app_r hi)
          rw [← this]; congr 1; omega)) ?_
        intro w5 hw5 bb w6 hst
        have k5 := R.Keep.below (f := f2) hw5.1
        try dsimp only [setd, setn, ev, nth, over, cl, eI, eP, eT, List.map, List.append, List.drop, List.take]
        refine R.lseq_pure (K.pick_t rfl) rfl rfl ?_
        try dsimp only [setd, setn, ev, nth, over, cl, eI, eP, eT, List.map, List.append, List.drop, List.take]
        refine R.lseq_pure K.assign rfl rfl ?_
        try dsimp only [setd, setn, ev, nth, over, cl, eI, eP, eT, List.map, List.append, List.drop, List.take]
        refine R.lseq_nil ?_
        refine R.norm_then ?_
        refine R.ret ?_
        refine R.end_ret (fun w _ => K.res_tmp rfl w) ?_
        intro w7 hw7
        refine ⟨bb, rfl, ?_⟩
        cases bb with
        | false => exact R.Step.fail2 hJxa hst hw7
        | true =>
          rcases hst with ⟨_, f3, hJ3, hk7, hf3⟩ | ⟨h, _⟩
          case inr => cases h
          refine .inl ⟨rfl, f3, ?_, (hk6.trans (k5.trans hk7)).trans (R.Keep.below hw7.1), fun i hi => Nat.lt_of_lt_of_le (hf3 i hi) hw7.1.size⟩
          have e : k + (sb (n + 1) a b).length = k + (sb n a (a.1 + b.1, a.2 + b.2)).length + 1 + (sb n (a.1 + b.1, a.2 + b.2) b).length := by
            rw [hsb]; simp; omega
          rw [e]
          exact hJa _ _ _ _ hJ3 hw7.1


end Go.Proofs.YtekkpcpbnonkaaaGreatDoor.Sc
end
section
set_option linter.unusedSimpArgs false
set_option linter.unusedVariables false
namespace Go.Proofs.YtekkpcpbnonkaaaGreatDoor.Sc
open Go.RowKit Go
open Go.K (setd setn ev nth over cl eI eP eT setM setF)
attribute [local irreducible] K.blk K.row

set_option maxRecDepth 100000 in
theorem c90  :
    R.Iter Tryz.prog 85 (fun x : Int × Int => Value.agg #[.int .i64 x.1, .int .i64 x.2]) SB := by
  intro lr J Jx f w hJa hJxa hf hR hJ0
  refine R.enter (args := [.func (.yield lr) #[] #[]]) Tryz.func85 rfl (m := 7) rfl ?_
  simp only [List.replicate, List.cons_append, List.nil_append]
  refine R.seq ?_
  refine R.region_lit rfl ?_
  refine K.seq_new (K.box) rfl ?_
  intro b1
  try dsimp only [setd, setn, ev, nth, over, cl, eI, eP, eT, List.map, List.append, List.drop, List.take]
  refine K.seq_nil ?_
  refine R.out ?_
  refine R.norm_then ?_
  refine R.seq ?_
  refine R.region_lit rfl ?_
  refine K.seq_new (K.alloc zr_147) rfl ?_
  intro b2
  try dsimp only [setd, setn, ev, nth, over, cl, eI, eP, eT, List.map, List.append, List.drop, List.take]
  refine K.seq_nil ?_
  refine R.out ?_
  refine R.norm_then ?_
  refine R.seq ?_
  refine R.region_lit rfl ?_
  refine K.seq_pure (K.mkFunc) rfl ?_
  try dsimp only [setd, setn, ev, nth, over, cl, eI, eP, eT, List.map, List.append, List.drop, List.take]
  refine K.seq_st (K.store sz_147 rfl rfl rfl rfl (K.rp0)) rfl ?_
  try dsimp only [setd, setn, ev, nth, over, cl, eI, eP, eT, List.map, List.append, List.drop, List.take]
  refine K.seq_nil ?_
  refine R.out ?_
  refine R.norm_then ?_
  refine R.lregion ?_
  refine R.lseq_sil (K.load1_own one_147 rfl (K.m0) rfl) rfl rfl ?_
  try dsimp only [setd, setn, ev, nth, over, cl, eI, eP, eT, List.map, List.append, List.drop, List.take]
  refine R.lseq_pure (K.build (bl27 _ _)) rfl rfl ?_
  try dsimp only [setd, setn, ev, nth, over, cl, eI, eP, eT, List.map, List.append, List.drop, List.take]
  refine R.lseq_pure (K.build (bl27 _ _)) rfl rfl ?_
  try dsimp only [setd, setn, ev, nth, over, cl, eI, eP, eT, List.map, List.append, List.drop, List.take]
  refine R.lseq_wild (first := []) (cap := [.pointer (some ⟨b2, 0, none⟩), .pointer (some ⟨b1, 0, none⟩)]) (post := fun w' bb w1 => R.Step SB J Jx SB.length 0 f w' bb w1) rfl cal_86 rfl (fun w' hw' => c91 hR hJa hJxa 60 (0, 1) (1, 0) 0 f w' (by decide) (by decide) (by decide) (by decide) (hJa _ _ _ _ hJ0 hw'.1) (fun i hi => Nat.lt_of_lt_of_le (hf i hi) hw'.1.size) (R.Own1.blk hw' (K.m0) hf) (R.Own1.blk hw' (K.m1) hf) (fun i x hi => by rw [Nat.zero_add]; exact hi)) ?_
  intro w1 hw1 bb w2 hst
  try dsimp only [setd, setn, ev, nth, over, cl, eI, eP, eT, List.map, List.append, List.drop, List.take]
  refine R.lseq_nil ?_
  refine R.end_normal (fun w _ => K.res_none rfl w) ?_
  intro w3 hw3
  refine ⟨⟨_, rfl⟩, ?_⟩
  rcases hst with ⟨_, f', h1, _⟩ | ⟨_, k', f', h1, h2⟩
  · rw [Nat.zero_add] at h1; exact .inl ⟨f', hJa _ _ _ _ h1 hw3.1⟩
  · exact .inr ⟨k', f', h1, hJxa _ _ _ _ h2 hw3.1⟩

set_option maxRecDepth 100000 in
theorem c67 (w : World) :
    Calls Tryz.prog 54 [].toArray w (K.Gives (.func (.func 85) #[] #[]) w) := by
  refine K.enter (args := []) Tryz.func54 rfl (n := 1) rfl ?_
  simp only [List.replicate, List.cons_append, List.nil_append]
  refine K.seq ?_
  refine K.region_lit ?_
  refine K.seq_pure (K.assign) rfl ?_
  refine Rv.zn ?_
  refine K.seq_nil ?_
  refine K.norm_then ?_
  refine K.seq ?_
  refine K.region_lit ?_
  refine K.seq_pure (K.assign) rfl ?_
  refine Rv.zn ?_
  refine K.seq_nil ?_
  refine K.norm_then ?_
  refine K.ret ?_
  refine K.end_ret (fun w _ => K.res_tmp rfl w) ?_
  exact K.gives rfl

end Go.Proofs.YtekkpcpbnonkaaaGreatDoor.Sc
end
section
set_option linter.unusedSimpArgs false
set_option linter.unusedVariables false
namespace Go.Proofs.YtekkpcpbnonkaaaGreatDoor.Sc
open Go.RowKit Go
open Go.K (setd setn ev nth over cl eI eP eT setM setF)
attribute [local irreducible] K.blk K.row

set_option maxRecDepth 100000 in
theorem c71 {kind base most : Int} {A B : Option Addr} {c d : Nat} {hs : List Int} {rs : List (Int × Int)} {x : Int × Int × Int} {p : Addr} {w : World} (hp : K.PtrL w [] p [.int .i64 kind, .int .i64 base, .int .i64 most, .slice A hs.length c, .slice B rs.length d]) (hn : hs.length ≤ 4611686018427387904) :
    Calls Tryz.prog 56 [.agg (K.eT x).toArray, .pointer (some p)].toArray w (K.Gives (.int .i64 (markE hs.length x)) w) := by
  refine K.enter (args := [.agg (K.eT x).toArray, .pointer (some p)]) Tryz.func56 rfl (n := 28) rfl ?_
  simp only [List.replicate, List.cons_append, List.nil_append]
  refine K.seq ?_
  refine K.region_lit ?_
  refine K.seq_new (K.box) rfl ?_
  intro b2
  try dsimp only [setd, setn, ev, nth, over, cl, eI, eP, eT, List.map, List.append, List.drop, List.take]
  refine K.seq_pure (K.assign) rfl ?_
  refine Rv.zn ?_
  refine K.seq_nil ?_
  refine K.norm_then ?_
  refine K.seq ?_
  refine K.block ?_
  refine K.seq ?_
  refine K.region_lit ?_
  refine K.seq_pure (K.fieldAddr fo_38_3 rfl) rfl ?_
  refine Rv.zn ?_
  refine K.seq_sil (K.load1 one_28 rfl ((K.PtrL.fld hp (k := 3)).any)) rfl ?_
  try dsimp only [setd, setn, ev, nth, over, cl, eI, eP, eT, List.map, List.append, List.drop, List.take]
  refine K.seq_pure (K.len_sl sl_28 rfl) rfl ?_
  refine Rv.zn ?_
  refine K.seq_pure (K.sub_i64 rfl rfl (by omega)) rfl ?_
  refine Rv.zn ?_
  refine K.seq_pure (K.fieldAddr_lit fo_61_0 rfl) rfl ?_
  refine Rv.zn ?_
  refine K.seq_sil (K.load1_own one_3 rfl (K.m0) rfl) rfl ?_
  try dsimp only [setd, setn, ev, nth, over, cl, eI, eP, eT, List.map, List.append, List.drop, List.take]
  refine K.seq_new (K.buildSlice (bs1 _)) rfl ?_
  intro b11
  try dsimp only [setd, setn, ev, nth, over, cl, eI, eP, eT, List.map, List.append, List.drop, List.take]
  refine K.seq_call (K.call_g cal_53 (fun F w hF hw => c52_1 hw (hF _ (K.m0)))) rfl ?_
  try dsimp only [setd, setn, ev, nth, over, cl, eI, eP, eT, List.map, List.append, List.drop, List.take]
  refine K.seq_pure (K.assign) rfl ?_
  refine Rv.zn ?_
  refine K.seq_nil ?_
  refine K.norm_then ?_
  refine K.cond rfl (fun ht4 => ?_) (fun ht4 => ?_)
  · try replace ht4 := of_decide_eq_true ht4
    refine K.seq ?_
    refine K.region_lit ?_
    refine K.seq_pure (K.assign) rfl ?_
    refine Rv.zn ?_
    refine K.seq_nil ?_
    refine K.norm_then ?_
    refine K.ret ?_
    refine K.ret_block ?_
    refine K.ret_then ?_
    refine K.end_ret (fun w _ => K.res_tmp rfl w) ?_
    exact K.gives_i rfl (by unfold markE; rw [if_pos (by omega)])
  try replace ht4 := of_decide_eq_false ht4
  refine K.seq ?_
  refine K.region_lit ?_
  refine K.seq_pure (K.fieldAddr_lit fo_61_1 rfl) rfl ?_
  refine Rv.zn ?_
  refine K.seq_pure (K.fieldAddr_lit fo_59_0 rfl) rfl ?_
  refine Rv.zn ?_
  refine K.seq_sil (K.load1_own one_3 rfl (K.m1) rfl) rfl ?_
  try dsimp only [setd, setn, ev, nth, over, cl, eI, eP, eT, List.map, List.append, List.drop, List.take]
  refine K.seq_pure (K.fieldAddr_lit fo_61_1 rfl) rfl ?_
  refine Rv.zn ?_
  refine K.seq_pure (K.fieldAddr_lit fo_59_1 rfl) rfl ?_
  refine Rv.zn ?_
  refine K.seq_sil (K.load1_own one_3 rfl (K.m1) rfl) rfl ?_
  try dsimp only [setd, setn, ev, nth, over, cl, eI, eP, eT, List.map, List.append, List.drop, List.take]
  refine K.seq_new (K.buildSlice (bs2 _ _)) rfl ?_
  intro b20
  try dsimp only [setd, setn, ev, nth, over, cl, eI, eP, eT, List.map, List.append, List.drop, List.take]
  refine K.seq_call (K.call_g cal_53 (fun F w hF hw => c52_2 hw (hF _ (K.m0)))) rfl ?_
  try dsimp only [setd, setn, ev, nth, over, cl, eI, eP, eT, List.map, List.append, List.drop, List.take]
  refine K.seq_pure (K.assign) rfl ?_
  refine Rv.zn ?_
  refine K.seq_nil ?_
  refine K.norm_then ?_
  refine K.cond rfl (fun ht13 => ?_) (fun ht13 => ?_)
  · try replace ht13 := of_decide_eq_true ht13
    refine K.seq ?_
    refine K.region_lit ?_
    refine K.seq_pure (K.assign) rfl ?_
    refine Rv.zn ?_
    refine K.seq_nil ?_
    refine K.norm_then ?_
    refine K.ret ?_
    refine K.ret_block ?_
    refine K.ret_then ?_
    refine K.end_ret (fun w _ => K.res_tmp rfl w) ?_
    exact K.gives_i rfl (by unfold markE; rw [if_neg (by omega), if_pos (by omega)])
  try replace ht13 := of_decide_eq_false ht13
  refine K.seq ?_
  refine K.region_lit ?_
  refine K.seq_pure (K.fieldAddr_lit fo_61_1 rfl) rfl ?_
  refine Rv.zn ?_
  refine K.seq_pure (K.fieldAddr_lit fo_59_0 rfl) rfl ?_
  refine Rv.zn ?_
  refine K.seq_sil (K.load1_own one_3 rfl (K.m2) rfl) rfl ?_
  try dsimp only [setd, setn, ev, nth, over, cl, eI, eP, eT, List.map, List.append, List.drop, List.take]
  refine K.seq_pure (K.fieldAddr_lit fo_61_1 rfl) rfl ?_
  refine Rv.zn ?_
  refine K.seq_pure (K.fieldAddr_lit fo_59_1 rfl) rfl ?_
  refine Rv.zn ?_
  refine K.seq_sil (K.load1_own one_3 rfl (K.m2) rfl) rfl ?_
  try dsimp only [setd, setn, ev, nth, over, cl, eI, eP, eT, List.map, List.append, List.drop, List.take]
  refine K.seq_pure (K.gtr rfl rfl) rfl ?_
  refine Rv.zn ?_
  refine K.seq_pure (K.assign) rfl ?_
  refine Rv.zn ?_
  refine K.seq_nil ?_
  refine K.norm_then ?_
  refine K.cond rfl (fun ht22 => ?_) (fun ht22 => ?_)
  · try replace ht22 := of_decide_eq_true ht22
    refine K.seq ?_
    refine K.region_lit ?_
    refine K.seq_pure (K.assign) rfl ?_
    refine Rv.zn ?_
    refine K.seq_nil ?_
    refine K.norm_then ?_
    refine K.ret ?_
    refine K.ret_block ?_
    refine K.ret_then ?_
    refine K.end_ret (fun w _ => K.res_tmp rfl w) ?_
    exact K.gives_i rfl (by unfold markE; rw [if_neg (by omega), if_neg (by omega), if_pos (by omega)])
  try replace ht22 := of_decide_eq_false ht22
  refine K.skip ?_
  refine K.norm_block ?_
  refine K.norm_then ?_
  refine K.seq ?_
  refine K.region_lit ?_
  refine K.seq_pure (K.assign) rfl ?_
  refine Rv.zn ?_
  refine K.seq_nil ?_
  refine K.norm_then ?_
  refine K.ret ?_
  refine K.end_ret (fun w _ => K.res_tmp rfl w) ?_
  exact K.gives_i rfl (by unfold markE; rw [if_neg (by omega), if_neg (by omega), if_neg (by omega)])

set_option maxRecDepth 100000 in
theorem c92 {A : Option Addr} {c f : Nat} {cap : List Value} {xs : List (Int × Int × Int)} {p : (Int × Int × Int) → Bool} {w : World} (hR : K.Rd w A 3 K.eT xs) (hn : xs.length ≤ 4611686018427387904) (hcal : K.callable Tryz.prog f = true) (hf : ∀ x ∈ xs, ∀ w1, Below w.heap.size w w1 → Calls Tryz.prog f ([Value.agg (K.eT x).toArray] ++ cap).toArray w1 (K.Gives (.bool (p x)) w1)) :
    Calls Tryz.prog 87 [.slice A xs.length c, .func (.func f) #[] cap.toArray].toArray w (K.Gives (.int .i64 (K.idx p xs)) w) := by
  refine K.enter (args := [.slice A xs.length c, .func (.func f) #[] cap.toArray]) Tryz.func87 rfl (n := 17) rfl ?_
  simp only [List.replicate, List.cons_append, List.nil_append]
  refine K.seq ?_
  refine K.region_lit ?_
  refine K.seq_pure (K.assign) rfl ?_
  refine Rv.zn ?_
  refine K.seq_nil ?_
  refine K.norm_then ?_
  refine K.seq ?_
  refine K.seq ?_
  refine K.region_lit ?_
  refine K.seq_pure (K.move) rfl ?_
  refine Rv.zn ?_
  refine K.seq_pure (K.len_sl sl_63 rfl) rfl ?_
  refine Rv.zn ?_
  refine K.seq_pure (K.move) rfl ?_
  refine Rv.zn ?_
  refine K.seq_nil ?_
  refine K.norm_then ?_
  refine K.block ?_
  refine K.loopW [8] [4, 5, 9, 10, 11, 12, 13, 14, 15, 16, 17, 18] (fun vi L => ∃ k : Nat, vi = [.int .i64 (k : Int)] ∧ L = [] ∧ k ≤ xs.length ∧ ∀ j, j < k → p (xs.getD j default) = false) (fun vi => xs.length - (intOf (K.nth vi 0)).toNat) ?_ ?_
  · exact ⟨0, rfl, rfl, Nat.zero_le _, fun j hj => absurd hj (Nat.not_lt_zero j)⟩
  intro vi vr L hJ
  obtain ⟨k, rfl, rfl, hkn, hall⟩ := hJ
  try dsimp only [setd, setn, ev, nth, over, cl, eI, eP, eT, setM, setF, List.map, List.append, List.drop, List.take]
  refine K.seq ?_
  refine K.region_lit ?_
  refine K.seq_pure (K.lss rfl rfl) rfl ?_
  refine Rv.zn ?_
  refine K.seq_nil ?_
  refine K.norm_then ?_
  refine K.seq ?_
  refine K.cond rfl (fun ht9 => ?_) (fun ht9 => ?_)
  · try replace ht9 := of_decide_eq_true ht9
    have hk : k < xs.length := by omega
    refine K.skip ?_
    refine K.norm_then ?_
    refine K.seq ?_
    refine K.block ?_
    refine K.seq ?_
    refine K.region_lit ?_
    refine K.seq_pure (K.move) rfl ?_
    refine Rv.zn ?_
    refine K.seq_pure (K.assign) rfl ?_
    refine Rv.zn ?_
    refine K.seq_nil ?_
    refine K.norm_then ?_
    refine K.seq ?_
    refine K.region_lit ?_
    refine K.seq_pure (K.move) rfl ?_
    refine Rv.zn ?_
    refine K.seq_pure (K.move) rfl ?_
    refine Rv.zn ?_
    refine K.seq_pure (K.move) rfl ?_
    refine Rv.zn ?_
    refine K.seq_ix (M := []) _ hR.sl sl_63 rfl rfl rfl (by omega) rfl ?_
    intro p14 hp14
    try dsimp only [setd, setn, ev, nth, over, cl, eI, eP, eT, List.map, List.append, List.drop, List.take]
    refine K.seq_sil (K.loadA_p ag_61 rfl (hp14.any) rfl) rfl ?_
    try dsimp only [setd, setn, ev, nth, over, cl, eI, eP, eT, List.map, List.append, List.drop, List.take]
    refine K.seq_call (K.callv_g (first := []) (cap := cap) rfl hcal (fun F w1 _ hw => hf _ (K.gt_mem hk) w1 hw.1)) rfl ?_
    try dsimp only [setd, setn, ev, nth, over, cl, eI, eP, eT, List.map, List.append, List.drop, List.take]
    refine K.seq_nil ?_
    refine K.norm_then ?_
    refine K.cond rfl (fun ht16 => ?_) (fun ht16 => ?_)
    · try replace ht16 := of_decide_eq_true ht16
      refine K.seq ?_
      refine K.region_lit ?_
      refine K.seq_pure (K.move) rfl ?_
      refine Rv.zn ?_
      refine K.seq_pure (K.assign) rfl ?_
      refine Rv.zn ?_
      refine K.seq_nil ?_
      refine K.norm_then ?_
      refine K.ret ?_
      refine K.ret_block ?_
      refine K.ret_then ?_
      refine K.ret_then ?_
      refine K.ret_block ?_
      refine K.ret_then ?_
      refine K.end_ret (fun w _ => K.res_tmp rfl w) ?_
      exact K.gives_i rfl (K.idx_found hk hall ht16).symm
    try replace ht16 := of_decide_eq_false ht16
    refine K.skip ?_
    refine K.norm_block ?_
    refine K.norm_then ?_
    refine K.region_lit ?_
    refine K.seq_pure (K.add_i64 rfl rfl (by omega)) rfl ?_
    refine Rv.zn ?_
    refine K.seq_pure (K.move) rfl ?_
    refine Rv.zn ?_
    refine K.seq_nil ?_
    exact K.round_endW [.int .i64 ((k : Int) + 1)] ⟨k + 1, rfl, rfl, by omega, K.lt_succ_case hall ht16⟩ (by simp [K.nth, intOf]; omega) (List.Sublist.refl _) (by kernel_rfl)
  try replace ht9 := of_decide_eq_false ht9
  refine K.exit ?_
  refine K.exit_then ?_
  refine K.exit_then ?_
  refine K.exit_here ?_
  refine K.norm_then ?_
  refine K.seq ?_
  refine K.region_lit ?_
  refine K.seq_pure (K.assign) rfl ?_
  refine Rv.zn ?_
  refine K.seq_nil ?_
  refine K.norm_then ?_
  refine K.ret ?_
  refine K.end_ret (fun w _ => K.res_tmp rfl w) ?_
  exact K.gives_i rfl (K.idx_none (fun j hj => hall j (by omega))).symm

set_option maxRecDepth 100000 in
theorem c72 {A : Option Addr} {c f : Nat} {cap : List Value} {xs : List (Int × Int × Int)} {p : (Int × Int × Int) → Bool} {w : World} (hR : K.Rd w A 3 K.eT xs) (hn : xs.length ≤ 4611686018427387904) (hcal : K.callable Tryz.prog f = true) (hf : ∀ x ∈ xs, ∀ w1, Below w.heap.size w w1 → Calls Tryz.prog f ([Value.agg (K.eT x).toArray] ++ cap).toArray w1 (K.Gives (.bool (p x)) w1)) :
    Calls Tryz.prog 57 [.slice A xs.length c, .func (.func f) #[] cap.toArray].toArray w (K.Gives (.bool (xs.any p)) w) := by
  refine K.enter (args := [.slice A xs.length c, .func (.func f) #[] cap.toArray]) Tryz.func57 rfl (n := 7) rfl ?_
  simp only [List.replicate, List.cons_append, List.nil_append]
  refine K.seq ?_
  refine K.region_lit ?_
  refine K.seq_pure (K.assign) rfl ?_
  refine Rv.zn ?_
  refine K.seq_nil ?_
  refine K.norm_then ?_
  refine K.seq ?_
  refine K.region_lit ?_
  refine K.seq_pure (K.move) rfl ?_
  refine Rv.zn ?_
  refine K.seq_pure (K.move) rfl ?_
  refine Rv.zn ?_
  refine K.seq_call (K.call_g cal_87 (fun F w hF hw => c92 (p := p) (cap := cap) (hR.pass hw) hn hcal (fun x hx w1 hb => hf x hx w1 (hw.1.trans (hb.mono hw.1.size))))) rfl ?_
  try dsimp only [setd, setn, ev, nth, over, cl, eI, eP, eT, List.map, List.append, List.drop, List.take]
  refine K.seq_pure (K.geq rfl rfl) rfl ?_
  refine Rv.zn ?_
  refine K.seq_pure (K.assign) rfl ?_
  refine Rv.zn ?_
  refine K.seq_nil ?_
  refine K.norm_then ?_
  refine K.ret ?_
  refine K.end_ret (fun w _ => K.res_tmp rfl w) ?_
  exact K.gives_b rfl K.idx_ge

set_option maxRecDepth 100000 in
theorem c73 {x : Int × Int × Int} {b : Nat} {cs : List Int} {w : World} (hp : K.PtrL w [] ⟨b, 0, none⟩ (a8 cs)) (h0 : 0 ≤ x.1) (h8 : x.1 < 8) :
    Calls Tryz.prog 58 [.agg (K.eT x).toArray, .pointer (some ⟨b, 0, none⟩)].toArray w (K.Gives (.bool (missP cs x)) w) := by
  refine K.enter (args := [.agg (K.eT x).toArray, .pointer (some ⟨b, 0, none⟩)]) Tryz.func58 rfl (n := 14) rfl ?_
  simp only [List.replicate, List.cons_append, List.nil_append]
  refine K.seq ?_
  refine K.region_lit ?_
  refine K.seq_new (K.box) rfl ?_
  intro b2
  try dsimp only [setd, setn, ev, nth, over, cl, eI, eP, eT, List.map, List.append, List.drop, List.take]
  refine K.seq_pure (K.assign) rfl ?_
  refine Rv.zn ?_
  refine K.seq_nil ?_
  refine K.norm_then ?_
  refine K.seq ?_
  refine K.draw_L [] Tryz_mixed ?_
  refine K.d_pure 0 rfl (K.fieldAddr_lit fo_61_1 rfl) (by kernel_rfl) rfl ?_
  refine Rv.zn ?_
  refine K.d_pure 1 rfl (K.fieldAddr_lit fo_59_0 rfl) (by kernel_rfl) rfl ?_
  refine Rv.zn ?_
  refine K.d_mem 2 rfl (K.load1_own one_3 rfl (K.m0) rfl) (fun _ h => h) (by kernel_rfl) (by kernel_rfl) rfl ?_
  try dsimp only [setd, setn, ev, nth, over, cl, eI, eP, eT, List.map, List.append, List.drop, List.take]
  refine K.d_pure 3 rfl (K.fieldAddr_lit fo_61_1 rfl) (by kernel_rfl) rfl ?_
  refine Rv.zn ?_
  refine K.d_pure 4 rfl (K.fieldAddr_lit fo_59_1 rfl) (by kernel_rfl) rfl ?_
  refine Rv.zn ?_
  refine K.d_mem 5 rfl (K.load1_own one_3 rfl (K.m0) rfl) (fun _ h => h) (by kernel_rfl) (by kernel_rfl) rfl ?_
  try dsimp only [setd, setn, ev, nth, over, cl, eI, eP, eT, List.map, List.append, List.drop, List.take]
  refine K.d_pure 6 rfl (K.fieldAddr_lit fo_61_0 rfl) (by kernel_rfl) rfl ?_
  refine Rv.zn ?_
  refine K.d_mem 7 rfl (K.load1_own one_3 rfl (K.m0) rfl) (fun _ h => h) (by kernel_rfl) (by kernel_rfl) rfl ?_
  try dsimp only [setd, setn, ev, nth, over, cl, eI, eP, eT, List.map, List.append, List.drop, List.take]
  refine K.d_pure 8 rfl (K.indexAddr_ar ar_103 rfl rfl (by omega) (by omega)) (by kernel_rfl) rfl ?_
  try dsimp only [setd, setn, ev, nth, over, cl, eI, eP, eT, List.map, List.append, List.drop, List.take]
  refine K.d_mem 9 rfl (K.load1 one_3 rfl ((ptr8 hp h0 h8).any)) (fun _ h => h) (by kernel_rfl) (by kernel_rfl) rfl ?_
  try dsimp only [setd, setn, ev, nth, over, cl, eI, eP, eT, List.map, List.append, List.drop, List.take]
  refine K.d_new 10 rfl (K.buildSlice (bs1 _)) (fun _ h => h) (by kernel_rfl) rfl ?_
  intro b14
  try dsimp only [setd, setn, ev, nth, over, cl, eI, eP, eT, List.map, List.append, List.drop, List.take]
  refine K.d_call 11 rfl (K.call_g cal_53 (fun F w hF hw => c52_1 hw (hF _ (K.m0)))) (fun _ h => K.tl h) (by kernel_rfl) rfl ?_
  try dsimp only [setd, setn, ev, nth, over, cl, eI, eP, eT, List.map, List.append, List.drop, List.take]
  refine K.d_pure 12 rfl (K.assign) (by kernel_rfl) rfl ?_
  refine Rv.zn ?_
  refine K.d_done (by kernel_rfl) ?_
  refine K.norm_then ?_
  refine K.ret ?_
  refine K.end_ret (fun w _ => K.res_tmp rfl w) ?_
  exact K.gives rfl

set_option maxRecDepth 100000 in
theorem e31 {kind base most : Int} {A B : Option Addr} {c d : Nat} {hs : List Int} {rs : List (Int × Int)} {M : Option Addr} {cm : Nat} {ms : List (Int × Int × Int)} {w : World} (hH : K.Rd w A 1 K.eI hs) (hR : K.Rd w B 2 K.eP rs) (hn : hs.length ≤ 4611686018427387904) (hm : rs.length ≤ 4611686018427387904) (he : (chk kind base most hs rs).2.2 ≠ 0) :
    Calls Tryz.prog 24 [.agg #[.int .i64 kind, .int .i64 base, .int .i64 most, .slice A hs.length c, .slice B rs.length d], .slice M ms.length cm].toArray w (K.RetSE 42 2 K.eP ([] : List (Int × Int)) (chk kind base most hs rs).2.2 w) := by
  refine K.enter (args := [.agg #[.int .i64 kind, .int .i64 base, .int .i64 most, .slice A hs.length c, .slice B rs.length d], .slice M ms.length cm]) Tryz.func24 rfl (n := 50) rfl ?_
  simp only [List.replicate, List.cons_append, List.nil_append]
  refine K.seq ?_
  refine K.region_lit ?_
  refine K.seq_new (K.box) rfl ?_
  intro b2
  try dsimp only [setd, setn, ev, nth, over, cl, eI, eP, eT, List.map, List.append, List.drop, List.take]
  refine K.seq_new (K.box) rfl ?_
  intro b3
  try dsimp only [setd, setn, ev, nth, over, cl, eI, eP, eT, List.map, List.append, List.drop, List.take]
  refine K.seq_new (K.alloc zr_55) rfl ?_
  intro b4
  try dsimp only [setd, setn, ev, nth, over, cl, eI, eP, eT, List.map, List.append, List.drop, List.take]
  refine K.seq_pure (K.assign) rfl ?_
  refine Rv.zn ?_
  refine K.seq_nil ?_
  refine K.norm_then ?_
  refine K.seq ?_
  refine K.region_lit ?_
  refine K.seq_sil (K.loadA_own ag_38 rfl (K.m2) rfl) rfl ?_
  try dsimp only [setd, setn, ev, nth, over, cl, eI, eP, eT, List.map, List.append, List.drop, List.take]
  refine K.seq_call (K.call_g cal_44 (fun F w hF hw => e58 (l := []) (hH.pass hw) (hR.pass hw) hn hm he)) rfl ?_
  try dsimp only [setd, setn, ev, nth, over, cl, eI, eP, eT, List.map, List.append, List.drop, List.take]
  refine K.seq_pure (K.move) rfl ?_
  refine Rv.zn ?_
  refine K.seq_pure (K.extract rfl rfl) rfl ?_
  refine Rv.zn ?_
  refine K.seq_pure (K.extract rfl rfl) rfl ?_
  refine Rv.zn ?_
  refine K.seq_new (K.alloc zr_99) rfl ?_
  intro b6
  try dsimp only [setd, setn, ev, nth, over, cl, eI, eP, eT, List.map, List.append, List.drop, List.take]
  refine K.seq_st (K.store_all sz_99 rfl rfl rfl rfl (K.rp0)) rfl ?_
  try dsimp only [setd, setn, ev, nth, over, cl, eI, eP, eT, List.map, List.append, List.drop, List.take]
  refine K.seq_pure (K.assign) rfl ?_
  refine Rv.zn ?_
  refine K.seq_nil ?_
  refine K.norm_then ?_
  refine K.seq ?_
  refine K.block ?_
  refine K.seq ?_
  refine K.region_lit ?_
  refine K.seq_pure (K.move) rfl ?_
  refine Rv.zn ?_
  refine K.seq_pure (K.neq rfl rfl) rfl ?_
  refine Rv.zn ?_
  refine K.seq_pure (K.assign) rfl ?_
  refine Rv.zn ?_
  refine K.seq_nil ?_
  refine K.norm_then ?_
  refine K.cond rfl (fun ht15 => ?_) (fun ht15 => ?_)
  · try replace ht15 := of_decide_eq_true ht15
    refine K.seq ?_
    refine K.region_lit ?_
    refine K.seq_pure (K.move) rfl ?_
    refine Rv.zn ?_
    refine K.seq_st (K.store sz_55 rfl rfl rfl rfl (K.rp1)) rfl ?_
    try dsimp only [setd, setn, ev, nth, over, cl, eI, eP, eT, List.map, List.append, List.drop, List.take]
    refine K.seq_pure (K.assign) rfl ?_
    refine Rv.zn ?_
    refine K.seq_nil ?_
    refine K.norm_then ?_
    refine K.ret ?_
    refine K.ret_block ?_
    refine K.ret_then ?_
    refine K.end_ret (fun w hw => K.res_ct rfl rfl (K.run_cell1 one_55 rfl (K.m1) w hw)) ?_
    exact K.rets_se0 rfl rfl rfl
  try replace ht15 := of_decide_eq_false ht15
  exact absurd he ht15

set_option maxRecDepth 100000 in
theorem g31 {kind base most : Int} {A B : Option Addr} {c d : Nat} {hs : List Int} {rs : List (Int × Int)} {M : Option Addr} {cm : Nat} {ms : List (Int × Int × Int)} {w : World} (hH : K.Rd w A 1 K.eI hs) (hR : K.Rd w B 2 K.eP rs) (g : Good kind base most hs rs) (hM : K.Rd w M 3 K.eT ms) (hml : ms.length ≤ 4611686018427387904) :
    Calls Tryz.prog 24 [.agg #[.int .i64 kind, .int .i64 base, .int .i64 most, .slice A hs.length c, .slice B rs.length d], .slice M ms.length cm].toArray w (K.RetSE 42 2 K.eP (if (if ms.length > 8 then 3 else (K.fst (markE hs.length) ms).2) = 0 then SB.filter (okS kind base most hs ms) else []) (if ms.length > 8 then 3 else (K.fst (markE hs.length) ms).2) w) := by
  have g1 := g.k
  have g2 := g.n
  have g3 := g.r
  have g4 := g.b
  have g5 := g.m
  refine R.enter (args := [.agg #[.int .i64 kind, .int .i64 base, .int .i64 most, .slice A hs.length c, .slice B rs.length d], .slice M ms.length cm]) Tryz.func24 rfl (m := 50) rfl ?_
  simp only [List.replicate, List.cons_append, List.nil_append]
  refine R.seq ?_
  refine R.region_lit rfl ?_
  refine K.seq_new (K.box) rfl ?_
  intro b2
  try dsimp only [setd, setn, ev, nth, over, cl, eI, eP, eT, List.map, List.append, List.drop, List.take]
  refine K.seq_new (K.box) rfl ?_
  intro b3
  try dsimp only [setd, setn, ev, nth, over, cl, eI, eP, eT, List.map, List.append, List.drop, List.take]
  refine K.seq_new (K.alloc zr_55) rfl ?_
  intro b4
  try dsimp only [setd, setn, ev, nth, over, cl, eI, eP, eT, List.map, List.append, List.drop, List.take]
  refine K.seq_pure (K.assign) rfl ?_
  refine Rv.zn ?_
  refine K.seq_nil ?_
  refine R.out ?_
  refine R.norm_then ?_
  refine R.seq ?_
  refine R.region_lit rfl ?_
  refine K.seq_sil (K.loadA_own ag_38 rfl (K.m2) rfl) rfl ?_
  try dsimp only [setd, setn, ev, nth, over, cl, eI, eP, eT, List.map, List.append, List.drop, List.take]
  refine K.seq_call (K.call_g cal_44 (fun F w hF hw => c58 (l := []) (hH.pass hw) (hR.pass hw) g K.Rd.nil (by simp))) rfl ?_
  try dsimp only [setd, setn, ev, nth, over, cl, eI, eP, eT, List.map, List.append, List.drop, List.take]
  refine K.seq_pure (K.move) rfl ?_
  refine Rv.zn ?_
  refine K.seq_pure (K.extract rfl rfl) rfl ?_
  refine Rv.zn ?_
  refine K.seq_pure (K.extract rfl rfl) rfl ?_
  refine Rv.zn ?_
  refine K.seq_new (K.alloc zr_99) rfl ?_
  intro b6
  try dsimp only [setd, setn, ev, nth, over, cl, eI, eP, eT, List.map, List.append, List.drop, List.take]
  refine K.seq_st (K.store_all sz_99 rfl rfl rfl rfl (K.rp0)) rfl ?_
  try dsimp only [setd, setn, ev, nth, over, cl, eI, eP, eT, List.map, List.append, List.drop, List.take]
  refine K.seq_pure (K.assign) rfl ?_
  refine Rv.zn ?_
  refine K.seq_nil ?_
  refine R.out ?_
  refine R.norm_then ?_
  refine R.seq ?_
  refine R.block ?_
  refine R.seq ?_
  refine R.region_lit rfl ?_
  refine K.seq_pure (K.move) rfl ?_
  refine Rv.zn ?_
  refine K.seq_pure (K.neq rfl rfl) rfl ?_
  refine Rv.zn ?_
  refine K.seq_pure (K.assign) rfl ?_
  refine Rv.zn ?_
  refine K.seq_nil ?_
  refine R.out ?_
  refine R.norm_then ?_
  refine R.cond rfl (fun ht15 => ?_) (fun ht15 => ?_)
  · try replace ht15 := of_decide_eq_true ht15
    exact absurd rfl ht15
  try replace ht15 := of_decide_eq_false ht15
  refine R.seq ?_
  refine R.region_lit rfl ?_
  refine K.seq_sil (K.load1_own one_63 rfl (K.m2) rfl) rfl ?_
  try dsimp only [setd, setn, ev, nth, over, cl, eI, eP, eT, List.map, List.append, List.drop, List.take]
  refine K.seq_pure (K.len_sl sl_63 rfl) rfl ?_
  refine Rv.zn ?_
  refine K.seq_pure (K.gtr rfl rfl) rfl ?_
  refine Rv.zn ?_
  refine K.seq_pure (K.assign) rfl ?_
  refine Rv.zn ?_
  refine K.seq_nil ?_
  refine R.out ?_
  refine R.norm_then ?_
  refine R.cond rfl (fun ht19 => ?_) (fun ht19 => ?_)
  · try replace ht19 := of_decide_eq_true ht19
    have hq : (if ms.length > 8 then 3 else (K.fst (markE hs.length) ms).2) = 3 := if_pos (by omega)
    refine R.seq ?_
    refine R.region_lit rfl ?_
    refine K.seq_st (K.store sz_55 rfl rfl rfl rfl (K.rp1)) rfl ?_
    try dsimp only [setd, setn, ev, nth, over, cl, eI, eP, eT, List.map, List.append, List.drop, List.take]
    refine K.seq_pure (K.assign) rfl ?_
    refine Rv.zn ?_
    refine K.seq_nil ?_
    refine R.out ?_
    refine R.norm_then ?_
    refine R.ret ?_
    refine R.ret_block ?_
    refine R.ret_then ?_
    refine R.end_ret (fun w hw => K.res_ct rfl rfl (K.run_cell1 one_55 rfl (K.m1) w hw)) ?_
    rw [hq, if_neg (by decide)]
    exact K.rets_se0 rfl rfl rfl
  try replace ht19 := of_decide_eq_false ht19
  have hq : (if ms.length > 8 then 3 else (K.fst (markE hs.length) ms).2) = (K.fst (markE hs.length) ms).2 := if_neg (by omega)
  refine R.skip ?_
  refine R.norm_block ?_
  refine R.norm_then ?_
  refine R.seq ?_
  refine R.region_lit rfl ?_
  refine K.seq_sil (K.load1_own one_63 rfl (K.m2) rfl) rfl ?_
  try dsimp only [setd, setn, ev, nth, over, cl, eI, eP, eT, List.map, List.append, List.drop, List.take]
  refine K.seq_pure (K.mkFunc) rfl ?_
  try dsimp only [setd, setn, ev, nth, over, cl, eI, eP, eT, List.map, List.append, List.drop, List.take]
  refine K.seq_call (K.call_g cal_55 (fun F w hF hw => c70 (q := markE hs.length) (cap := [.pointer (some ⟨b2, 0, none⟩)]) (hM.pass hw) hml cal_56 (fun x _ w1 hb => c71 (K.PtrL.pass hw (hF _ (K.m3)) hb) (by omega)))) rfl ?_
  try dsimp only [setd, setn, ev, nth, over, cl, eI, eP, eT, List.map, List.append, List.drop, List.take]
  refine K.seq_pure (K.move) rfl ?_
  refine Rv.zn ?_
  refine K.seq_pure (K.extract rfl rfl) rfl ?_
  refine Rv.zn ?_
  refine K.seq_pure (K.extract rfl rfl) rfl ?_
  refine Rv.zn ?_
  refine K.seq_pure (K.assign) rfl ?_
  refine Rv.zn ?_
  refine K.seq_nil ?_
  refine R.out ?_
  refine R.norm_then ?_
  refine R.seq ?_
  refine R.seq ?_
  refine R.region_lit rfl ?_
  refine K.seq_pure (K.move) rfl ?_
  refine Rv.zn ?_
  refine K.seq_pure (K.neq rfl rfl) rfl ?_
  refine Rv.zn ?_
  refine K.seq_nil ?_
  refine R.out ?_
  refine R.norm_then ?_
  refine R.cond rfl (fun ht30 => ?_) (fun ht30 => ?_)
  · try replace ht30 := of_decide_eq_true ht30
    refine R.seq ?_
    refine R.region_lit rfl ?_
    refine K.seq_pure (K.move) rfl ?_
    refine Rv.zn ?_
    refine K.seq_st (K.store sz_55 rfl rfl rfl rfl (K.rp1)) rfl ?_
    try dsimp only [setd, setn, ev, nth, over, cl, eI, eP, eT, List.map, List.append, List.drop, List.take]
    refine K.seq_pure (K.assign) rfl ?_
    refine Rv.zn ?_
    refine K.seq_nil ?_
    refine R.out ?_
    refine R.norm_then ?_
    refine R.ret ?_
    refine R.ret_then ?_
    refine R.end_ret (fun w hw => K.res_ct rfl rfl (K.run_cell1 one_55 rfl (K.m1) w hw)) ?_
    rw [hq, if_neg ht30]
    exact K.rets_se0 rfl rfl rfl
  try replace ht30 := of_decide_eq_false ht30
  have hz : (K.fst (markE hs.length) ms).2 = 0 := by omega
  have hpt : ∀ y ∈ ms, 0 ≤ y.1 ∧ y.1 < 8 := fun y hy => by have := markE_0 (fst_zero.1 hz y hy); omega
  refine R.skip ?_
  refine R.norm_then ?_
  refine R.seq ?_
  refine R.seq ?_
  refine R.region_lit rfl ?_
  refine K.nil_row (e := 42) (size := 2) ?_
  refine K.seq_call (K.call_g cal_54 (fun F w hF hw => c67 w)) rfl ?_
  try dsimp only [setd, setn, ev, nth, over, cl, eI, eP, eT, List.map, List.append, List.drop, List.take]
  refine K.seq_nil ?_
  refine R.out ?_
  refine R.norm_then ?_
  refine R.block ?_
  refine R.rangeF (gf := 85) (enc := (fun x : Int × Int => Value.agg #[.int .i64 x.1, .int .i64 x.2])) (XS := SB) rfl cal_85 c90 (fun k L => ∃ (Q1 : Option Addr) (n1 q1 : Nat) (ys : List Value), L = [K.row (.slice Q1 n1 q1) 42 2 n1 ys, K.blk b6 99 [.int .i64 kind, .int .i64 base, .int .i64 most, .slice A hs.length c, .slice B rs.length d, .func (.func (110 + kind.toNat)) #[] #[]], K.blk b4 55 [.slice Q1 n1 q1], K.blk b3 63 [.slice M ms.length cm], K.blk b2 38 [.int .i64 kind, .int .i64 base, .int .i64 most, .slice A hs.length c, .slice B rs.length d]] ∧ n1 = ((SB.take k).filter (okS kind base most hs ms)).length ∧ ys = ((SB.take k).filter (okS kind base most hs ms)).flatMap K.eP) (fun cX L => False) ?_ ?_ ?_ ?_
  · exact ⟨none, 0, 0, [], rfl, rfl, rfl⟩
  · intro k x L lr E hx hJ
    obtain ⟨Q1, n1, q1, ys, rfl, hn1, hys⟩ := hJ
    have hp := sb_parts hx
    have hfl := filt_len (p := (okS kind base most hs ms)) (k := k)
    try dsimp only [List.cons_append, List.nil_append]
    try dsimp only [setd, setn, ev, nth, over, cl, eI, eP, eT, setM, setF, List.map, List.append, List.drop, List.take]
    refine R.region_lit rfl ?_
    refine K.seq_new (K.alloc zr_42) rfl ?_
    intro b7
    try dsimp only [setd, setn, ev, nth, over, cl, eI, eP, eT, List.map, List.append, List.drop, List.take]
    refine K.seq_st (K.store_all sz_42 rfl rfl rfl rfl (K.rp0)) rfl ?_
    try dsimp only [setd, setn, ev, nth, over, cl, eI, eP, eT, List.map, List.append, List.drop, List.take]
    refine K.seq_nil ?_
    refine R.out ?_
    refine R.norm_then ?_
    refine R.body' rfl (fun E => ?_)
    dsimp only [List.dropLast, List.cons_append, List.nil_append]
    try dsimp only [setd, setn, ev, nth, over, cl, eI, eP, eT, List.map, List.append, List.drop, List.take]
    refine R.block ?_
    refine R.seq ?_
    refine R.region_lit rfl ?_
    refine K.seq_sil (K.loadA_own ag_99 rfl (K.m2) rfl) rfl ?_
    try dsimp only [setd, setn, ev, nth, over, cl, eI, eP, eT, List.map, List.append, List.drop, List.take]
    refine K.seq_sil (K.loadA_own ag_42 rfl (K.m0) rfl) rfl ?_
    try dsimp only [setd, setn, ev, nth, over, cl, eI, eP, eT, List.map, List.append, List.drop, List.take]
    refine K.seq_call (K.call_g cal_45 (fun F w hF hw => c59 (u := x.1) (v := x.2) (hH.pass hw) g hp)) rfl ?_
    try dsimp only [setd, setn, ev, nth, over, cl, eI, eP, eT, List.map, List.append, List.drop, List.take]
    refine K.seq_pure (K.move) rfl ?_
    refine Rv.zn ?_
    refine K.seq_pure (K.extract rfl rfl) rfl ?_
    refine Rv.zn ?_
    refine K.seq_pure (K.extract rfl rfl) rfl ?_
    refine Rv.zn ?_
    refine K.seq_new (K.alloc zr_103) rfl ?_
    intro b8
    try dsimp only [setd, setn, ev, nth, over, cl, eI, eP, eT, List.map, List.append, List.drop, List.take]
    refine K.seq_st (K.store_all sz_103 rfl rfl rfl rfl (K.rp0)) rfl ?_
    try dsimp only [setd, setn, ev, nth, over, cl, eI, eP, eT, List.map, List.append, List.drop, List.take]
    refine K.seq_pure (K.assign) rfl ?_
    refine Rv.zn ?_
    refine K.seq_nil ?_
    refine R.out ?_
    refine R.norm_then ?_
    refine R.seq ?_
    refine R.region_lit rfl ?_
    refine K.seq_pure (K.move) rfl ?_
    refine Rv.zn ?_
    refine K.seq_pure (K.move) rfl ?_
    refine Rv.zn ?_
    refine K.split 41 rfl (fun hg41 => ?_) (fun hg41 => ?_)
    · try replace hg41 := of_decide_eq_true hg41
      refine K.seq_sil (K.load1_own one_63 rfl (K.m5) rfl) rfl ?_
      try dsimp only [setd, setn, ev, nth, over, cl, eI, eP, eT, List.map, List.append, List.drop, List.take]
      refine K.seq_pure (K.mkFunc) rfl ?_
      try dsimp only [setd, setn, ev, nth, over, cl, eI, eP, eT, List.map, List.append, List.drop, List.take]
      refine K.seq_call (K.call_g cal_57 (fun F w hF hw => c72 (p := missP (cuts kind base x.1 x.2 hs)) (cap := [.pointer (some ⟨b8, 0, none⟩)]) (hM.pass hw) hml cal_58 (fun y hy w1 hb => c73 (K.PtrL.pass hw (hF _ (K.m0)) hb) (hpt y hy).1 (hpt y hy).2))) rfl ?_
      try dsimp only [setd, setn, ev, nth, over, cl, eI, eP, eT, List.map, List.append, List.drop, List.take]
      first | refine K.seq_pure (K.not_d rfl) rfl ?_ | refine K.seq_pure (K.not_ rfl) rfl ?_
      try dsimp only [setd, setn, ev, nth, over, cl, eI, eP, eT, List.map, List.append, List.drop, List.take]
      refine K.seq_pure (K.pick_t rfl) rfl ?_
      refine Rv.zn ?_
      refine K.seq_nil ?_
      refine R.out ?_
      refine R.norm_then ?_
      refine R.cond rfl (fun ht46 => ?_) (fun ht46 => ?_)
      · try replace ht46 := of_decide_eq_true ht46
        refine R.region_lit rfl ?_
        refine K.seq_sil (K.load1_own one_55 rfl (K.m4) rfl) rfl ?_
        try dsimp only [setd, setn, ev, nth, over, cl, eI, eP, eT, List.map, List.append, List.drop, List.take]
        refine K.seq_sil (K.loadA_own ag_42 rfl (K.m1) rfl) rfl ?_
        try dsimp only [setd, setn, ev, nth, over, cl, eI, eP, eT, List.map, List.append, List.drop, List.take]
        refine K.seq_new (K.buildSlice (bs27 _ _)) rfl ?_
        intro b49
        try dsimp only [setd, setn, ev, nth, over, cl, eI, eP, eT, List.map, List.append, List.drop, List.take]
        refine K.seq_upd (K.append el_55 rfl rfl (K.PtrL.own' (K.m0)) rfl rfl (by decide) (by omega) (by omega) (fun _ _ => K.rp3)) rfl ?_
        rintro ⟨g50, c50⟩ _
        try dsimp only [setd, setn, ev, nth, over, cl, eI, eP, eT, List.map, List.append, List.drop, List.take]
        refine K.seq_st (K.store sz_55 rfl rfl rfl rfl (K.rp5)) rfl ?_
        try dsimp only [setd, setn, ev, nth, over, cl, eI, eP, eT, List.map, List.append, List.drop, List.take]
        refine K.seq_nil ?_
        refine R.out ?_
        refine R.norm_block ?_
        exact R.rp_normal (L := [K.row (.slice (some ⟨g50, 0, none⟩) (n1 + 1) c50) 42 2 (n1 + 1) (ys ++ [.int .i64 x.1, .int .i64 x.2]), K.blk b6 99 [.int .i64 kind, .int .i64 base, .int .i64 most, .slice A hs.length c, .slice B rs.length d, .func (.func (110 + kind.toNat)) #[] #[]], K.blk b4 55 [.slice (some ⟨g50, 0, none⟩) (n1 + 1) c50], K.blk b3 63 [.slice M ms.length cm], K.blk b2 38 [.int .i64 kind, .int .i64 base, .int .i64 most, .slice A hs.length c, .slice B rs.length d]]) ⟨_, _, _, _, rfl, by rw [filt_t hx (by unfold okS fitP; rw [hg41, ht46]; rfl), List.length_append, ← hn1]; rfl, by rw [filt_t hx (by unfold okS fitP; rw [hg41, ht46]; rfl), List.flatMap_append, ← hys]; rfl⟩ (by repeat (first | exact List.Sublist.refl _ | apply List.Sublist.cons))
      try replace ht46 := of_decide_eq_false ht46
      refine R.skip ?_
      refine R.norm_block ?_
      exact R.rp_normal (L := [K.row (.slice Q1 n1 q1) 42 2 n1 ys, K.blk b6 99 [.int .i64 kind, .int .i64 base, .int .i64 most, .slice A hs.length c, .slice B rs.length d, .func (.func (110 + kind.toNat)) #[] #[]], K.blk b4 55 [.slice Q1 n1 q1], K.blk b3 63 [.slice M ms.length cm], K.blk b2 38 [.int .i64 kind, .int .i64 base, .int .i64 most, .slice A hs.length c, .slice B rs.length d]]) ⟨_, _, _, _, rfl, by rw [filt_f hx (by unfold okS fitP; rw [ht46, Bool.and_false]), ← hn1], by rw [filt_f hx (by unfold okS fitP; rw [ht46, Bool.and_false]), ← hys]⟩ (by repeat (first | exact List.Sublist.refl _ | apply List.Sublist.cons))
    try replace hg41 := of_decide_eq_false hg41
    refine K.seq_skip ?_ ?_
    · rfl
    try dsimp only [setd, setn, ev, nth, over, cl, eI, eP, eT, List.map, List.append, List.drop, List.take]
    refine K.seq_skip ?_ ?_
    · rfl
    try dsimp only [setd, setn, ev, nth, over, cl, eI, eP, eT, List.map, List.append, List.drop, List.take]
    refine K.seq_skip ?_ ?_
    · rfl
    try dsimp only [setd, setn, ev, nth, over, cl, eI, eP, eT, List.map, List.append, List.drop, List.take]
    refine K.seq_skip ?_ ?_
    · rfl
    try dsimp only [setd, setn, ev, nth, over, cl, eI, eP, eT, List.map, List.append, List.drop, List.take]
    refine K.seq_pure (K.pick_f rfl) rfl ?_
    refine Rv.zn ?_
    refine K.seq_nil ?_
    refine R.out ?_
    refine R.norm_then ?_
    refine R.cond_false rfl ?_
    refine R.skip ?_
    refine R.norm_block ?_
    exact R.rp_normal (L := [K.row (.slice Q1 n1 q1) 42 2 n1 ys, K.blk b6 99 [.int .i64 kind, .int .i64 base, .int .i64 most, .slice A hs.length c, .slice B rs.length d, .func (.func (110 + kind.toNat)) #[] #[]], K.blk b4 55 [.slice Q1 n1 q1], K.blk b3 63 [.slice M ms.length cm], K.blk b2 38 [.int .i64 kind, .int .i64 base, .int .i64 most, .slice A hs.length c, .slice B rs.length d]]) ⟨_, _, _, _, rfl, by rw [filt_f hx (by unfold okS fitP; rw [hg41]; rfl), ← hn1], by rw [filt_f hx (by unfold okS fitP; rw [hg41]; rfl), ← hys]⟩ (by repeat (first | exact List.Sublist.refl _ | apply List.Sublist.cons))
  · intro bD L hJ
    obtain ⟨Q1, n1, q1, ys, rfl, hn1, hys⟩ := hJ
    rw [List.take_length] at hn1 hys
    try dsimp only [List.cons_append, List.nil_append]
    try dsimp only [setd, setn, ev, nth, over, cl, eI, eP, eT, setM, setF, List.map, List.append, List.drop, List.take]
    refine R.norm_block ?_
    refine R.norm_then ?_
    refine R.seq ?_
    refine R.region_lit rfl ?_
    refine K.seq_sil (K.load1_own one_55 rfl (K.m2) rfl) rfl ?_
    try dsimp only [setd, setn, ev, nth, over, cl, eI, eP, eT, List.map, List.append, List.drop, List.take]
    refine K.seq_st (K.store sz_55 rfl rfl rfl rfl (K.rp2)) rfl ?_
    try dsimp only [setd, setn, ev, nth, over, cl, eI, eP, eT, List.map, List.append, List.drop, List.take]
    refine K.seq_pure (K.assign) rfl ?_
    refine Rv.zn ?_
    refine K.seq_nil ?_
    refine R.out ?_
    refine R.norm_then ?_
    refine R.ret ?_
    refine R.end_ret1 rfl (by dsimp only [List.dropLast]; exact (fun w hw => K.res_ct rfl rfl (K.run_cell1 one_55 rfl (K.m2) w hw))) ?_
    dsimp only [List.dropLast]
    rw [hq, if_pos hz, hz]
    exact K.rets_se (List.Mem.head _) hn1 hys rfl rfl
  · intro bD cx L hJ
    skip
    exact hJ.elim

theorem c31 {kind base most : Int} {A B : Option Addr} {c d : Nat} {hs : List Int} {rs : List (Int × Int)} {M : Option Addr} {cm : Nat} {ms : List (Int × Int × Int)} {w : World} (hH : K.Rd w A 1 K.eI hs) (hR : K.Rd w B 2 K.eP rs) (hn : hs.length ≤ 4611686018427387904) (hm : rs.length ≤ 4611686018427387904) (hM : K.Rd w M 3 K.eT ms) (hml : ms.length ≤ 4611686018427387904) : Calls Tryz.prog 24 [.agg #[.int .i64 kind, .int .i64 base, .int .i64 most, .slice A hs.length c, .slice B rs.length d], .slice M ms.length cm].toArray w (K.RetSE 42 2 K.eP (scalesR kind base most hs rs ms) (marksE kind base most hs rs ms) w) := by
  by_cases he : (chk kind base most hs rs).2.2 = 0
  · have h := g31 (A := A) (B := B) (c := c) (d := d) (M := M) (cm := cm) (ms := ms) (w := w) hH hR (chk_good he) hM hml
    have e1 : (if ms.length > 8 then 3 else (K.fst (markE hs.length) ms).2) = marksE kind base most hs rs ms := by unfold marksE; exact (if_neg (fun h => h he)).symm
    rw [e1] at h
    exact h
  · have h := e31 (A := A) (B := B) (c := c) (d := d) (M := M) (cm := cm) (ms := ms) (w := w) hH hR hn hm he
    have e1 : marksE kind base most hs rs ms = (chk kind base most hs rs).2.2 := by unfold marksE; rw [if_pos he]
    have e : scalesR kind base most hs rs ms = [] := by unfold scalesR; rw [if_neg (by rw [e1]; exact he)]
    rw [e, e1]
    exact h


end Go.Proofs.YtekkpcpbnonkaaaGreatDoor.Sc
end
