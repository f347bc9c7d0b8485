/-
  Lemmas and walks of functions, joined and with only what the claim needs.
  Conditions stand in each theorem.
-/
import Derived.Test.YtfbglomliankmaaProg
import Derived.Test.YtfbglomliankmaaRows
import Derived.Below
import Derived.Laws.AppendOwn
import Derived.Laws.Rows
import Derived.Laws.Slices
import Derived.Tactics
import Derived.OrdersHeld
import Derived.KernelRfl
import Derived.WalkKit
import Derived.Deep.AppendLies
import Derived.IntWalk
import Derived.Scope
import Derived.WalkSpells
import Derived.DeepKeys
import Derived.Deep.Upon
import Derived.Laws.Small
import Derived.RangeFuncLeaves
import Derived.RangeFuncSeq
import Derived.OrdersIn
import Derived.Sort.LoopGhostIn
import Derived.TacticsIn
import Derived.RangeFuncOwn
import Derived.WideKeyMaps
import Derived.DeepKeys4
import Derived.Carry
import Derived.Laws.CopyRow
import Derived.Laws.MakeOwn
import Derived.WalkArith
import Derived.Laws.Closers25b
import Derived.ProofKit
import Derived.OpenShut
import Derived.ChangeOld
import Derived.SizedLaws
import Derived.Deep.Slices
import Derived.Deep.Fields
import Derived.ChangeSame
import Derived.Lib.SmallJoins
import Derived.Test.YtfbglomliankmaaZf
section
set_option linter.unusedSimpArgs false
set_option linter.unusedVariables false
namespace Go.Proofs.Ytfbglomliankmaa.Cv
open Go.RowKit Go
open Go.K (setd setn ev nth over cl eI eP eT setM setF)
attribute [local irreducible] K.blk K.row
theorem bl38 (a b : Int) : K.Bl Try.prog 38 [(0, .int .u8 a), (1, .int .u8 b)] (.agg #[.int .u8 a, .int .u8 b]) := fun w => by kernel_rfl
theorem bl41 (k : Int) (S : Option Addr) (n c : Nat) : K.Bl Try.prog 41 [(0, .int .i64 k), (2, .int .i64 100000), (3, .slice S n c)] (.agg #[.int .i64 k, .int .i64 0, .int .i64 100000, .slice S n c, .slice none 0 0]) := fun w => by kernel_rfl
theorem bl24z (a : Int) : K.Bl Try.prog 24 [(0, .int .i64 a)] (.agg #[.int .i64 a, .slice none 0 0]) := fun w => by kernel_rfl
theorem bl45b (a b : Int) : K.Bl Try.prog 45 [(1, .int .i64 a), (2, .int .i64 b)] (.agg #[.int .i64 0, .int .i64 a, .int .i64 b]) := fun w => by kernel_rfl
theorem bs22_1 (a b c : Int) : K.Bs Try.prog 22 1 [(0, .agg #[.int .i64 a, .int .i64 b, .int .i64 c])] 45 [.int .i64 a, .int .i64 b, .int .i64 c] := fun w => by kernel_rfl
def cutK (kind u v : Int) (ps : List CvT) (k : Nat) : List CvT := (List.range k).map fun i => cutP kind u v (ps.getD i default)
theorem cutK_s {kind u v : Int} {ps : List CvT} {k : Nat} : cutK kind u v ps (k + 1) = cutK kind u v ps k ++ [cutP kind u v (ps.getD k default)] := by unfold cutK; rw [List.range_succ, List.map_append]; rfl
theorem cutK_all {kind u v : Int} {ps : List CvT} : cutK kind u v ps ps.length = cutR kind u v ps := by
  unfold cutK cutR
  refine List.ext_getElem (by simp) fun i h1 h2 => ?_
  have hi : i < ps.length := by simpa using h2
  simp only [List.getElem_map, List.getElem_range]
  rw [List.getD_eq_getElem?_getD, List.getElem?_eq_getElem hi]
  rfl
theorem surf_bd {st : Int} {ps : List CvT} {s : List Int} (g : Good st ps) (hs : Surf st ps s) : ∀ x ∈ s, 0 ≤ x ∧ x ≤ 9000 := fun x hx => by
  obtain ⟨j, hj, rfl⟩ := mem_at hx
  rw [hs.l] at hj
  have h1 := hs.b j hj
  have h2 := g.p j hj
  omega

set_option maxRecDepth 100000 in
theorem e3 {st : Int} {ps : List CvT} {ys : List Int} {y0 y1 y2 : Int} {A Y : Option Addr} {c cy : Nat} {w : World} (hR : K.Rd w A 3 eC ps) (hn : ps.length ≤ 4611686018427387904) (hY : K.Rd w Y 1 eY ys) (hyb : ∀ x ∈ ys, 0 ≤ x ∧ x ≤ 255) (hyl : ys.length ≤ 140737488351232) (hy0 : 0 ≤ y0 ∧ y0 ≤ 255) (hy1 : 0 ≤ y1 ∧ y1 ≤ 255) (hy2 : 0 ≤ y2 ∧ y2 ≤ 255) (he : (chk st ps).2.2 ≠ 0 ∨ ps.length > 8) :
    Calls Try.prog 3 [.agg #[.int .i64 st, .slice A ps.length c], .slice Y ys.length cy, .agg #[.int .u8 y0, .int .u8 y1, .int .u8 y2]].toArray w (K.Gives (.bool true) w) := by
  refine K.enter (args := [.agg #[.int .i64 st, .slice A ps.length c], .slice Y ys.length cy, .agg #[.int .u8 y0, .int .u8 y1, .int .u8 y2]]) Try.func3 rfl (n := 202) rfl ?_
  simp only [List.replicate, List.cons_append, List.nil_append]
  refine K.seq ?_
  refine K.region_lit ?_
  refine K.seq_new (K.box) rfl ?_
  intro b3
  try dsimp only [setd, setn, ev, nth, over, cl, eI, eP, eT, eC, List.map, List.append, List.drop, List.take]
  refine K.seq_new (K.box) rfl ?_
  intro b5
  try dsimp only [setd, setn, ev, nth, over, cl, eI, eP, eT, eC, List.map, List.append, List.drop, List.take]
  refine K.seq_pure (K.assign) rfl ?_
  dsimp only [setd, setn, ev, nth]
  refine K.seq_nil ?_
  refine K.norm_then ?_
  refine K.seq ?_
  refine K.region_lit ?_
  refine K.seq_sil (K.loadA_own ag_24 rfl (K.m1) rfl) rfl ?_
  try dsimp only [setd, setn, ev, nth, over, cl, eI, eP, eT, eC, List.map, List.append, List.drop, List.take]
  refine K.seq_call (K.call_g cal_4 (fun F w hF hw => c4 (hR.pass hw) hn)) rfl ?_
  try dsimp only [setd, setn, ev, nth, over, cl, eI, eP, eT, eC, List.map, List.append, List.drop, List.take]
  refine K.seq_pure (K.move) rfl ?_
  dsimp only [setd, setn, ev, nth]
  refine K.seq_pure (K.extract rfl rfl) rfl ?_
  dsimp only [setd, setn, ev, nth]
  refine K.seq_pure (K.extract rfl rfl) rfl ?_
  dsimp only [setd, setn, ev, nth]
  refine K.seq_pure (K.extract rfl rfl) rfl ?_
  dsimp only [setd, setn, ev, nth]
  refine K.seq_pure (K.assign) rfl ?_
  dsimp only [setd, setn, ev, nth]
  refine K.seq_pure (K.assign) rfl ?_
  dsimp only [setd, setn, ev, nth]
  refine K.seq_pure (K.assign) rfl ?_
  dsimp only [setd, setn, ev, nth]
  refine K.seq_nil ?_
  refine K.norm_then ?_
  refine K.seq ?_
  refine K.seq ?_
  refine K.region_lit ?_
  refine K.seq_pure (K.move) rfl ?_
  dsimp only [setd, setn, ev, nth]
  refine K.seq_pure (K.neq rfl rfl) rfl ?_
  dsimp only [setd, setn, ev, nth]
  refine K.seq_pure (K.move) rfl ?_
  dsimp only [setd, setn, ev, nth]
  refine K.split 36 rfl (fun hg36 => ?_) (fun hg36 => ?_)
  · try replace hg36 := of_decide_eq_true hg36
    refine K.seq_skip ?_ ?_
    · rfl
    try dsimp only [setd, setn, ev, nth, over, cl, eI, eP, eT, eC, List.map, List.append, List.drop, List.take]
    refine K.seq_skip ?_ ?_
    · rfl
    try dsimp only [setd, setn, ev, nth, over, cl, eI, eP, eT, eC, List.map, List.append, List.drop, List.take]
    refine K.seq_skip ?_ ?_
    · rfl
    try dsimp only [setd, setn, ev, nth, over, cl, eI, eP, eT, eC, List.map, List.append, List.drop, List.take]
    refine K.seq_skip ?_ ?_
    · rfl
    try dsimp only [setd, setn, ev, nth, over, cl, eI, eP, eT, eC, List.map, List.append, List.drop, List.take]
    refine K.seq_pure (K.pick_t rfl) rfl ?_
    dsimp only [setd, setn, ev, nth]
    refine K.seq_nil ?_
    refine K.norm_then ?_
    refine K.cond_true rfl ?_
    refine K.seq ?_
    refine K.region_lit ?_
    refine K.seq_call (K.call_g cal_5 (fun F w hF hw => c5 w)) rfl ?_
    try dsimp only [setd, setn, ev, nth, over, cl, eI, eP, eT, eC, List.map, List.append, List.drop, List.take]
    refine K.seq_pure (K.move) rfl ?_
    dsimp only [setd, setn, ev, nth]
    refine K.seq_call (K.call_g cal_6 (fun F w hF hw => Sc.c26 w)) rfl ?_
    try dsimp only [setd, setn, ev, nth, over, cl, eI, eP, eT, eC, List.map, List.append, List.drop, List.take]
    refine K.seq_pure (K.pick_t rfl) rfl ?_
    dsimp only [setd, setn, ev, nth]
    refine K.seq_pure (K.assign) rfl ?_
    dsimp only [setd, setn, ev, nth]
    refine K.seq_nil ?_
    refine K.norm_then ?_
    refine K.ret ?_
    refine K.ret_then ?_
    refine K.end_ret (fun w _ => K.res_tmp rfl w) ?_
    exact K.gives rfl
  try replace hg36 := of_decide_eq_false hg36
  refine K.seq_pure (K.fieldAddr_lit fo_24_1 rfl) rfl ?_
  dsimp only [setd, setn, ev, nth]
  refine K.seq_sil (K.load1_own one_22 rfl (K.m1) rfl) rfl ?_
  try dsimp only [setd, setn, ev, nth, over, cl, eI, eP, eT, eC, List.map, List.append, List.drop, List.take]
  refine K.seq_pure (K.len_sl sl_22 rfl) rfl ?_
  dsimp only [setd, setn, ev, nth]
  refine K.seq_pure (K.Pure.eq (K.gtr rfl rfl) (show _ = Value.bool true from congrArg Value.bool (decide_eq_true (by omega)))) rfl ?_
  dsimp only [setd, setn, ev, nth]
  refine K.seq_pure (K.pick_f rfl) rfl ?_
  dsimp only [setd, setn, ev, nth]
  refine K.seq_nil ?_
  refine K.norm_then ?_
  refine K.cond_true rfl ?_
  refine K.seq ?_
  refine K.region_lit ?_
  refine K.seq_call (K.call_g cal_5 (fun F w hF hw => c5 w)) rfl ?_
  try dsimp only [setd, setn, ev, nth, over, cl, eI, eP, eT, eC, List.map, List.append, List.drop, List.take]
  refine K.seq_pure (K.move) rfl ?_
  dsimp only [setd, setn, ev, nth]
  refine K.seq_call (K.call_g cal_6 (fun F w hF hw => Sc.c26 w)) rfl ?_
  try dsimp only [setd, setn, ev, nth, over, cl, eI, eP, eT, eC, List.map, List.append, List.drop, List.take]
  refine K.seq_pure (K.pick_t rfl) rfl ?_
  dsimp only [setd, setn, ev, nth]
  refine K.seq_pure (K.assign) rfl ?_
  dsimp only [setd, setn, ev, nth]
  refine K.seq_nil ?_
  refine K.norm_then ?_
  refine K.ret ?_
  refine K.ret_then ?_
  refine K.end_ret (fun w _ => K.res_tmp rfl w) ?_
  exact K.gives rfl

set_option maxRecDepth 100000 in
set_option maxHeartbeats 4000000 in
theorem g3 {st : Int} {ps : List CvT} {ys : List Int} {y0 y1 y2 : Int} {A Y : Option Addr} {c cy : Nat} {w : World} (hR : K.Rd w A 3 eC ps) (hn : ps.length ≤ 4611686018427387904) (hY : K.Rd w Y 1 eY ys) (hyb : ∀ x ∈ ys, 0 ≤ x ∧ x ≤ 255) (hyl : ys.length ≤ 140737488351232) (hy0 : 0 ≤ y0 ∧ y0 ≤ 255) (hy1 : 0 ≤ y1 ∧ y1 ≤ 255) (hy2 : 0 ≤ y2 ∧ y2 ≤ 255) (hc : (chk st ps).2.2 = 0) (h8 : ps.length ≤ 8) :
    Calls Try.prog 3 [.agg #[.int .i64 st, .slice A ps.length c], .slice Y ys.length cy, .agg #[.int .u8 y0, .int .u8 y1, .int .u8 y2]].toArray w (K.Gives (.bool true) w) := by
  have g : Good st ps := chk_good hc
  have hgn := g.n
  have hgs := g.s
  have hm0 := Int.emod_nonneg y2 (show (3 : Int) ≠ 0 by decide)
  have hm1 := Int.emod_lt_of_pos y2 (show (0 : Int) < 3 by decide)
  have hkd : 1 ≤ (1 + y2 % 3) ∧ (1 + y2 % 3) ≤ 3 := by omega
  have hSl : (anyS st ps ys ps.length).length = ps.length := anyS_len
  have hSb := anyS_bd g hyb ps.length (Nat.le_refl _)
  refine K.enter (args := [.agg #[.int .i64 st, .slice A ps.length c], .slice Y ys.length cy, .agg #[.int .u8 y0, .int .u8 y1, .int .u8 y2]]) Try.func3 rfl (n := 202) rfl ?_
  simp only [List.replicate, List.cons_append, List.nil_append]
  refine K.seq ?_
  refine K.region_lit ?_
  refine K.seq_new (K.box) rfl ?_
  intro b3
  try dsimp only [setd, setn, ev, nth, over, cl, eI, eP, eT, eC, List.map, List.append, List.drop, List.take]
  refine K.seq_new (K.box) rfl ?_
  intro b5
  try dsimp only [setd, setn, ev, nth, over, cl, eI, eP, eT, eC, List.map, List.append, List.drop, List.take]
  refine K.seq_pure (K.assign) rfl ?_
  dsimp only [setd, setn, ev, nth]
  refine K.seq_nil ?_
  refine K.norm_then ?_
  refine K.seq ?_
  refine K.region_lit ?_
  refine K.seq_sil (K.loadA_own ag_24 rfl (K.m1) rfl) rfl ?_
  try dsimp only [setd, setn, ev, nth, over, cl, eI, eP, eT, eC, List.map, List.append, List.drop, List.take]
  refine K.seq_call (K.call_g cal_4 (fun F w hF hw => c4 (hR.pass hw) hn)) rfl ?_
  try dsimp only [setd, setn, ev, nth, over, cl, eI, eP, eT, eC, List.map, List.append, List.drop, List.take]
  refine K.seq_pure (K.move) rfl ?_
  dsimp only [setd, setn, ev, nth]
  refine K.seq_pure (K.extract rfl rfl) rfl ?_
  dsimp only [setd, setn, ev, nth]
  refine K.seq_pure (K.extract rfl rfl) rfl ?_
  dsimp only [setd, setn, ev, nth]
  refine K.seq_pure (K.extract rfl rfl) rfl ?_
  dsimp only [setd, setn, ev, nth]
  refine K.seq_pure (K.assign) rfl ?_
  dsimp only [setd, setn, ev, nth]
  refine K.seq_pure (K.assign) rfl ?_
  dsimp only [setd, setn, ev, nth]
  refine K.seq_pure (K.assign) rfl ?_
  dsimp only [setd, setn, ev, nth]
  refine K.seq_nil ?_
  refine K.norm_then ?_
  refine K.seq ?_
  refine K.seq ?_
  refine K.region_lit ?_
  refine K.seq_pure (K.move) rfl ?_
  dsimp only [setd, setn, ev, nth]
  refine K.seq_pure (K.Pure.eq (K.neq rfl rfl) (show _ = Value.bool false from congrArg Value.bool (decide_eq_false (by omega)))) rfl ?_
  dsimp only [setd, setn, ev, nth]
  refine K.seq_pure (K.move) rfl ?_
  dsimp only [setd, setn, ev, nth]
  refine K.seq_pure (K.fieldAddr_lit fo_24_1 rfl) rfl ?_
  dsimp only [setd, setn, ev, nth]
  refine K.seq_sil (K.load1_own one_22 rfl (K.m1) rfl) rfl ?_
  try dsimp only [setd, setn, ev, nth, over, cl, eI, eP, eT, eC, List.map, List.append, List.drop, List.take]
  refine K.seq_pure (K.len_sl sl_22 rfl) rfl ?_
  dsimp only [setd, setn, ev, nth]
  refine K.seq_pure (K.Pure.eq (K.gtr rfl rfl) (show _ = Value.bool false from congrArg Value.bool (decide_eq_false (by omega)))) rfl ?_
  dsimp only [setd, setn, ev, nth]
  refine K.seq_pure (K.pick_f rfl) rfl ?_
  dsimp only [setd, setn, ev, nth]
  refine K.seq_nil ?_
  refine K.norm_then ?_
  refine K.cond_false rfl ?_
  refine K.skip ?_
  refine K.norm_then ?_
  refine K.seq ?_
  refine K.region_lit ?_
  refine K.seq_sil (K.loadA_own ag_24 rfl (K.m1) rfl) rfl ?_
  try dsimp only [setd, setn, ev, nth, over, cl, eI, eP, eT, eC, List.map, List.append, List.drop, List.take]
  refine K.seq_pure (K.move) rfl ?_
  dsimp only [setd, setn, ev, nth]
  refine K.seq_loud (K.call_f cal_7 (fun F w hF hw => c7 (hR.pass hw) g (hY.pass hw) hyb hyl)) rfl ?_
  rintro ⟨Q1, q1⟩ hq1
  try dsimp only [setd, setn, ev, nth, over, cl, eI, eP, eT, eC, List.map, List.append, List.drop, List.take]
  refine K.seq_pure (K.assign) rfl ?_
  dsimp only [setd, setn, ev, nth]
  refine K.seq_nil ?_
  refine K.norm_then ?_
  refine K.seq ?_
  refine K.use_rowc K.m0 (fun hA1 hc1 => ?_)
  refine K.region_lit ?_
  refine K.seq_sil (K.loadA_own ag_24 rfl (K.m2) rfl) rfl ?_
  try dsimp only [setd, setn, ev, nth, over, cl, eI, eP, eT, eC, List.map, List.append, List.drop, List.take]
  refine K.seq_pure (K.move) rfl ?_
  dsimp only [setd, setn, ev, nth]
  refine K.seq_call (K.call_g cal_8 (fun F w hF hw => c8 (hR.pass hw) (K.Rd.own (e := K.eI) (xs := (anyS st ps ys ps.length)) hw (hF _ (K.m0)) hq1 (fun _ => rfl) (by decide)) g hSl hSb hc1)) rfl ?_
  try dsimp only [setd, setn, ev, nth, over, cl, eI, eP, eT, eC, List.map, List.append, List.drop, List.take]
  refine K.seq_pure (K.move) rfl ?_
  dsimp only [setd, setn, ev, nth]
  refine K.seq_pure (K.extract rfl rfl) rfl ?_
  dsimp only [setd, setn, ev, nth]
  refine K.seq_pure (K.extract rfl rfl) rfl ?_
  dsimp only [setd, setn, ev, nth]
  refine K.seq_pure (K.assign) rfl ?_
  dsimp only [setd, setn, ev, nth]
  refine K.seq_pure (K.assign) rfl ?_
  dsimp only [setd, setn, ev, nth]
  refine K.seq_nil ?_
  refine K.norm_then ?_
  refine K.seq ?_
  refine K.seq ?_
  refine K.region_lit ?_
  refine K.seq_pure (K.move) rfl ?_
  dsimp only [setd, setn, ev, nth]
  refine K.seq_pure (K.neq rfl rfl) rfl ?_
  dsimp only [setd, setn, ev, nth]
  refine K.seq_nil ?_
  refine K.norm_then ?_
  refine K.cond rfl (fun ht56 => ?_) (fun ht56 => ?_)
  · try replace ht56 := of_decide_eq_true ht56
    refine K.seq ?_
    refine K.region_lit ?_
    refine K.seq_call (K.call_g cal_5 (fun F w hF hw => c5 w)) rfl ?_
    try dsimp only [setd, setn, ev, nth, over, cl, eI, eP, eT, eC, List.map, List.append, List.drop, List.take]
    refine K.seq_pure (K.move) rfl ?_
    dsimp only [setd, setn, ev, nth]
    refine K.seq_call (K.call_g cal_6 (fun F w hF hw => Sc.c26 w)) rfl ?_
    try dsimp only [setd, setn, ev, nth, over, cl, eI, eP, eT, eC, List.map, List.append, List.drop, List.take]
    refine K.seq_pure (K.pick_t rfl) rfl ?_
    dsimp only [setd, setn, ev, nth]
    refine K.seq_pure (K.assign) rfl ?_
    dsimp only [setd, setn, ev, nth]
    refine K.seq_nil ?_
    refine K.norm_then ?_
    refine K.ret ?_
    refine K.ret_then ?_
    refine K.end_ret (fun w _ => K.res_tmp rfl w) ?_
    exact K.gives rfl
  try replace ht56 := of_decide_eq_false ht56
  refine K.skip ?_
  refine K.norm_then ?_
  refine K.seq ?_
  have hs : Surf st ps (anyS st ps ys ps.length) := surf_of hSl (by omega)
  have hgc := surf_case g h8 hs hkd
  refine K.region_lit ?_
  refine K.seq_pure (K.indexAddr_ar ar_26 rfl rfl (by omega) (by omega)) rfl ?_
  try dsimp only [setd, setn, ev, nth, over, cl, eI, eP, eT, eC, List.map, List.append, List.drop, List.take]
  refine K.seq_sil (K.load1_own one_5 rfl (K.m1) rfl) rfl ?_
  try dsimp only [setd, setn, ev, nth, over, cl, eI, eP, eT, eC, List.map, List.append, List.drop, List.take]
  refine K.seq_pure (K.indexAddr_ar ar_26 rfl rfl (by omega) (by omega)) rfl ?_
  try dsimp only [setd, setn, ev, nth, over, cl, eI, eP, eT, eC, List.map, List.append, List.drop, List.take]
  refine K.seq_sil (K.load1_own one_5 rfl (K.m1) rfl) rfl ?_
  try dsimp only [setd, setn, ev, nth, over, cl, eI, eP, eT, eC, List.map, List.append, List.drop, List.take]
  refine K.seq_pure (K.build (bl38 _ _)) rfl ?_
  try dsimp only [setd, setn, ev, nth, over, cl, eI, eP, eT, eC, List.map, List.append, List.drop, List.take]
  refine K.seq_loud (K.call_f cal_9 (fun F w hF hw => Sc.c40 hy0 hy1 w)) rfl ?_
  rintro ⟨u, v⟩ huv
  try dsimp only [setd, setn, ev, nth, over, cl, eI, eP, eT, eC, List.map, List.append, List.drop, List.take]
  refine K.seq_new (K.alloc zr_36) rfl ?_
  intro b13
  try dsimp only [setd, setn, ev, nth, over, cl, eI, eP, eT, eC, List.map, List.append, List.drop, List.take]
  refine K.seq_st (K.store_all sz_36 rfl rfl rfl rfl (K.rp0)) rfl ?_
  try dsimp only [setd, setn, ev, nth, over, cl, eI, eP, eT, eC, List.map, List.append, List.drop, List.take]
  refine K.seq_nil ?_
  refine K.norm_then ?_
  refine K.seq ?_
  refine K.region_lit ?_
  refine K.seq_pure (K.indexAddr_ar ar_26 rfl rfl (by omega) (by omega)) rfl ?_
  try dsimp only [setd, setn, ev, nth, over, cl, eI, eP, eT, eC, List.map, List.append, List.drop, List.take]
  refine K.seq_sil (K.load1_own one_5 rfl (K.m2) rfl) rfl ?_
  try dsimp only [setd, setn, ev, nth, over, cl, eI, eP, eT, eC, List.map, List.append, List.drop, List.take]
  refine K.seq_pure (K.Pure.eq (K.conv_int ik_5 ik_3 rfl) (show _ = Value.int .i64 y2 from by rw [IntWalk.i64_in _ (by omega)])) rfl ?_
  try dsimp only [setd, setn, ev, nth, over, cl, eI, eP, eT, eC, List.map, List.append, List.drop, List.take]
  refine K.seq_pure (K.rem_i64 rfl rfl (by omega) (by omega)) rfl ?_
  dsimp only [setd, setn, ev, nth]
  refine K.seq_pure (K.add_i64 rfl rfl (by omega)) rfl ?_
  dsimp only [setd, setn, ev, nth]
  refine K.seq_pure (K.move) rfl ?_
  dsimp only [setd, setn, ev, nth]
  refine K.seq_pure (K.build (bl41 _ _ _ _)) rfl ?_
  try dsimp only [setd, setn, ev, nth, over, cl, eI, eP, eT, eC, List.map, List.append, List.drop, List.take]
  refine K.seq_new (K.alloc zr_41) rfl ?_
  intro b14
  try dsimp only [setd, setn, ev, nth, over, cl, eI, eP, eT, eC, List.map, List.append, List.drop, List.take]
  refine K.seq_st (K.store_all sz_41 rfl rfl rfl rfl (K.rp0)) rfl ?_
  try dsimp only [setd, setn, ev, nth, over, cl, eI, eP, eT, eC, List.map, List.append, List.drop, List.take]
  refine K.seq_nil ?_
  refine K.norm_then ?_
  refine K.seq ?_
  refine K.region_lit ?_
  refine K.seq_sil (K.loadA_own ag_41 rfl (K.m0) rfl) rfl ?_
  try dsimp only [setd, setn, ev, nth, over, cl, eI, eP, eT, eC, List.map, List.append, List.drop, List.take]
  refine K.seq_sil (K.loadA_own ag_36 rfl (K.m1) rfl) rfl ?_
  try dsimp only [setd, setn, ev, nth, over, cl, eI, eP, eT, eC, List.map, List.append, List.drop, List.take]
  refine K.seq_loud (K.call_f cal_10 (fun F w hF hw => (by have hX := (K.Rd.own (e := K.eI) (xs := (anyS st ps ys ps.length)) hw (hF _ (K.m2)) hq1 (fun _ => rfl) (by decide)); have hg := Sc.c17 (kind := (1 + y2 % 3)) (base := 0) (most := 100000) (B := none) (d := 0) (rs := []) (c := q1) (u := u) (v := v) hX K.Rd.nil (by omega) (Nat.zero_le _); rw [show Sc.cutsR (1 + y2 % 3) 0 100000 (anyS st ps ys ps.length) [] u v = (Sc.cuts (1 + y2 % 3) 0 u v (anyS st ps ys ps.length)) from by unfold Sc.cutsR; rw [Sc.askE_good hgc, if_pos huv], Sc.askE_good hgc, huv] at hg; exact hg))) rfl ?_
  rintro ⟨Q4, q4⟩ hq4
  try dsimp only [setd, setn, ev, nth, over, cl, eI, eP, eT, eC, List.map, List.append, List.drop, List.take]
  refine K.seq_pure (K.move) rfl ?_
  dsimp only [setd, setn, ev, nth]
  refine K.seq_pure (K.extract rfl rfl) rfl ?_
  dsimp only [setd, setn, ev, nth]
  refine K.seq_pure (K.extract rfl rfl) rfl ?_
  dsimp only [setd, setn, ev, nth]
  refine K.seq_pure (K.assign) rfl ?_
  dsimp only [setd, setn, ev, nth]
  refine K.seq_pure (K.assign) rfl ?_
  dsimp only [setd, setn, ev, nth]
  refine K.seq_nil ?_
  refine K.norm_then ?_
  refine K.seq ?_
  refine K.seq ?_
  have hcl : (Sc.cuts (1 + y2 % 3) 0 u v (anyS st ps ys ps.length)).length = (anyS st ps ys ps.length).length := Sc.cuts_len
  have hp : Sc.Parts u v := Sc.scE_parts huv
  have hmu := Sc.mul_bd hgs.1 hgs.2 (show 0 ≤ u by have := hp.1; omega) hp.2.1
  have hp1 := hp.1
  have hp2 := hp.2.1
  have hp3 := hp.2.2.1
  have hp4 := hp.2.2.2
  refine K.region_lit ?_
  refine K.seq_pure (K.move) rfl ?_
  dsimp only [setd, setn, ev, nth]
  refine K.seq_pure (K.Pure.eq (K.neq rfl rfl) (show _ = Value.bool false from congrArg Value.bool (decide_eq_false (fun h => h rfl)))) rfl ?_
  dsimp only [setd, setn, ev, nth]
  refine K.seq_pure (K.move) rfl ?_
  dsimp only [setd, setn, ev, nth]
  refine K.seq_pure (K.move) rfl ?_
  dsimp only [setd, setn, ev, nth]
  refine K.seq_pure (K.len_sl sl_31 rfl) rfl ?_
  dsimp only [setd, setn, ev, nth]
  refine K.seq_pure (K.move) rfl ?_
  dsimp only [setd, setn, ev, nth]
  refine K.seq_pure (K.len_sl sl_31 rfl) rfl ?_
  dsimp only [setd, setn, ev, nth]
  refine K.seq_pure (K.Pure.eq (K.neq rfl rfl) (show _ = Value.bool false from congrArg Value.bool (decide_eq_false (by omega)))) rfl ?_
  dsimp only [setd, setn, ev, nth]
  refine K.seq_pure (K.pick_f rfl) rfl ?_
  dsimp only [setd, setn, ev, nth]
  refine K.seq_nil ?_
  refine K.norm_then ?_
  refine K.cond_false rfl ?_
  refine K.skip ?_
  refine K.norm_then ?_
  refine K.seq ?_
  refine K.region_lit ?_
  refine K.seq_pure (K.fieldAddr_lit fo_24_0 rfl) rfl ?_
  dsimp only [setd, setn, ev, nth]
  refine K.seq_sil (K.load1_own one_3 rfl (K.m5) rfl) rfl ?_
  try dsimp only [setd, setn, ev, nth, over, cl, eI, eP, eT, eC, List.map, List.append, List.drop, List.take]
  refine K.seq_pure (K.fieldAddr_lit fo_36_0 rfl) rfl ?_
  dsimp only [setd, setn, ev, nth]
  refine K.seq_sil (K.load1_own one_3 rfl (K.m2) rfl) rfl ?_
  try dsimp only [setd, setn, ev, nth, over, cl, eI, eP, eT, eC, List.map, List.append, List.drop, List.take]
  refine K.seq_pure (K.mul_i64 rfl rfl (by omega)) rfl ?_
  dsimp only [setd, setn, ev, nth]
  refine K.seq_pure (K.fieldAddr_lit fo_36_1 rfl) rfl ?_
  dsimp only [setd, setn, ev, nth]
  refine K.seq_sil (K.load1_own one_3 rfl (K.m2) rfl) rfl ?_
  try dsimp only [setd, setn, ev, nth, over, cl, eI, eP, eT, eC, List.map, List.append, List.drop, List.take]
  refine K.seq_pure (K.add_i64 rfl rfl (by omega)) rfl ?_
  dsimp only [setd, setn, ev, nth]
  refine K.seq_pure (K.sub_i64 rfl rfl (by omega)) rfl ?_
  dsimp only [setd, setn, ev, nth]
  refine K.seq_pure (K.fieldAddr_lit fo_36_1 rfl) rfl ?_
  dsimp only [setd, setn, ev, nth]
  refine K.seq_sil (K.load1_own one_3 rfl (K.m2) rfl) rfl ?_
  try dsimp only [setd, setn, ev, nth, over, cl, eI, eP, eT, eC, List.map, List.append, List.drop, List.take]
  refine K.seq_pure (K.quo_i64 rfl rfl (by omega) (by omega) (by omega)) rfl ?_
  dsimp only [setd, setn, ev, nth]
  refine K.seq_pure (K.build (bl24z _)) rfl ?_
  try dsimp only [setd, setn, ev, nth, over, cl, eI, eP, eT, eC, List.map, List.append, List.drop, List.take]
  refine K.seq_new (K.alloc zr_24) rfl ?_
  intro b16
  try dsimp only [setd, setn, ev, nth, over, cl, eI, eP, eT, eC, List.map, List.append, List.drop, List.take]
  refine K.seq_st (K.store_all sz_24 rfl rfl rfl rfl (K.rp0)) rfl ?_
  try dsimp only [setd, setn, ev, nth, over, cl, eI, eP, eT, eC, List.map, List.append, List.drop, List.take]
  refine K.seq_nil ?_
  refine K.norm_then ?_
  refine K.seq ?_
  refine K.seq ?_
  refine K.region_lit ?_
  refine K.nil_row (e := 45) (size := 3) ?_
  refine K.seq_pure (K.assign) rfl ?_
  dsimp only [setd, setn, ev, nth]
  refine K.seq_nil ?_
  refine K.norm_then ?_
  refine K.block ?_
  refine K.loopW [17] [18, 102, 103, 104, 105, 106, 107, 108, 109, 110, 111, 112, 113, 114, 115, 116, 117, 118, 119, 120, 121, 122, 123, 124, 125, 126, 127, 128, 129, 130, 131] (fun vi L => ∃ (k : Nat) (Q : Option Addr) (q : Nat), vi = [.int .i64 (k : Int)] ∧ L = [K.row (.slice Q k q) 45 3 k ((cutK (1 + y2 % 3) u v ps k).flatMap eC), K.blk b16 24 [.int .i64 ((st * u + v - 1) / v), .slice Q k q], K.row (.slice Q4 (Sc.cuts (1 + y2 % 3) 0 u v (anyS st ps ys ps.length)).length q4) 3 1 (Sc.cuts (1 + y2 % 3) 0 u v (anyS st ps ys ps.length)).length ((Sc.cuts (1 + y2 % 3) 0 u v (anyS st ps ys ps.length)).flatMap K.eI), K.blk b14 41 [.int .i64 (1 + y2 % 3), .int .i64 0, .int .i64 100000, .slice Q1 (anyS st ps ys ps.length).length q1, .slice none 0 0], K.blk b13 36 [.int .i64 u, .int .i64 v], K.row (.slice Q1 (anyS st ps ys ps.length).length q1) 3 1 (anyS st ps ys ps.length).length ((anyS st ps ys ps.length).flatMap K.eI), K.blk b5 26 [.int .u8 y0, .int .u8 y1, .int .u8 y2], K.blk b3 24 [.int .i64 st, .slice A ps.length c]] ∧ k ≤ ps.length) (fun vi => ps.length - (intOf (K.nth vi 0)).toNat) ?_ ?_
  · exact ⟨0, none, 0, rfl, rfl, Nat.zero_le _⟩
  intro vi vr L hJ
  obtain ⟨k, Q, q, rfl, rfl, hkn⟩ := hJ
  try dsimp only [setd, setn, ev, nth, over, cl, eI, eP, eT, eC, setM, setF, List.map, List.append, List.drop, List.take]
  refine K.seq ?_
  refine K.seq ?_
  refine K.region_lit ?_
  refine K.seq_pure (K.move) rfl ?_
  dsimp only [setd, setn, ev, nth]
  refine K.seq_pure (K.fieldAddr_lit fo_24_1 rfl) rfl ?_
  dsimp only [setd, setn, ev, nth]
  refine K.seq_sil (K.load1_own one_22 rfl (K.m7) rfl) rfl ?_
  try dsimp only [setd, setn, ev, nth, over, cl, eI, eP, eT, eC, List.map, List.append, List.drop, List.take]
  refine K.seq_pure (K.len_sl sl_22 rfl) rfl ?_
  dsimp only [setd, setn, ev, nth]
  refine K.seq_pure (K.lss rfl rfl) rfl ?_
  dsimp only [setd, setn, ev, nth]
  refine K.seq_nil ?_
  refine K.norm_then ?_
  refine K.cond rfl (fun ht106 => ?_) (fun ht106 => ?_)
  · try replace ht106 := of_decide_eq_true ht106
    have hk : k < ps.length := by omega
    have hpk := g.p k hk
    refine K.skip ?_
    refine K.norm_then ?_
    refine K.seq ?_
    refine K.block ?_
    refine K.seq ?_
    refine K.region_lit ?_
    refine K.seq_pure (K.fieldAddr_lit fo_24_1 rfl) rfl ?_
    dsimp only [setd, setn, ev, nth]
    refine K.seq_sil (K.load1_own one_22 rfl (K.m7) rfl) rfl ?_
    try dsimp only [setd, setn, ev, nth, over, cl, eI, eP, eT, eC, List.map, List.append, List.drop, List.take]
    refine K.seq_pure (K.move) rfl ?_
    dsimp only [setd, setn, ev, nth]
    refine K.seq_ix (M := []) _ hR.sl sl_22 rfl rfl rfl (by omega) rfl ?_
    intro p112 hp112
    try dsimp only [setd, setn, ev, nth, over, cl, eI, eP, eT, eC, List.map, List.append, List.drop, List.take]
    refine K.seq_sil (K.loadA_p ag_45 rfl (hp112.any) rfl) rfl ?_
    try dsimp only [setd, setn, ev, nth, over, cl, eI, eP, eT, eC, List.map, List.append, List.drop, List.take]
    refine K.seq_new (K.alloc zr_45) rfl ?_
    intro b18
    try dsimp only [setd, setn, ev, nth, over, cl, eI, eP, eT, eC, List.map, List.append, List.drop, List.take]
    refine K.seq_st (K.store_all sz_45 rfl rfl rfl rfl (K.rp0)) rfl ?_
    try dsimp only [setd, setn, ev, nth, over, cl, eI, eP, eT, eC, List.map, List.append, List.drop, List.take]
    refine K.seq_nil ?_
    refine K.norm_then ?_
    refine K.permH (L' := [_, _, _, _, _, _, _, _, _]) (List.Perm.trans (List.perm_middle (l₁ := [_])) (List.Perm.cons _ (List.Perm.refl _))) ?_
    refine K.draw_drop 1 [18] Try_mixed ?_
    refine K.d_pure 0 rfl (K.fieldAddr_lit fo_24_1 rfl) (by kernel_rfl) rfl ?_
    dsimp only [setd, setn, ev, nth]
    refine K.d_mem 1 rfl (K.load1_own one_22 rfl (K.m1) rfl) (fun _ h => K.tl h) (by kernel_rfl) (by kernel_rfl) rfl ?_
    try dsimp only [setd, setn, ev, nth, over, cl, eI, eP, eT, eC, List.map, List.append, List.drop, List.take]
    refine K.d_pure 2 rfl (K.fieldAddr_lit fo_41_0 rfl) (by kernel_rfl) rfl ?_
    dsimp only [setd, setn, ev, nth]
    refine K.d_mem 3 rfl (K.load1_own one_3 rfl (K.m3) rfl) (fun _ h => K.tl h) (by kernel_rfl) (by kernel_rfl) rfl ?_
    try dsimp only [setd, setn, ev, nth, over, cl, eI, eP, eT, eC, List.map, List.append, List.drop, List.take]
    refine K.d_pure 4 rfl (K.fieldAddr_lit fo_45_1 rfl) (by kernel_rfl) rfl ?_
    dsimp only [setd, setn, ev, nth]
    refine K.d_mem 5 rfl (K.load1_own one_3 rfl (K.m0) rfl) (fun _ h => K.tl h) (by kernel_rfl) (by kernel_rfl) rfl ?_
    try dsimp only [setd, setn, ev, nth, over, cl, eI, eP, eT, eC, List.map, List.append, List.drop, List.take]
    refine K.d_mem 6 rfl (K.loadA_own ag_36 rfl (K.m4) rfl) (fun _ h => K.tl h) (by kernel_rfl) (by kernel_rfl) rfl ?_
    try dsimp only [setd, setn, ev, nth, over, cl, eI, eP, eT, eC, List.map, List.append, List.drop, List.take]
    refine K.d_pure 8 rfl (K.fieldAddr_lit fo_41_0 rfl) (by kernel_rfl) rfl ?_
    dsimp only [setd, setn, ev, nth]
    refine K.d_mem 9 rfl (K.load1_own one_3 rfl (K.m3) rfl) (fun _ h => K.tl h) (by kernel_rfl) (by kernel_rfl) rfl ?_
    try dsimp only [setd, setn, ev, nth, over, cl, eI, eP, eT, eC, List.map, List.append, List.drop, List.take]
    refine K.d_pure 10 rfl (K.fieldAddr_lit fo_45_2 rfl) (by kernel_rfl) rfl ?_
    dsimp only [setd, setn, ev, nth]
    refine K.d_mem 11 rfl (K.load1_own one_3 rfl (K.m0) rfl) (fun _ h => K.tl h) (by kernel_rfl) (by kernel_rfl) rfl ?_
    try dsimp only [setd, setn, ev, nth, over, cl, eI, eP, eT, eC, List.map, List.append, List.drop, List.take]
    refine K.d_mem 12 rfl (K.loadA_own ag_36 rfl (K.m4) rfl) (fun _ h => K.tl h) (by kernel_rfl) (by kernel_rfl) rfl ?_
    try dsimp only [setd, setn, ev, nth, over, cl, eI, eP, eT, eC, List.map, List.append, List.drop, List.take]
    refine K.d_call 7 rfl (K.call_g cal_11 (fun F w hF hw => Sc.c82 (by omega) (by omega) hp.1 hp.2.1 hp.2.2.1 hp.2.2.2 w)) (fun _ h => K.tl h) (by kernel_rfl) rfl ?_
    try dsimp only [setd, setn, ev, nth, over, cl, eI, eP, eT, eC, List.map, List.append, List.drop, List.take]
    refine K.d_call 13 rfl (K.call_g cal_11 (fun F w hF hw => Sc.c82 (by omega) (by omega) hp.1 hp.2.1 hp.2.2.1 hp.2.2.2 w)) (fun _ h => K.tl h) (by kernel_rfl) rfl ?_
    try dsimp only [setd, setn, ev, nth, over, cl, eI, eP, eT, eC, List.map, List.append, List.drop, List.take]
    refine K.d_pure 14 rfl (K.build (bl45b _ _)) (by kernel_rfl) rfl ?_
    try dsimp only [setd, setn, ev, nth, over, cl, eI, eP, eT, eC, List.map, List.append, List.drop, List.take]
    refine K.d_new 15 rfl (K.buildSlice (bs22_1 _ _ _)) (fun _ h => K.tl h) (by kernel_rfl) rfl ?_
    intro b129
    try dsimp only [setd, setn, ev, nth, over, cl, eI, eP, eT, eC, List.map, List.append, List.drop, List.take]
    refine K.d_upd 16 rfl (K.append el_22 rfl rfl (K.PtrL.own' (K.m0)) rfl rfl (by decide) (by omega) (by omega) (fun _ _ => K.rp1)) (fun _ => fun _ h => K.tl (K.tl h)) (by kernel_rfl) rfl ?_
    rintro ⟨g130, c130⟩ _
    try dsimp only [setd, setn, ev, nth, over, cl, eI, eP, eT, eC, List.map, List.append, List.drop, List.take]
    refine K.d_pure 17 rfl (K.fieldAddr_lit fo_24_1 rfl) (by kernel_rfl) rfl ?_
    dsimp only [setd, setn, ev, nth]
    refine K.d_last 18 rfl (K.store sz_22 rfl rfl rfl rfl (K.rp3)) rfl (by kernel_rfl) rfl ?_
    intro _ _
    try dsimp only [setd, setn, ev, nth, over, cl, eI, eP, eT, eC, List.map, List.append, List.drop, List.take]
    refine K.d_done (by kernel_rfl) ?_
    refine K.norm_block ?_
    refine K.norm_then ?_
    refine K.region_lit ?_
    refine K.seq_pure (K.move) rfl ?_
    dsimp only [setd, setn, ev, nth]
    refine K.seq_pure (K.add_i64 rfl rfl (by omega)) rfl ?_
    dsimp only [setd, setn, ev, nth]
    refine K.seq_pure (K.assign) rfl ?_
    dsimp only [setd, setn, ev, nth]
    refine K.seq_nil ?_
    refine K.permH (L' := [_, _, _, _, _, _, _, _, _, _]) (List.Perm.trans (List.perm_middle (l₁ := [_])) (List.Perm.cons _ (List.Perm.trans (List.perm_middle (l₁ := [_, _])) (List.Perm.cons _ (List.Perm.trans (List.perm_middle (l₁ := [_, _])) (List.Perm.cons _ (List.Perm.trans (List.perm_middle (l₁ := [_, _])) (List.Perm.cons _ (List.Perm.trans (List.perm_middle (l₁ := [_, _])) (List.Perm.cons _ (List.Perm.trans (List.perm_middle (l₁ := [_, _])) (List.Perm.cons _ (List.Perm.trans (List.perm_middle (l₁ := [_, _])) (List.Perm.cons _ (List.Perm.trans (List.perm_middle (l₁ := [_, _])) (List.Perm.cons _ (List.Perm.refl _))))))))))))))))) ?_
    exact K.round_endW (L'' := [K.row (.slice (some ⟨g130, 0, none⟩) (k + 1) c130) 45 3 (k + 1) ((cutK (1 + y2 % 3) u v ps k).flatMap eC ++ [.int .i64 0, .int .i64 (Sc.cutS (1 + y2 % 3) (ps.getD k default).lo u v), .int .i64 (Sc.cutS (1 + y2 % 3) (ps.getD k default).hi u v)]), K.blk b16 24 [.int .i64 ((st * u + v - 1) / v), .slice (some ⟨g130, 0, none⟩) (k + 1) c130], K.row (.slice Q4 (Sc.cuts (1 + y2 % 3) 0 u v (anyS st ps ys ps.length)).length q4) 3 1 (Sc.cuts (1 + y2 % 3) 0 u v (anyS st ps ys ps.length)).length ((Sc.cuts (1 + y2 % 3) 0 u v (anyS st ps ys ps.length)).flatMap K.eI), K.blk b14 41 [.int .i64 (1 + y2 % 3), .int .i64 0, .int .i64 100000, .slice Q1 (anyS st ps ys ps.length).length q1, .slice none 0 0], K.blk b13 36 [.int .i64 u, .int .i64 v], K.row (.slice Q1 (anyS st ps ys ps.length).length q1) 3 1 (anyS st ps ys ps.length).length ((anyS st ps ys ps.length).flatMap K.eI), K.blk b5 26 [.int .u8 y0, .int .u8 y1, .int .u8 y2], K.blk b3 24 [.int .i64 st, .slice A ps.length c]]) [.int .i64 ((k : Int) + 1)] ⟨k + 1, some ⟨g130, 0, none⟩, c130, rfl, by rw [cutK_s, List.flatMap_append]; rfl, by omega⟩ (by simp [K.nth, intOf]; omega) (List.Sublist.cons_cons _ (List.Sublist.cons_cons _ (List.Sublist.cons_cons _ (List.Sublist.cons_cons _ (List.Sublist.cons_cons _ (List.Sublist.cons_cons _ (List.Sublist.cons_cons _ (List.Sublist.cons_cons _ (List.nil_sublist _))))))))) (by kernel_rfl)
  try replace ht106 := of_decide_eq_false ht106
  have e0 : k = ps.length := by omega
  subst e0
  rw [cutK_all]
  have hrl : (cutR (1 + y2 % 3) u v ps).length = ps.length := cutR_len
  refine K.exit ?_
  refine K.exit_then ?_
  refine K.exit_then ?_
  refine K.exit_here ?_
  refine K.norm_then ?_
  refine K.seq ?_
  refine K.use_row K.m0 (fun hAr => ?_)
  refine K.region_lit ?_
  refine K.seq_sil (K.loadA_own ag_24 rfl (K.m1) rfl) rfl ?_
  try dsimp only [setd, setn, ev, nth, over, cl, eI, eP, eT, eC, List.map, List.append, List.drop, List.take]
  refine K.seq_call (K.call_g cal_4 (fun F w hF hw => (by have hX := K.Rd.own (t := 45) (c := q) (e := eC) (xs := (cutR (1 + y2 % 3) u v ps)) hw (by rw [hrl]; exact (hF _ (K.m0))) (by rw [hrl]; exact hAr) (fun _ => rfl) (by decide); have hg := c4 (st := ((st * u + v - 1) / v)) (c := q) hX (by rw [hrl]; omega); rw [hrl] at hg; exact hg))) rfl ?_
  try dsimp only [setd, setn, ev, nth, over, cl, eI, eP, eT, eC, List.map, List.append, List.drop, List.take]
  refine K.seq_pure (K.move) rfl ?_
  dsimp only [setd, setn, ev, nth]
  refine K.seq_pure (K.extract rfl rfl) rfl ?_
  dsimp only [setd, setn, ev, nth]
  refine K.seq_pure (K.extract rfl rfl) rfl ?_
  dsimp only [setd, setn, ev, nth]
  refine K.seq_pure (K.extract rfl rfl) rfl ?_
  dsimp only [setd, setn, ev, nth]
  refine K.seq_pure (K.assign) rfl ?_
  dsimp only [setd, setn, ev, nth]
  refine K.seq_pure (K.assign) rfl ?_
  dsimp only [setd, setn, ev, nth]
  refine K.seq_pure (K.assign) rfl ?_
  dsimp only [setd, setn, ev, nth]
  refine K.seq_nil ?_
  refine K.norm_then ?_
  refine K.seq ?_
  refine K.seq ?_
  refine K.region_lit ?_
  refine K.seq_pure (K.move) rfl ?_
  dsimp only [setd, setn, ev, nth]
  refine K.seq_pure (K.neq rfl rfl) rfl ?_
  dsimp only [setd, setn, ev, nth]
  refine K.seq_nil ?_
  refine K.norm_then ?_
  refine K.cond rfl (fun ht139 => ?_) (fun ht139 => ?_)
  · try replace ht139 := of_decide_eq_true ht139
    refine K.seq ?_
    refine K.region_lit ?_
    refine K.seq_call (K.call_g cal_5 (fun F w hF hw => c5 w)) rfl ?_
    try dsimp only [setd, setn, ev, nth, over, cl, eI, eP, eT, eC, List.map, List.append, List.drop, List.take]
    refine K.seq_pure (K.move) rfl ?_
    dsimp only [setd, setn, ev, nth]
    refine K.seq_call (K.call_g cal_6 (fun F w hF hw => Sc.c26 w)) rfl ?_
    try dsimp only [setd, setn, ev, nth, over, cl, eI, eP, eT, eC, List.map, List.append, List.drop, List.take]
    refine K.seq_pure (K.pick_t rfl) rfl ?_
    dsimp only [setd, setn, ev, nth]
    refine K.seq_pure (K.assign) rfl ?_
    dsimp only [setd, setn, ev, nth]
    refine K.seq_nil ?_
    refine K.norm_then ?_
    refine K.ret ?_
    refine K.ret_then ?_
    refine K.end_ret (fun w _ => K.res_tmp rfl w) ?_
    exact K.gives rfl
  try replace ht139 := of_decide_eq_false ht139
  refine K.skip ?_
  refine K.norm_then ?_
  refine K.seq ?_
  have hz : (chk ((st * u + v - 1) / v) (cutR (1 + y2 % 3) u v ps)).2.2 = 0 := by omega
  have G := chk_good hz
  have htc := top_cut g hs hkd hp hz
  have hsc := cut_surf g hs hkd hp
  have hcb := surf_bd G hsc
  have hw1 : (fwy ((st * u + v - 1) / v) (cutR (1 + y2 % 3) u v ps) (Sc.cuts (1 + y2 % 3) 0 u v (anyS st ps ys ps.length))).1 = 0 := by rw [surf_why hsc]
  have hw2 : (fwy ((st * u + v - 1) / v) (cutR (1 + y2 % 3) u v ps) (Sc.cuts (1 + y2 % 3) 0 u v (anyS st ps ys ps.length))).2 = 0 := by rw [surf_why hsc]
  refine K.region_lit ?_
  refine K.seq_sil (K.loadA_own ag_24 rfl (K.m1) rfl) rfl ?_
  try dsimp only [setd, setn, ev, nth, over, cl, eI, eP, eT, eC, List.map, List.append, List.drop, List.take]
  refine K.seq_pure (K.move) rfl ?_
  dsimp only [setd, setn, ev, nth]
  refine K.seq_call (K.call_g cal_12 (fun F w hF hw => (by have hX := K.Rd.own (t := 45) (c := q) (e := eC) (xs := (cutR (1 + y2 % 3) u v ps)) hw (by rw [hrl]; exact (hF _ (K.m0))) (by rw [hrl]; exact hAr) (fun _ => rfl) (by decide); have hg := c12 (c := q) (d := q4) hX (K.Rd.own (e := K.eI) (xs := (Sc.cuts (1 + y2 % 3) 0 u v (anyS st ps ys ps.length))) hw (hF _ (K.m2)) hq4 (fun _ => rfl) (by decide)) G (by rw [hrl, hcl]; exact hSl) hcb; rw [hrl, hw1, hw2] at hg; exact hg))) rfl ?_
  try dsimp only [setd, setn, ev, nth, over, cl, eI, eP, eT, eC, List.map, List.append, List.drop, List.take]
  refine K.seq_pure (K.move) rfl ?_
  dsimp only [setd, setn, ev, nth]
  refine K.seq_pure (K.extract rfl rfl) rfl ?_
  dsimp only [setd, setn, ev, nth]
  refine K.seq_pure (K.extract rfl rfl) rfl ?_
  dsimp only [setd, setn, ev, nth]
  refine K.seq_pure (K.extract rfl rfl) rfl ?_
  dsimp only [setd, setn, ev, nth]
  refine K.seq_pure (K.assign) rfl ?_
  dsimp only [setd, setn, ev, nth]
  refine K.seq_pure (K.assign) rfl ?_
  dsimp only [setd, setn, ev, nth]
  refine K.seq_pure (K.assign) rfl ?_
  dsimp only [setd, setn, ev, nth]
  refine K.seq_nil ?_
  refine K.norm_then ?_
  refine K.seq ?_
  refine K.region_lit ?_
  refine K.seq_sil (K.loadA_own ag_24 rfl (K.m1) rfl) rfl ?_
  try dsimp only [setd, setn, ev, nth, over, cl, eI, eP, eT, eC, List.map, List.append, List.drop, List.take]
  refine K.seq_loud (K.call_f cal_13 (fun F w hF hw => (by have hX := K.Rd.own (t := 45) (c := q) (e := eC) (xs := (cutR (1 + y2 % 3) u v ps)) hw (by rw [hrl]; exact (hF _ (K.m0))) (by rw [hrl]; exact hAr) (fun _ => rfl) (by decide); have hg := c13 (c := q) hX G; rw [hrl, htc.2.1] at hg; exact hg))) rfl ?_
  rintro ⟨Q5, q5⟩ hq5
  try dsimp only [setd, setn, ev, nth, over, cl, eI, eP, eT, eC, List.map, List.append, List.drop, List.take]
  refine K.seq_pure (K.move) rfl ?_
  dsimp only [setd, setn, ev, nth]
  refine K.seq_pure (K.extract rfl rfl) rfl ?_
  dsimp only [setd, setn, ev, nth]
  refine K.seq_pure (K.extract rfl rfl) rfl ?_
  dsimp only [setd, setn, ev, nth]
  refine K.seq_pure (K.assign) rfl ?_
  dsimp only [setd, setn, ev, nth]
  refine K.seq_pure (K.assign) rfl ?_
  dsimp only [setd, setn, ev, nth]
  refine K.seq_nil ?_
  refine K.norm_then ?_
  refine K.seq ?_
  refine K.seq ?_
  refine K.region_lit ?_
  refine K.seq_pure (K.move) rfl ?_
  dsimp only [setd, setn, ev, nth]
  refine K.seq_pure (K.Pure.eq (K.neq rfl rfl) (show _ = Value.bool false from congrArg Value.bool (decide_eq_false (fun h => h rfl)))) rfl ?_
  dsimp only [setd, setn, ev, nth]
  refine K.seq_pure (K.move) rfl ?_
  dsimp only [setd, setn, ev, nth]
  refine K.seq_pure (K.move) rfl ?_
  dsimp only [setd, setn, ev, nth]
  refine K.seq_pure (K.Pure.eq (K.neq rfl rfl) (show _ = Value.bool false from congrArg Value.bool (decide_eq_false (fun h => h rfl)))) rfl ?_
  dsimp only [setd, setn, ev, nth]
  refine K.seq_pure (K.pick_f rfl) rfl ?_
  dsimp only [setd, setn, ev, nth]
  refine K.seq_pure (K.move) rfl ?_
  dsimp only [setd, setn, ev, nth]
  refine K.seq_pure (K.move) rfl ?_
  dsimp only [setd, setn, ev, nth]
  refine K.seq_pure (K.Pure.eq (K.neq rfl rfl) (show _ = Value.bool false from congrArg Value.bool (decide_eq_false (fun h => h rfl)))) rfl ?_
  dsimp only [setd, setn, ev, nth]
  refine K.seq_pure (K.pick_f rfl) rfl ?_
  dsimp only [setd, setn, ev, nth]
  refine K.seq_pure (K.move) rfl ?_
  dsimp only [setd, setn, ev, nth]
  refine K.seq_pure (K.move) rfl ?_
  dsimp only [setd, setn, ev, nth]
  refine K.seq_pure (K.len_sl sl_48 rfl) rfl ?_
  dsimp only [setd, setn, ev, nth]
  refine K.seq_pure (K.move) rfl ?_
  dsimp only [setd, setn, ev, nth]
  refine K.seq_pure (K.len_sl sl_31 rfl) rfl ?_
  dsimp only [setd, setn, ev, nth]
  refine K.seq_pure (K.Pure.eq (K.neq rfl rfl) (show _ = Value.bool false from congrArg Value.bool (decide_eq_false (by omega)))) rfl ?_
  dsimp only [setd, setn, ev, nth]
  refine K.seq_pure (K.pick_f rfl) rfl ?_
  dsimp only [setd, setn, ev, nth]
  refine K.seq_nil ?_
  refine K.norm_then ?_
  refine K.cond_false rfl ?_
  refine K.skip ?_
  refine K.norm_then ?_
  refine K.seq ?_
  refine K.seq ?_
  refine K.region_lit ?_
  refine K.seq_pure (K.assign) rfl ?_
  dsimp only [setd, setn, ev, nth]
  refine K.seq_nil ?_
  refine K.norm_then ?_
  refine K.block ?_
  refine K.loopW [27] [6, 173, 174, 175, 176, 177, 178, 179, 180, 181, 182, 183, 184, 185, 186, 187, 188, 189, 190, 191, 192, 193, 194, 195, 196, 197, 198, 199, 200] (fun vi L => ∃ m : Nat, vi = [.int .i64 (m : Int)] ∧ L = [K.row (.slice Q5 (bndL ((st * u + v - 1) / v) (cutR (1 + y2 % 3) u v ps)).length q5) 52 2 (bndL ((st * u + v - 1) / v) (cutR (1 + y2 % 3) u v ps)).length ((bndL ((st * u + v - 1) / v) (cutR (1 + y2 % 3) u v ps)).flatMap K.eP), K.row (.slice Q ps.length q) 45 3 ps.length ((cutR (1 + y2 % 3) u v ps).flatMap eC), K.blk b16 24 [.int .i64 ((st * u + v - 1) / v), .slice Q ps.length q], K.row (.slice Q4 (Sc.cuts (1 + y2 % 3) 0 u v (anyS st ps ys ps.length)).length q4) 3 1 (Sc.cuts (1 + y2 % 3) 0 u v (anyS st ps ys ps.length)).length ((Sc.cuts (1 + y2 % 3) 0 u v (anyS st ps ys ps.length)).flatMap K.eI), K.blk b14 41 [.int .i64 (1 + y2 % 3), .int .i64 0, .int .i64 100000, .slice Q1 (anyS st ps ys ps.length).length q1, .slice none 0 0], K.blk b13 36 [.int .i64 u, .int .i64 v], K.row (.slice Q1 (anyS st ps ys ps.length).length q1) 3 1 (anyS st ps ys ps.length).length ((anyS st ps ys ps.length).flatMap K.eI), K.blk b5 26 [.int .u8 y0, .int .u8 y1, .int .u8 y2], K.blk b3 24 [.int .i64 st, .slice A ps.length c]] ∧ m ≤ (bndL ((st * u + v - 1) / v) (cutR (1 + y2 % 3) u v ps)).length) (fun vi => (bndL ((st * u + v - 1) / v) (cutR (1 + y2 % 3) u v ps)).length - (intOf (K.nth vi 0)).toNat) ?_ ?_
  · exact ⟨0, rfl, rfl, Nat.zero_le _⟩
  intro vi vr L hJ
  obtain ⟨m, rfl, rfl, hmn⟩ := hJ
  try dsimp only [setd, setn, ev, nth, over, cl, eI, eP, eT, eC, setM, setF, List.map, List.append, List.drop, List.take]
  refine K.seq ?_
  refine K.seq ?_
  refine K.region_lit ?_
  refine K.seq_pure (K.move) rfl ?_
  dsimp only [setd, setn, ev, nth]
  refine K.seq_pure (K.move) rfl ?_
  dsimp only [setd, setn, ev, nth]
  refine K.seq_pure (K.len_sl sl_48 rfl) rfl ?_
  dsimp only [setd, setn, ev, nth]
  refine K.seq_pure (K.lss rfl rfl) rfl ?_
  dsimp only [setd, setn, ev, nth]
  refine K.seq_nil ?_
  refine K.norm_then ?_
  refine K.cond rfl (fun ht176 => ?_) (fun ht176 => ?_)
  · try replace ht176 := of_decide_eq_true ht176
    have hm : m < (bndL ((st * u + v - 1) / v) (cutR (1 + y2 % 3) u v ps)).length := by omega
    have hmc : m < (Sc.cuts (1 + y2 % 3) 0 u v (anyS st ps ys ps.length)).length := by omega
    have hin := htc.2.2.2 m hmc
    refine K.skip ?_
    refine K.norm_then ?_
    refine K.seq ?_
    refine K.block ?_
    refine K.seq ?_
    refine K.draw_L [] Try_mixed ?_
    refine K.d_pure 0 rfl (K.move) (by kernel_rfl) rfl ?_
    dsimp only [setd, setn, ev, nth]
    refine K.d_pure 1 rfl (K.move) (by kernel_rfl) rfl ?_
    dsimp only [setd, setn, ev, nth]
    refine K.d_ix (M := [K.row (.slice Q4 (Sc.cuts (1 + y2 % 3) 0 u v (anyS st ps ys ps.length)).length q4) 3 1 (Sc.cuts (1 + y2 % 3) 0 u v (anyS st ps ys ps.length)).length ((Sc.cuts (1 + y2 % 3) 0 u v (anyS st ps ys ps.length)).flatMap K.eI)]) 2 _ rfl (K.Sl.own (w0 := w) (t := 3) (c := q4) (e := K.eI) hq4 (fun _ => rfl)) sl_31 rfl rfl rfl (by omega) (by kernel_rfl) rfl ?_
    intro p181 hp181
    try dsimp only [setd, setn, ev, nth, over, cl, eI, eP, eT, eC, List.map, List.append, List.drop, List.take]
    refine K.d_mem 3 rfl (K.load1 one_3 rfl (hp181.at1 (K.m3))) (fun _ h => h) (by kernel_rfl) (by kernel_rfl) rfl ?_
    try dsimp only [setd, setn, ev, nth, over, cl, eI, eP, eT, eC, List.map, List.append, List.drop, List.take]
    refine K.d_pure 4 rfl (K.move) (by kernel_rfl) rfl ?_
    dsimp only [setd, setn, ev, nth]
    refine K.d_pure 5 rfl (K.move) (by kernel_rfl) rfl ?_
    dsimp only [setd, setn, ev, nth]
    refine K.d_ix (M := [K.row (.slice Q5 (bndL ((st * u + v - 1) / v) (cutR (1 + y2 % 3) u v ps)).length q5) 52 2 (bndL ((st * u + v - 1) / v) (cutR (1 + y2 % 3) u v ps)).length ((bndL ((st * u + v - 1) / v) (cutR (1 + y2 % 3) u v ps)).flatMap K.eP)]) 6 _ rfl (K.Sl.own (w0 := w) (t := 52) (c := q5) (e := K.eP) hq5 (fun _ => rfl)) sl_48 rfl rfl rfl (by omega) (by kernel_rfl) rfl ?_
    intro p185 hp185
    try dsimp only [setd, setn, ev, nth, over, cl, eI, eP, eT, eC, List.map, List.append, List.drop, List.take]
    refine K.d_pure 7 rfl (K.fieldAddr fo_52_0 rfl) (by kernel_rfl) rfl ?_
    dsimp only [setd, setn, ev, nth]
    refine K.d_mem 8 rfl (K.load1 one_3 rfl ((K.PtrL.fld hp185 (k := 0)).at1 (K.m0))) (fun _ h => h) (by kernel_rfl) (by kernel_rfl) rfl ?_
    try dsimp only [setd, setn, ev, nth, over, cl, eI, eP, eT, eC, List.map, List.append, List.drop, List.take]
    refine K.d_pure 9 rfl (K.Pure.eq (K.lss rfl rfl) (show _ = Value.bool false from congrArg Value.bool (decide_eq_false (by omega)))) (by kernel_rfl) rfl ?_
    dsimp only [setd, setn, ev, nth]
    refine K.d_pure 10 rfl (K.move) (by kernel_rfl) rfl ?_
    dsimp only [setd, setn, ev, nth]
    refine K.d_pure 11 rfl (K.move) (by kernel_rfl) rfl ?_
    dsimp only [setd, setn, ev, nth]
    refine K.d_pure 12 rfl (K.move) (by kernel_rfl) rfl ?_
    dsimp only [setd, setn, ev, nth]
    refine K.d_ix (M := [K.row (.slice Q4 (Sc.cuts (1 + y2 % 3) 0 u v (anyS st ps ys ps.length)).length q4) 3 1 (Sc.cuts (1 + y2 % 3) 0 u v (anyS st ps ys ps.length)).length ((Sc.cuts (1 + y2 % 3) 0 u v (anyS st ps ys ps.length)).flatMap K.eI)]) 13 _ rfl (K.Sl.own (w0 := w) (t := 3) (c := q4) (e := K.eI) hq4 (fun _ => rfl)) sl_31 rfl rfl rfl (by omega) (by kernel_rfl) rfl ?_
    intro p192 hp192
    try dsimp only [setd, setn, ev, nth, over, cl, eI, eP, eT, eC, List.map, List.append, List.drop, List.take]
    refine K.d_mem 14 rfl (K.load1 one_3 rfl (hp192.at1 (K.m3))) (fun _ h => h) (by kernel_rfl) (by kernel_rfl) rfl ?_
    try dsimp only [setd, setn, ev, nth, over, cl, eI, eP, eT, eC, List.map, List.append, List.drop, List.take]
    refine K.d_pure 15 rfl (K.move) (by kernel_rfl) rfl ?_
    dsimp only [setd, setn, ev, nth]
    refine K.d_pure 16 rfl (K.move) (by kernel_rfl) rfl ?_
    dsimp only [setd, setn, ev, nth]
    refine K.d_ix (M := [K.row (.slice Q5 (bndL ((st * u + v - 1) / v) (cutR (1 + y2 % 3) u v ps)).length q5) 52 2 (bndL ((st * u + v - 1) / v) (cutR (1 + y2 % 3) u v ps)).length ((bndL ((st * u + v - 1) / v) (cutR (1 + y2 % 3) u v ps)).flatMap K.eP)]) 17 _ rfl (K.Sl.own (w0 := w) (t := 52) (c := q5) (e := K.eP) hq5 (fun _ => rfl)) sl_48 rfl rfl rfl (by omega) (by kernel_rfl) rfl ?_
    intro p196 hp196
    try dsimp only [setd, setn, ev, nth, over, cl, eI, eP, eT, eC, List.map, List.append, List.drop, List.take]
    refine K.d_pure 18 rfl (K.fieldAddr fo_52_1 rfl) (by kernel_rfl) rfl ?_
    dsimp only [setd, setn, ev, nth]
    refine K.d_mem 19 rfl (K.load1 one_3 rfl ((K.PtrL.fld hp196 (k := 1)).at1 (K.m0))) (fun _ h => h) (by kernel_rfl) (by kernel_rfl) rfl ?_
    try dsimp only [setd, setn, ev, nth, over, cl, eI, eP, eT, eC, List.map, List.append, List.drop, List.take]
    refine K.d_pure 20 rfl (K.Pure.eq (K.gtr rfl rfl) (show _ = Value.bool false from congrArg Value.bool (decide_eq_false (by omega)))) (by kernel_rfl) rfl ?_
    dsimp only [setd, setn, ev, nth]
    refine K.d_pure 21 rfl (K.pick_f rfl) (by kernel_rfl) rfl ?_
    dsimp only [setd, setn, ev, nth]
    refine K.d_done (by kernel_rfl) ?_
    refine K.norm_then ?_
    refine K.cond_false rfl ?_
    refine K.skip ?_
    refine K.norm_block ?_
    refine K.norm_then ?_
    refine K.region_lit ?_
    refine K.seq_pure (K.move) rfl ?_
    dsimp only [setd, setn, ev, nth]
    refine K.seq_pure (K.add_i64 rfl rfl (by omega)) rfl ?_
    dsimp only [setd, setn, ev, nth]
    refine K.seq_pure (K.assign) rfl ?_
    dsimp only [setd, setn, ev, nth]
    refine K.seq_nil ?_
    exact K.round_endW (L'' := [K.row (.slice Q5 (bndL ((st * u + v - 1) / v) (cutR (1 + y2 % 3) u v ps)).length q5) 52 2 (bndL ((st * u + v - 1) / v) (cutR (1 + y2 % 3) u v ps)).length ((bndL ((st * u + v - 1) / v) (cutR (1 + y2 % 3) u v ps)).flatMap K.eP), K.row (.slice Q ps.length q) 45 3 ps.length ((cutR (1 + y2 % 3) u v ps).flatMap eC), K.blk b16 24 [.int .i64 ((st * u + v - 1) / v), .slice Q ps.length q], K.row (.slice Q4 (Sc.cuts (1 + y2 % 3) 0 u v (anyS st ps ys ps.length)).length q4) 3 1 (Sc.cuts (1 + y2 % 3) 0 u v (anyS st ps ys ps.length)).length ((Sc.cuts (1 + y2 % 3) 0 u v (anyS st ps ys ps.length)).flatMap K.eI), K.blk b14 41 [.int .i64 (1 + y2 % 3), .int .i64 0, .int .i64 100000, .slice Q1 (anyS st ps ys ps.length).length q1, .slice none 0 0], K.blk b13 36 [.int .i64 u, .int .i64 v], K.row (.slice Q1 (anyS st ps ys ps.length).length q1) 3 1 (anyS st ps ys ps.length).length ((anyS st ps ys ps.length).flatMap K.eI), K.blk b5 26 [.int .u8 y0, .int .u8 y1, .int .u8 y2], K.blk b3 24 [.int .i64 st, .slice A ps.length c]]) [.int .i64 ((m : Int) + 1)] ⟨m + 1, rfl, rfl, by omega⟩ (by dsimp only [K.nth, intOf]; omega) (List.Sublist.refl _) (by kernel_rfl)
  try replace ht176 := of_decide_eq_false ht176
  refine K.exit ?_
  refine K.exit_then ?_
  refine K.exit_then ?_
  refine K.exit_here ?_
  refine K.norm_then ?_
  refine K.seq ?_
  refine K.region_lit ?_
  refine K.seq_call (K.call_g cal_5 (fun F w hF hw => c5 w)) rfl ?_
  try dsimp only [setd, setn, ev, nth, over, cl, eI, eP, eT, eC, List.map, List.append, List.drop, List.take]
  refine K.seq_pure (K.move) rfl ?_
  dsimp only [setd, setn, ev, nth]
  refine K.seq_call (K.call_g cal_6 (fun F w hF hw => Sc.c26 w)) rfl ?_
  try dsimp only [setd, setn, ev, nth, over, cl, eI, eP, eT, eC, List.map, List.append, List.drop, List.take]
  refine K.seq_pure (K.pick_t rfl) rfl ?_
  dsimp only [setd, setn, ev, nth]
  refine K.seq_pure (K.assign) rfl ?_
  dsimp only [setd, setn, ev, nth]
  refine K.seq_nil ?_
  refine K.norm_then ?_
  refine K.ret ?_
  refine K.end_ret (fun w _ => K.res_tmp rfl w) ?_
  exact K.gives rfl

theorem c3 {st : Int} {ps : List CvT} {ys : List Int} {y0 y1 y2 : Int} {A Y : Option Addr} {c cy : Nat} {w : World} (hR : K.Rd w A 3 eC ps) (hn : ps.length ≤ 4611686018427387904) (hY : K.Rd w Y 1 eY ys) (hyb : ∀ x ∈ ys, 0 ≤ x ∧ x ≤ 255) (hyl : ys.length ≤ 140737488351232) (hy0 : 0 ≤ y0 ∧ y0 ≤ 255) (hy1 : 0 ≤ y1 ∧ y1 ≤ 255) (hy2 : 0 ≤ y2 ∧ y2 ≤ 255) : Calls Try.prog 3 [.agg #[.int .i64 st, .slice A ps.length c], .slice Y ys.length cy, .agg #[.int .u8 y0, .int .u8 y1, .int .u8 y2]].toArray w (K.Gives (.bool true) w) := by
  by_cases hc : (chk st ps).2.2 = 0
  · by_cases h8 : ps.length ≤ 8
    · exact g3 hR hn hY hyb hyl hy0 hy1 hy2 hc h8
    · exact e3 hR hn hY hyb hyl hy0 hy1 hy2 (.inr (by omega))
  · exact e3 hR hn hY hyb hyl hy0 hy1 hy2 (.inl hc)

end Go.Proofs.Ytfbglomliankmaa.Cv
end
