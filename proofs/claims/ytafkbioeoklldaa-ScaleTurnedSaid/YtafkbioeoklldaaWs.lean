/-
  Walks of the program's functions, printed by program: what each returns.
  Conditions stand in each theorem.
-/
import Derived.Test.YtafkbioeoklldaaKf
import Derived.Test.YtafkbioeoklldaaK2
import Derived.WalkArith
import Derived.Test.YtafkbioeoklldaaK2
import Derived.Test.YtafkbioeoklldaaS1
import Derived.Test.YtafkbioeoklldaaWa
import Derived.Test.YtafkbioeoklldaaWr
set_option linter.unusedSimpArgs false
set_option linter.unusedVariables false
namespace Go.Proofs.Ytafkbioeoklldaa
open Go.RowKit Go
open Go.K (setd setn ev nth over cl eI eP eT setM setF)
attribute [local irreducible] K.blk K.row
theorem wrap8 {a : Int} (h : 0 ≤ a ∧ a ≤ 255) : IntKind.i64.wrap a = a := IntWalk.i64_in _ (by omega)

set_option maxRecDepth 100000 in
theorem c40 {a b : Int} (ha : 0 ≤ a ∧ a ≤ 255) (hb : 0 ≤ b ∧ b ≤ 255) (w : World) :
    Calls Try.prog 40 [.agg #[.int .u8 a, .int .u8 b]].toArray w (K.Ret (fun r : Int × Int => scE r.1 r.2 = 0) (fun r => .agg #[.int .i64 r.1, .int .i64 r.2]) (fun _ => []) w) := by
  refine K.enter (args := [.agg #[.int .u8 a, .int .u8 b]]) Try.func40 rfl (n := 41) rfl ?_
  simp only [List.replicate, List.cons_append, List.nil_append]
  refine K.seq ?_
  refine K.region_lit ?_
  refine K.seq_new (K.box) rfl ?_
  intro b1
  try dsimp only [setd, setn, ev, nth, over, cl, eI, eP, eT, List.map, List.append, List.drop, List.take]
  refine K.seq_new (K.alloc zr_27) rfl ?_
  intro b2
  try dsimp only [setd, setn, ev, nth, over, cl, eI, eP, eT, List.map, List.append, List.drop, List.take]
  refine K.seq_nil ?_
  refine K.norm_then ?_
  refine K.seq ?_
  refine K.region_lit ?_
  refine K.seq_pure (K.indexAddr_ar ar_56 rfl rfl (by omega) (by omega)) rfl ?_
  try dsimp only [setd, setn, ev, nth, over, cl, eI, eP, eT, List.map, List.append, List.drop, List.take]
  refine K.seq_sil (K.load1_own one_5 rfl (K.m1) rfl) rfl ?_
  try dsimp only [setd, setn, ev, nth, over, cl, eI, eP, eT, List.map, List.append, List.drop, List.take]
  refine K.seq_pure (K.Pure.eq (K.conv_int ik_5 ik_3 rfl) (by rw [wrap8 ha])) rfl ?_
  try dsimp only [setd, setn, ev, nth, over, cl, eI, eP, eT, List.map, List.append, List.drop, List.take]
  refine K.seq_pure (K.rem_i64 rfl rfl (by omega) (by omega)) rfl ?_
  dsimp only [setd, setn, ev, nth]
  refine K.seq_pure (K.add_i64 rfl rfl (by omega)) rfl ?_
  dsimp only [setd, setn, ev, nth]
  refine K.seq_pure (K.indexAddr_ar ar_56 rfl rfl (by omega) (by omega)) rfl ?_
  try dsimp only [setd, setn, ev, nth, over, cl, eI, eP, eT, List.map, List.append, List.drop, List.take]
  refine K.seq_sil (K.load1_own one_5 rfl (K.m1) rfl) rfl ?_
  try dsimp only [setd, setn, ev, nth, over, cl, eI, eP, eT, List.map, List.append, List.drop, List.take]
  refine K.seq_pure (K.Pure.eq (K.conv_int ik_5 ik_3 rfl) (by rw [wrap8 hb])) rfl ?_
  try dsimp only [setd, setn, ev, nth, over, cl, eI, eP, eT, List.map, List.append, List.drop, List.take]
  refine K.seq_pure (K.rem_i64 rfl rfl (by omega) (by omega)) rfl ?_
  dsimp only [setd, setn, ev, nth]
  refine K.seq_pure (K.add_i64 rfl rfl (by omega)) rfl ?_
  dsimp only [setd, setn, ev, nth]
  refine K.seq_call (K.call_g cal_37 (fun F w hF hw => c37 w)) rfl ?_
  try dsimp only [setd, setn, ev, nth, over, cl, eI, eP, eT, List.map, List.append, List.drop, List.take]
  refine K.seq_new (K.alloc zr_27) rfl ?_
  intro b3
  try dsimp only [setd, setn, ev, nth, over, cl, eI, eP, eT, List.map, List.append, List.drop, List.take]
  refine K.seq_st (K.store_all sz_27 rfl rfl rfl rfl (K.rp0)) rfl ?_
  try dsimp only [setd, setn, ev, nth, over, cl, eI, eP, eT, List.map, List.append, List.drop, List.take]
  refine K.seq_nil ?_
  refine K.norm_then ?_
  refine K.seq ?_
  refine K.seq ?_
  refine K.region_lit ?_
  refine K.seq_pure (K.assign) rfl ?_
  dsimp only [setd, setn, ev, nth]
  refine K.seq_nil ?_
  refine K.norm_then ?_
  refine K.block ?_
  refine K.loopW [4] [16, 17, 18, 19, 20, 21, 22, 23, 24, 25, 26, 27, 28, 29, 30, 31, 32, 33, 34, 35, 36, 37, 38, 39, 40] (fun vi L => ∃ (n u v : Int), vi = [.int .i64 n] ∧ L = [K.blk b3 27 [.int .i64 u, .int .i64 v], K.blk b2 27 [.int .i64 0, .int .i64 0], K.blk b1 56 [.int .u8 a, .int .u8 b]] ∧ (1 ≤ n ∧ n ≤ 30) ∧ Parts u v ∧ ∀ m, n < m → m ≤ 30 → ¬ (u % m = 0 ∧ v % m = 0)) (fun vi => (intOf (K.nth vi 0)).toNat) ?_ ?_
  · exact ⟨30, _, _, rfl, rfl, by omega, by omega, fun m h1 h2 => absurd h1 (by omega)⟩
  intro vi vr L hJ
  obtain ⟨n, u, v, rfl, rfl, hn, hp, hall⟩ := hJ
  try dsimp only [setd, setn, ev, nth, over, cl, eI, eP, eT, setM, setF, List.map, List.append, List.drop, List.take]
  refine K.seq ?_
  refine K.seq ?_
  refine K.region_lit ?_
  refine K.seq_pure (K.move) rfl ?_
  dsimp only [setd, setn, ev, nth]
  refine K.seq_pure (K.gtr rfl rfl) rfl ?_
  dsimp only [setd, setn, ev, nth]
  refine K.seq_nil ?_
  refine K.norm_then ?_
  refine K.cond rfl (fun ht17 => ?_) (fun ht17 => ?_)
  · try replace ht17 := of_decide_eq_true ht17
    refine K.skip ?_
    refine K.norm_then ?_
    refine K.seq ?_
    refine K.block ?_
    refine K.seq ?_
    refine K.region_lit ?_
    refine K.seq_pure (K.fieldAddr_lit fo_27_0 rfl) rfl ?_
    dsimp only [setd, setn, ev, nth]
    refine K.seq_sil (K.load1_own one_3 rfl (K.m0) rfl) rfl ?_
    try dsimp only [setd, setn, ev, nth, over, cl, eI, eP, eT, List.map, List.append, List.drop, List.take]
    refine K.seq_pure (K.move) rfl ?_
    dsimp only [setd, setn, ev, nth]
    refine K.seq_pure (K.rem_i64 rfl rfl (by omega) (by omega)) rfl ?_
    dsimp only [setd, setn, ev, nth]
    refine K.seq_pure (K.eql rfl rfl) rfl ?_
    dsimp only [setd, setn, ev, nth]
    refine K.seq_pure (K.move) rfl ?_
    dsimp only [setd, setn, ev, nth]
    refine K.split 25 rfl (fun hg25 => ?_) (fun hg25 => ?_)
    · try replace hg25 := of_decide_eq_true hg25
      refine K.seq_pure (K.fieldAddr_lit fo_27_1 rfl) rfl ?_
      dsimp only [setd, setn, ev, nth]
      refine K.seq_sil (K.load1_own one_3 rfl (K.m0) rfl) rfl ?_
      try dsimp only [setd, setn, ev, nth, over, cl, eI, eP, eT, List.map, List.append, List.drop, List.take]
      refine K.seq_pure (K.move) rfl ?_
      dsimp only [setd, setn, ev, nth]
      refine K.seq_pure (K.rem_i64 rfl rfl (by omega) (by omega)) rfl ?_
      dsimp only [setd, setn, ev, nth]
      refine K.seq_pure (K.eql rfl rfl) rfl ?_
      dsimp only [setd, setn, ev, nth]
      refine K.seq_pure (K.pick_t rfl) rfl ?_
      dsimp only [setd, setn, ev, nth]
      refine K.seq_nil ?_
      refine K.norm_then ?_
      refine K.cond rfl (fun ht31 => ?_) (fun ht31 => ?_)
      · try replace ht31 := of_decide_eq_true ht31
        refine K.draw_L [9] Try_mixed ?_
        refine K.d_pure 0 rfl (K.fieldAddr_lit fo_27_0 rfl) (by kernel_rfl) rfl ?_
        dsimp only [setd, setn, ev, nth]
        refine K.d_mem 1 rfl (K.load1_own one_3 rfl (K.m0) rfl) (fun _ h => h) (by kernel_rfl) (by kernel_rfl) rfl ?_
        try dsimp only [setd, setn, ev, nth, over, cl, eI, eP, eT, List.map, List.append, List.drop, List.take]
        refine K.d_pure 2 rfl (K.move) (by kernel_rfl) rfl ?_
        dsimp only [setd, setn, ev, nth]
        refine K.d_pure 3 rfl (K.quo_i64 rfl rfl (by omega) (by omega) (by omega)) (by kernel_rfl) rfl ?_
        dsimp only [setd, setn, ev, nth]
        refine K.d_pure 4 rfl (K.fieldAddr_lit fo_27_1 rfl) (by kernel_rfl) rfl ?_
        dsimp only [setd, setn, ev, nth]
        refine K.d_mem 5 rfl (K.load1_own one_3 rfl (K.m0) rfl) (fun _ h => h) (by kernel_rfl) (by kernel_rfl) rfl ?_
        try dsimp only [setd, setn, ev, nth, over, cl, eI, eP, eT, List.map, List.append, List.drop, List.take]
        refine K.d_pure 6 rfl (K.move) (by kernel_rfl) rfl ?_
        dsimp only [setd, setn, ev, nth]
        refine K.d_pure 7 rfl (K.quo_i64 rfl rfl (by omega) (by omega) (by omega)) (by kernel_rfl) rfl ?_
        dsimp only [setd, setn, ev, nth]
        refine K.d_call 8 rfl (K.call_g cal_37 (fun F w hF hw => c37 w)) (fun _ h => h) (by kernel_rfl) rfl ?_
        try dsimp only [setd, setn, ev, nth, over, cl, eI, eP, eT, List.map, List.append, List.drop, List.take]
        refine K.d_last 9 rfl (K.store_all sz_27 rfl rfl rfl rfl (K.rp0)) rfl (by kernel_rfl) rfl ?_
        intro _ _
        try dsimp only [setd, setn, ev, nth, over, cl, eI, eP, eT, List.map, List.append, List.drop, List.take]
        refine K.d_done (by kernel_rfl) ?_
        refine K.norm_block ?_
        refine K.norm_then ?_
        refine K.region_lit ?_
        refine K.seq_pure (K.move) rfl ?_
        dsimp only [setd, setn, ev, nth]
        refine K.seq_pure (K.sub_i64 rfl rfl (by omega)) rfl ?_
        dsimp only [setd, setn, ev, nth]
        refine K.seq_pure (K.assign) rfl ?_
        dsimp only [setd, setn, ev, nth]
        refine K.seq_nil ?_
        have hnext : (¬ (u % n = 0 ∧ v % n = 0)) → ∀ m, n - 1 < m → m ≤ 30 → ¬ (u % m = 0 ∧ v % m = 0) := fun hno m h1 h2 hh => (Int.lt_or_eq_of_le (show n ≤ m by omega)).elim (fun h3 => hall m h3 h2 hh) (fun h3 => hno (by rw [h3]; exact hh))
        first | (have hd := div_step hp (by omega) hg25 ht31 hall; exact K.round_endW (L'' := [K.blk b3 27 [.int .i64 (u / n), .int .i64 (v / n)], K.blk b2 27 [.int .i64 0, .int .i64 0], K.blk b1 56 [.int .u8 a, .int .u8 b]]) [.int .i64 (n - 1)] ⟨n - 1, u / n, v / n, rfl, rfl, by omega, hd.1, hd.2⟩ (by simp [K.nth, intOf]; omega) (by repeat (first | exact List.Sublist.refl _ | apply List.Sublist.cons)) (by kernel_rfl)) | exact K.round_endW [.int .i64 (n - 1)] ⟨n - 1, u, v, rfl, rfl, by omega, hp, hnext (fun h => ht31 h.2)⟩ (by simp [K.nth, intOf]; omega) (by repeat (first | exact List.Sublist.refl _ | apply List.Sublist.cons)) (by kernel_rfl)
      try replace ht31 := of_decide_eq_false ht31
      refine K.skip ?_
      refine K.norm_block ?_
      refine K.norm_then ?_
      refine K.region_lit ?_
      refine K.seq_pure (K.move) rfl ?_
      dsimp only [setd, setn, ev, nth]
      refine K.seq_pure (K.sub_i64 rfl rfl (by omega)) rfl ?_
      dsimp only [setd, setn, ev, nth]
      refine K.seq_pure (K.assign) rfl ?_
      dsimp only [setd, setn, ev, nth]
      refine K.seq_nil ?_
      have hnext : (¬ (u % n = 0 ∧ v % n = 0)) → ∀ m, n - 1 < m → m ≤ 30 → ¬ (u % m = 0 ∧ v % m = 0) := fun hno m h1 h2 hh => (Int.lt_or_eq_of_le (show n ≤ m by omega)).elim (fun h3 => hall m h3 h2 hh) (fun h3 => hno (by rw [h3]; exact hh))
      first | (have hd := div_step hp (by omega) hg25 ht31 hall; exact K.round_endW (L'' := [K.blk b3 27 [.int .i64 (u / n), .int .i64 (v / n)], K.blk b2 27 [.int .i64 0, .int .i64 0], K.blk b1 56 [.int .u8 a, .int .u8 b]]) [.int .i64 (n - 1)] ⟨n - 1, u / n, v / n, rfl, rfl, by omega, hd.1, hd.2⟩ (by simp [K.nth, intOf]; omega) (by repeat (first | exact List.Sublist.refl _ | apply List.Sublist.cons)) (by kernel_rfl)) | exact K.round_endW [.int .i64 (n - 1)] ⟨n - 1, u, v, rfl, rfl, by omega, hp, hnext (fun h => ht31 h.2)⟩ (by simp [K.nth, intOf]; omega) (by repeat (first | exact List.Sublist.refl _ | apply List.Sublist.cons)) (by kernel_rfl)
    try replace hg25 := of_decide_eq_false hg25
    refine K.seq_skip ?_ ?_
    · rfl
    try dsimp only [setd, setn, ev, nth, over, cl, eI, eP, eT, List.map, List.append, List.drop, List.take]
    refine K.seq_skip ?_ ?_
    · rfl
    try dsimp only [setd, setn, ev, nth, over, cl, eI, eP, eT, List.map, List.append, List.drop, List.take]
    refine K.seq_skip ?_ ?_
    · rfl
    try dsimp only [setd, setn, ev, nth, over, cl, eI, eP, eT, List.map, List.append, List.drop, List.take]
    refine K.seq_skip ?_ ?_
    · rfl
    try dsimp only [setd, setn, ev, nth, over, cl, eI, eP, eT, List.map, List.append, List.drop, List.take]
    refine K.seq_skip ?_ ?_
    · rfl
    try dsimp only [setd, setn, ev, nth, over, cl, eI, eP, eT, List.map, List.append, List.drop, List.take]
    refine K.seq_pure (K.pick_f rfl) rfl ?_
    dsimp only [setd, setn, ev, nth]
    refine K.seq_nil ?_
    refine K.norm_then ?_
    refine K.cond_false rfl ?_
    refine K.skip ?_
    refine K.norm_block ?_
    refine K.norm_then ?_
    refine K.region_lit ?_
    refine K.seq_pure (K.move) rfl ?_
    dsimp only [setd, setn, ev, nth]
    refine K.seq_pure (K.sub_i64 rfl rfl (by omega)) rfl ?_
    dsimp only [setd, setn, ev, nth]
    refine K.seq_pure (K.assign) rfl ?_
    dsimp only [setd, setn, ev, nth]
    refine K.seq_nil ?_
    have hnext : (¬ (u % n = 0 ∧ v % n = 0)) → ∀ m, n - 1 < m → m ≤ 30 → ¬ (u % m = 0 ∧ v % m = 0) := fun hno m h1 h2 hh => (Int.lt_or_eq_of_le (show n ≤ m by omega)).elim (fun h3 => hall m h3 h2 hh) (fun h3 => hno (by rw [h3]; exact hh))
    exact K.round_endW [.int .i64 (n - 1)] ⟨n - 1, u, v, rfl, rfl, by omega, hp, hnext (fun h => hg25 h.1)⟩ (by simp [K.nth, intOf]; omega) (by repeat (first | exact List.Sublist.refl _ | apply List.Sublist.cons)) (by kernel_rfl)
  try replace ht17 := of_decide_eq_false ht17
  refine K.exit ?_
  refine K.exit_then ?_
  refine K.exit_then ?_
  refine K.exit_here ?_
  refine K.norm_then ?_
  refine K.seq ?_
  refine K.region_lit ?_
  refine K.seq_sil (K.loadA_own ag_27 rfl (K.m0) rfl) rfl ?_
  try dsimp only [setd, setn, ev, nth, over, cl, eI, eP, eT, List.map, List.append, List.drop, List.take]
  refine K.seq_st (K.store_all sz_27 rfl rfl rfl rfl (K.rp1)) rfl ?_
  try dsimp only [setd, setn, ev, nth, over, cl, eI, eP, eT, List.map, List.append, List.drop, List.take]
  refine K.seq_nil ?_
  refine K.norm_then ?_
  refine K.ret ?_
  refine K.end_ret (fun w hw => K.res_c rfl rfl (K.run_cellA ag_27 rfl (K.m1) rfl w hw)) ?_
  exact K.rets (u, v) (scE_of hp (fun m h1 h2 => hall m (by omega) h2)) rfl (List.nil_sublist _)

end Go.Proofs.Ytafkbioeoklldaa
