/-
  Walks of the program's functions, printed by program: what each returns.
  Conditions stand in each theorem.
-/
import Derived.Test.YtafkbioeoklldaaKf
import Derived.Test.YtafkbioeoklldaaK2
import Derived.WalkArith
import Derived.Test.YtafkbioeoklldaaK4
import Derived.Test.YtafkbioeoklldaaS4
import Derived.Test.YtafkbioeoklldaaWn
import Derived.Test.YtafkbioeoklldaaWo
import Derived.Test.YtafkbioeoklldaaWm
set_option linter.unusedSimpArgs false
set_option linter.unusedVariables false
namespace Go.Proofs.Ytafkbioeoklldaa
open Go.RowKit Go
open Go.K (setd setn ev nth over cl eI eP eT setM setF)
attribute [local irreducible] K.blk K.row
theorem bs42_0 : K.Bs Try.prog 42 0 [] 27 [] := fun w => by kernel_rfl
theorem okS_f1 {kind base most : Int} {hs : List Int} {ms : List (Int × Int × Int)} {x : Int × Int} (h : ms.any (missP (cuts kind base x.1 x.2 hs)) = true) : okS kind base most hs ms x = false := by unfold okS; rw [h]; simp
theorem okS_f2 {kind base most : Int} {hs : List Int} {ms : List (Int × Int × Int)} {x : Int × Int} (h : fitB most (cuts kind base x.1 x.2 hs) = false) : okS kind base most hs ms x = false := by unfold okS fitP; rw [h]; rfl
theorem okS_t {kind base most : Int} {hs : List Int} {ms : List (Int × Int × Int)} {x : Int × Int} (h1 : ms.any (missP (cuts kind base x.1 x.2 hs)) = false) (h : fitB most (cuts kind base x.1 x.2 hs) = true) : okS kind base most hs ms x = true := by unfold okS fitP; rw [h, h1]; rfl

set_option maxRecDepth 100000 in
set_option maxHeartbeats 2000000 in
theorem c32 {kind base most : Int} {A B : Option Addr} {c d : Nat} {hs : List Int} {rs : List (Int × Int)} {M : Option Addr} {cm : Nat} {ms : List (Int × Int × Int)} {w : World} (hH : K.Rd w A 1 K.eI hs) (hR : K.Rd w B 2 K.eP rs) (hn : hs.length ≤ 4611686018427387904) (hm : rs.length ≤ 4611686018427387904) (hM : K.Rd w M 3 K.eT ms) (hml : ms.length ≤ 4611686018427387904) :
    Calls Try.prog 32 [.agg #[.int .i64 kind, .int .i64 base, .int .i64 most, .slice A hs.length c, .slice B rs.length d], .slice M ms.length cm].toArray w (K.RetSE 27 2 K.eP (scalesR kind base most hs rs ms) (marksE kind base most hs rs ms) w) := by
  refine K.enter (args := [.agg #[.int .i64 kind, .int .i64 base, .int .i64 most, .slice A hs.length c, .slice B rs.length d], .slice M ms.length cm]) Try.func32 rfl (n := 72) rfl ?_
  simp only [List.replicate, List.cons_append, List.nil_append]
  refine K.seq ?_
  refine K.region_lit ?_
  refine K.seq_new (K.box) rfl ?_
  intro b2
  try dsimp only [setd, setn, ev, nth, over, cl, eI, eP, eT, List.map, List.append, List.drop, List.take]
  refine K.seq_pure (K.assign) rfl ?_
  dsimp only [setd, setn, ev, nth]
  refine K.seq_pure (K.assign) rfl ?_
  dsimp only [setd, setn, ev, nth]
  refine K.seq_nil ?_
  refine K.norm_then ?_
  refine K.seq ?_
  refine K.region_lit ?_
  refine K.seq_sil (K.loadA_own ag_25 rfl (K.m0) rfl) rfl ?_
  try dsimp only [setd, setn, ev, nth, over, cl, eI, eP, eT, List.map, List.append, List.drop, List.take]
  refine K.seq_pure (K.move) rfl ?_
  dsimp only [setd, setn, ev, nth]
  refine K.seq_call (K.call_g cal_74 (fun F w hF hw => c74 (ms := ms) (hH.pass hw) (hR.pass hw) hn hm (hM.pass hw) hml)) rfl ?_
  try dsimp only [setd, setn, ev, nth, over, cl, eI, eP, eT, List.map, List.append, List.drop, List.take]
  refine K.seq_pure (K.assign) rfl ?_
  dsimp only [setd, setn, ev, nth]
  refine K.seq_nil ?_
  refine K.norm_then ?_
  refine K.seq ?_
  refine K.seq ?_
  refine K.region_lit ?_
  refine K.seq_pure (K.move) rfl ?_
  dsimp only [setd, setn, ev, nth]
  refine K.seq_pure (K.neq rfl rfl) rfl ?_
  dsimp only [setd, setn, ev, nth]
  refine K.seq_nil ?_
  refine K.norm_then ?_
  refine K.cond rfl (fun ht15 => ?_) (fun ht15 => ?_)
  · try replace ht15 := of_decide_eq_true ht15
    refine K.seq ?_
    refine K.region_lit ?_
    refine K.seq_pure (K.move) rfl ?_
    dsimp only [setd, setn, ev, nth]
    refine K.seq_pure (K.assign) rfl ?_
    dsimp only [setd, setn, ev, nth]
    refine K.seq_pure (K.assign) rfl ?_
    dsimp only [setd, setn, ev, nth]
    refine K.seq_nil ?_
    refine K.norm_then ?_
    refine K.ret ?_
    refine K.ret_then ?_
    refine K.end_ret (fun w _ => K.res_tmp2 rfl w) ?_
    exact K.rets_se0 (by unfold scalesR; rw [if_neg ht15]) rfl rfl
  try replace ht15 := of_decide_eq_false ht15
  have he0 : marksE kind base most hs rs ms = 0 := Decidable.not_not.1 ht15
  have hc0 : (chk kind base most hs rs).2.2 = 0 := by
    unfold marksE at he0
    split at he0
    · rename_i h; exact absurd he0 h
    · rename_i h; exact Decidable.not_not.1 h
  have g := chk_good hc0
  have g1 := g.k
  have g2 := g.n
  have g3 := g.r
  have g4 := g.b
  have g5 := g.m
  have hz : (K.fst (markE hs.length) ms).2 = 0 := by
    unfold marksE at he0
    rw [if_neg (by omega)] at he0
    split at he0
    · omega
    · exact he0
  have hpt : ∀ y ∈ ms, 0 ≤ y.1 ∧ y.1 < hs.length := fun y hy => by have := markE_0 (fst_zero.1 hz y hy); omega
  refine K.skip ?_
  refine K.norm_then ?_
  refine K.seq ?_
  refine K.region_lit ?_
  refine K.nil_row (e := 27) (size := 2) ?_
  refine K.seq_pure (K.assign) rfl ?_
  dsimp only [setd, setn, ev, nth]
  refine K.seq_nil ?_
  refine K.norm_then ?_
  refine K.seq ?_
  refine K.region_lit ?_
  refine K.seq_loud (K.call_f cal_68 (fun F w hF hw => c68 w)) rfl ?_
  rintro ⟨A1, c1⟩ hA1
  try dsimp only [setd, setn, ev, nth, over, cl, eI, eP, eT, List.map, List.append, List.drop, List.take]
  refine K.seq_pure (K.assign) rfl ?_
  dsimp only [setd, setn, ev, nth]
  refine K.seq_nil ?_
  refine K.norm_then ?_
  refine K.seq ?_
  refine K.seq ?_
  refine K.region_lit ?_
  refine K.seq_pure (K.assign) rfl ?_
  dsimp only [setd, setn, ev, nth]
  refine K.seq_nil ?_
  refine K.norm_then ?_
  refine K.block ?_
  refine K.loopW [7, 9] [10, 18, 19, 20, 21, 22, 23, 24, 25, 26, 27, 28, 29, 30, 31, 32, 33, 34, 35, 36, 37, 38, 39, 40, 41, 42, 43, 44, 45, 46, 47, 48, 49, 50, 51, 52, 53, 54, 55, 56, 57, 58, 59, 60, 61, 62, 63, 64, 65, 66, 67, 68, 69, 70, 71, 72] (fun vi L => ∃ (i : Nat) (Q1 : Option Addr) (q1 : Nat), vi = [.slice Q1 (refS (okS kind base most hs ms) i).length q1, .int .i64 (i : Int)] ∧ L = [K.row (.slice A1 EV.length c1) 27 2 EV.length (EV.flatMap K.eP), K.row (.slice Q1 (refS (okS kind base most hs ms) i).length q1) 27 2 (refS (okS kind base most hs ms) i).length ((refS (okS kind base most hs ms) i).flatMap K.eP), K.blk b2 25 [.int .i64 kind, .int .i64 base, .int .i64 most, .slice A hs.length c, .slice B rs.length d]] ∧ i ≤ EV.length) (fun vi => EV.length - (intOf (K.nth vi 1)).toNat) ?_ ?_
  · exact ⟨0, none, 0, rfl, rfl, Nat.zero_le _⟩
  intro vi vr L hJ
  obtain ⟨i, Q1, q1, rfl, rfl, hin⟩ := hJ
  have hlen := refS_len (ok := (okS kind base most hs ms)) i
  have hevl := ev_len
  try dsimp only [setd, setn, ev, nth, over, cl, eI, eP, eT, setM, setF, List.map, List.append, List.drop, List.take]
  refine K.seq ?_
  refine K.seq ?_
  refine K.use_rowc K.m1 (fun hQ1 hc1 => ?_)
  refine K.region_lit ?_
  refine K.seq_pure (K.move) rfl ?_
  dsimp only [setd, setn, ev, nth]
  refine K.seq_pure (K.move) rfl ?_
  dsimp only [setd, setn, ev, nth]
  refine K.seq_pure (K.len_sl sl_42 rfl) rfl ?_
  dsimp only [setd, setn, ev, nth]
  refine K.seq_pure (K.lss rfl rfl) rfl ?_
  dsimp only [setd, setn, ev, nth]
  refine K.seq_nil ?_
  refine K.norm_then ?_
  refine K.cond rfl (fun ht21 => ?_) (fun ht21 => ?_)
  · try replace ht21 := of_decide_eq_true ht21
    have hi : i < EV.length := by omega
    have hpx := ev_parts hi
    refine K.skip ?_
    refine K.norm_then ?_
    refine K.seq ?_
    refine K.block ?_
    refine K.seq ?_
    refine K.seq ?_
    refine K.draw_L [] Try_mixed ?_
    refine K.d_mem 0 rfl (K.loadA_own ag_25 rfl (K.m2) rfl) (fun _ h => h) (by kernel_rfl) (by kernel_rfl) rfl ?_
    try dsimp only [setd, setn, ev, nth, over, cl, eI, eP, eT, List.map, List.append, List.drop, List.take]
    refine K.d_pure 1 rfl (K.move) (by kernel_rfl) rfl ?_
    dsimp only [setd, setn, ev, nth]
    refine K.d_pure 2 rfl (K.move) (by kernel_rfl) rfl ?_
    dsimp only [setd, setn, ev, nth]
    refine K.d_ix (M := [_]) 3 _ rfl (K.Sl.own (t := 27) (c := c1) (size := 2) (e := K.eP) hA1 (fun _ => rfl)) sl_42 rfl rfl rfl (by omega) (by kernel_rfl) rfl ?_
    intro p27 hp27
    try dsimp only [setd, setn, ev, nth, over, cl, eI, eP, eT, List.map, List.append, List.drop, List.take]
    refine K.d_mem 4 rfl (K.loadA_p ag_27 rfl (hp27.at1 (K.m0)) rfl) (fun _ h => h) (by kernel_rfl) (by kernel_rfl) rfl ?_
    try dsimp only [setd, setn, ev, nth, over, cl, eI, eP, eT, List.map, List.append, List.drop, List.take]
    refine K.d_pure 5 rfl (K.move) (by kernel_rfl) rfl ?_
    dsimp only [setd, setn, ev, nth]
    refine K.d_call 6 rfl (K.call_g cal_47 (fun F w hF hw => c47 (u := (EV.getD i default).1) (v := (EV.getD i default).2) (ms := ms) (hH.pass hw) (hR.pass hw) g hpx (hM.pass hw) hml hpt)) (fun _ h => h) (by kernel_rfl) rfl ?_
    try dsimp only [setd, setn, ev, nth, over, cl, eI, eP, eT, List.map, List.append, List.drop, List.take]
    refine K.d_pure 7 rfl (K.not_ rfl) (by kernel_rfl) rfl ?_
    dsimp only [setd, setn, ev, nth]
    refine K.d_pure 8 rfl (K.move) (by kernel_rfl) rfl ?_
    dsimp only [setd, setn, ev, nth]
    refine K.dsplit 32 rfl (fun hg32 => ?_) (fun hg32 => ?_)
    · try replace hg32 := of_decide_eq_true hg32
      have hok : (okS kind base most hs ms) (EV.getD i default) = false := okS_f1 (by simpa using hg32)
      refine K.d_skip 9 rfl (by kernel_rfl) rfl ?_
      try dsimp only [setd, setn, ev, nth, over, cl, eI, eP, eT, List.map, List.append, List.drop, List.take]
      refine K.d_skip 10 rfl (by kernel_rfl) rfl ?_
      try dsimp only [setd, setn, ev, nth, over, cl, eI, eP, eT, List.map, List.append, List.drop, List.take]
      refine K.d_skip 11 rfl (by kernel_rfl) rfl ?_
      try dsimp only [setd, setn, ev, nth, over, cl, eI, eP, eT, List.map, List.append, List.drop, List.take]
      refine K.d_skip 12 rfl (by kernel_rfl) rfl ?_
      try dsimp only [setd, setn, ev, nth, over, cl, eI, eP, eT, List.map, List.append, List.drop, List.take]
      refine K.d_skip 13 rfl (by kernel_rfl) rfl ?_
      try dsimp only [setd, setn, ev, nth, over, cl, eI, eP, eT, List.map, List.append, List.drop, List.take]
      refine K.d_skip 14 rfl (by kernel_rfl) rfl ?_
      try dsimp only [setd, setn, ev, nth, over, cl, eI, eP, eT, List.map, List.append, List.drop, List.take]
      refine K.d_skip 15 rfl (by kernel_rfl) rfl ?_
      try dsimp only [setd, setn, ev, nth, over, cl, eI, eP, eT, List.map, List.append, List.drop, List.take]
      refine K.d_pure 16 rfl (K.pick_t rfl) (by kernel_rfl) rfl ?_
      dsimp only [setd, setn, ev, nth]
      refine K.d_done (by kernel_rfl) ?_
      refine K.norm_then ?_
      refine K.cond_true rfl ?_
      refine K.exit ?_
      refine K.exit_then ?_
      refine K.exit_here ?_
      refine K.norm_then ?_
      refine K.region_lit ?_
      refine K.seq_pure (K.move) rfl ?_
      dsimp only [setd, setn, ev, nth]
      refine K.seq_pure (K.add_i64 rfl rfl (by omega)) rfl ?_
      dsimp only [setd, setn, ev, nth]
      refine K.seq_pure (K.assign) rfl ?_
      dsimp only [setd, setn, ev, nth]
      refine K.seq_nil ?_
      exact K.round_endW (L'' := [K.row (.slice A1 EV.length c1) 27 2 EV.length (EV.flatMap K.eP), K.row (.slice Q1 (refS (okS kind base most hs ms) i).length q1) 27 2 (refS (okS kind base most hs ms) i).length ((refS (okS kind base most hs ms) i).flatMap K.eP), K.blk b2 25 [.int .i64 kind, .int .i64 base, .int .i64 most, .slice A hs.length c, .slice B rs.length d]]) [.slice Q1 (refS (okS kind base most hs ms) i).length q1, .int .i64 ((i : Int) + 1)] ⟨i + 1, Q1, q1, by rw [refS_f hok]; rfl, by rw [refS_f hok], by omega⟩ (by simp [K.nth, intOf]; omega) (by (repeat (first | exact List.Sublist.refl _ | apply List.Sublist.cons)); done) (by kernel_rfl)
    try replace hg32 := of_decide_eq_false hg32
    have ha : ms.any (missP (cuts kind base (EV.getD i default).1 (EV.getD i default).2 hs)) = false := by simpa using hg32
    refine K.d_mem 9 rfl (K.loadA_own ag_25 rfl (K.m2) rfl) (fun _ h => h) (by kernel_rfl) (by kernel_rfl) rfl ?_
    try dsimp only [setd, setn, ev, nth, over, cl, eI, eP, eT, List.map, List.append, List.drop, List.take]
    refine K.d_pure 10 rfl (K.move) (by kernel_rfl) rfl ?_
    dsimp only [setd, setn, ev, nth]
    refine K.d_pure 11 rfl (K.move) (by kernel_rfl) rfl ?_
    dsimp only [setd, setn, ev, nth]
    refine K.d_ix (M := [_]) 12 _ rfl (K.Sl.own (t := 27) (c := c1) (size := 2) (e := K.eP) hA1 (fun _ => rfl)) sl_42 rfl rfl rfl (by omega) (by kernel_rfl) rfl ?_
    intro p36 hp36
    try dsimp only [setd, setn, ev, nth, over, cl, eI, eP, eT, List.map, List.append, List.drop, List.take]
    refine K.d_mem 13 rfl (K.loadA_p ag_27 rfl (hp36.at1 (K.m0)) rfl) (fun _ h => h) (by kernel_rfl) (by kernel_rfl) rfl ?_
    try dsimp only [setd, setn, ev, nth, over, cl, eI, eP, eT, List.map, List.append, List.drop, List.take]
    refine K.d_call 14 rfl (K.call_g cal_46 (fun F w hF hw => c46 (u := (EV.getD i default).1) (v := (EV.getD i default).2) (hH.pass hw) (hR.pass hw) g hpx)) (fun _ h => h) (by kernel_rfl) rfl ?_
    try dsimp only [setd, setn, ev, nth, over, cl, eI, eP, eT, List.map, List.append, List.drop, List.take]
    refine K.d_pure 15 rfl (K.not_ rfl) (by kernel_rfl) rfl ?_
    dsimp only [setd, setn, ev, nth]
    refine K.d_pure 16 rfl (K.pick_f rfl) (by kernel_rfl) rfl ?_
    dsimp only [setd, setn, ev, nth]
    refine K.d_done (by kernel_rfl) ?_
    refine K.norm_then ?_
    refine K.cond rfl (fun ht40 => ?_) (fun ht40 => ?_)
    · try replace ht40 := of_decide_eq_true ht40
      have hok : (okS kind base most hs ms) (EV.getD i default) = false := okS_f2 (by simpa using ht40)
      refine K.exit ?_
      refine K.exit_then ?_
      refine K.exit_here ?_
      refine K.norm_then ?_
      refine K.region_lit ?_
      refine K.seq_pure (K.move) rfl ?_
      dsimp only [setd, setn, ev, nth]
      refine K.seq_pure (K.add_i64 rfl rfl (by omega)) rfl ?_
      dsimp only [setd, setn, ev, nth]
      refine K.seq_pure (K.assign) rfl ?_
      dsimp only [setd, setn, ev, nth]
      refine K.seq_nil ?_
      exact K.round_endW (L'' := [K.row (.slice A1 EV.length c1) 27 2 EV.length (EV.flatMap K.eP), K.row (.slice Q1 (refS (okS kind base most hs ms) i).length q1) 27 2 (refS (okS kind base most hs ms) i).length ((refS (okS kind base most hs ms) i).flatMap K.eP), K.blk b2 25 [.int .i64 kind, .int .i64 base, .int .i64 most, .slice A hs.length c, .slice B rs.length d]]) [.slice Q1 (refS (okS kind base most hs ms) i).length q1, .int .i64 ((i : Int) + 1)] ⟨i + 1, Q1, q1, by rw [refS_f hok]; rfl, by rw [refS_f hok], by omega⟩ (by simp [K.nth, intOf]; omega) (by (repeat (first | exact List.Sublist.refl _ | apply List.Sublist.cons)); done) (by kernel_rfl)
    try replace ht40 := of_decide_eq_false ht40
    have hok : (okS kind base most hs ms) (EV.getD i default) = true := okS_t ha (by simpa using ht40)
    refine K.skip ?_
    refine K.norm_then ?_
    refine K.seq ?_
    refine K.region_lit ?_
    refine K.seq_pure (K.assign) rfl ?_
    dsimp only [setd, setn, ev, nth]
    refine K.seq_nil ?_
    refine K.norm_then ?_
    refine K.seqJ [10] [41, 42, 43, 44, 45, 46, 47, 48, 49, 50, 51, 52, 53, 54, 55, 56, 57] (fun vi L => vi = [.int .i64 ((insAt (refS (okS kind base most hs ms) i) (EV.getD i default)) : Nat)] ∧ L = [K.row (.slice A1 EV.length c1) 27 2 EV.length (EV.flatMap K.eP), K.row (.slice Q1 (refS (okS kind base most hs ms) i).length q1) 27 2 (refS (okS kind base most hs ms) i).length ((refS (okS kind base most hs ms) i).flatMap K.eP), K.blk b2 25 [.int .i64 kind, .int .i64 base, .int .i64 most, .slice A hs.length c, .slice B rs.length d]]) ?_ ?_
    · refine K.block ?_
      refine K.loopW [10] [41, 42, 43, 44, 45, 46, 47, 48, 49, 50, 51, 52, 53, 54, 55, 56, 57] (fun vi L => ∃ j : Nat, vi = [.int .i64 (j : Int)] ∧ L = [K.row (.slice A1 EV.length c1) 27 2 EV.length (EV.flatMap K.eP), K.row (.slice Q1 (refS (okS kind base most hs ms) i).length q1) 27 2 (refS (okS kind base most hs ms) i).length ((refS (okS kind base most hs ms) i).flatMap K.eP), K.blk b2 25 [.int .i64 kind, .int .i64 base, .int .i64 most, .slice A hs.length c, .slice B rs.length d]] ∧ j ≤ (refS (okS kind base most hs ms) i).length ∧ ∀ m, m < j → lessP ((refS (okS kind base most hs ms) i).getD m default) (EV.getD i default) = true) (fun vi => (refS (okS kind base most hs ms) i).length - (intOf (K.nth vi 0)).toNat) ?_ ?_
      · exact ⟨0, rfl, rfl, Nat.zero_le _, fun m hm => absurd hm (Nat.not_lt_zero m)⟩
      intro vi vr L hJ
      obtain ⟨j, rfl, rfl, hjn, hall⟩ := hJ
      try dsimp only [setd, setn, ev, nth, over, cl, eI, eP, eT, setM, setF, List.map, List.append, List.drop, List.take]
      refine K.seq ?_
      refine K.seq ?_
      refine K.draw_L [] Try_mixed ?_
      refine K.d_pure 0 rfl (K.move) (by kernel_rfl) rfl ?_
      dsimp only [setd, setn, ev, nth]
      refine K.d_pure 1 rfl (K.move) (by kernel_rfl) rfl ?_
      dsimp only [setd, setn, ev, nth]
      refine K.d_pure 2 rfl (K.len_sl sl_42 rfl) (by kernel_rfl) rfl ?_
      dsimp only [setd, setn, ev, nth]
      refine K.d_pure 3 rfl (K.lss rfl rfl) (by kernel_rfl) rfl ?_
      dsimp only [setd, setn, ev, nth]
      refine K.d_pure 4 rfl (K.move) (by kernel_rfl) rfl ?_
      dsimp only [setd, setn, ev, nth]
      refine K.dsplit 45 rfl (fun hg45 => ?_) (fun hg45 => ?_)
      · try replace hg45 := of_decide_eq_true hg45
        have hj : j < (refS (okS kind base most hs ms) i).length := by omega
        have hpj := sb_mem_parts (ev_sb.1 (refS_mem (by omega) (K.gt_mem hj)))
        refine K.d_pure 5 rfl (K.move) (by kernel_rfl) rfl ?_
        dsimp only [setd, setn, ev, nth]
        refine K.d_pure 6 rfl (K.move) (by kernel_rfl) rfl ?_
        dsimp only [setd, setn, ev, nth]
        refine K.d_ix (M := [_]) 7 _ rfl (K.Sl.own (t := 27) (c := q1) (size := 2) (e := K.eP) hQ1 (fun _ => rfl)) sl_42 rfl rfl rfl (by omega) (by kernel_rfl) rfl ?_
        intro p48 hp48
        try dsimp only [setd, setn, ev, nth, over, cl, eI, eP, eT, List.map, List.append, List.drop, List.take]
        refine K.d_mem 8 rfl (K.loadA_p ag_27 rfl (hp48.at1 (K.m1)) rfl) (fun _ h => h) (by kernel_rfl) (by kernel_rfl) rfl ?_
        try dsimp only [setd, setn, ev, nth, over, cl, eI, eP, eT, List.map, List.append, List.drop, List.take]
        refine K.d_pure 9 rfl (K.move) (by kernel_rfl) rfl ?_
        dsimp only [setd, setn, ev, nth]
        refine K.d_pure 10 rfl (K.move) (by kernel_rfl) rfl ?_
        dsimp only [setd, setn, ev, nth]
        refine K.d_ix (M := [_]) 11 _ rfl (K.Sl.own (t := 27) (c := c1) (size := 2) (e := K.eP) hA1 (fun _ => rfl)) sl_42 rfl rfl rfl (by omega) (by kernel_rfl) rfl ?_
        intro p52 hp52
        try dsimp only [setd, setn, ev, nth, over, cl, eI, eP, eT, List.map, List.append, List.drop, List.take]
        refine K.d_mem 12 rfl (K.loadA_p ag_27 rfl (hp52.at1 (K.m0)) rfl) (fun _ h => h) (by kernel_rfl) (by kernel_rfl) rfl ?_
        try dsimp only [setd, setn, ev, nth, over, cl, eI, eP, eT, List.map, List.append, List.drop, List.take]
        refine K.d_call 13 rfl (K.call_g cal_43 (fun F w hF hw => c43 (a := ((refS (okS kind base most hs ms) i).getD j default).1) (b := ((refS (okS kind base most hs ms) i).getD j default).2) (c := (EV.getD i default).1) (d := (EV.getD i default).2) (by omega) (by omega) (by omega) (by omega) (by omega) (by omega) (by omega) (by omega) w)) (fun _ h => h) (by kernel_rfl) rfl ?_
        try dsimp only [setd, setn, ev, nth, over, cl, eI, eP, eT, List.map, List.append, List.drop, List.take]
        refine K.d_pure 14 rfl (K.pick_t rfl) (by kernel_rfl) rfl ?_
        dsimp only [setd, setn, ev, nth]
        refine K.d_done (by kernel_rfl) ?_
        refine K.norm_then ?_
        refine K.cond rfl (fun ht55 => ?_) (fun ht55 => ?_)
        · try replace ht55 := of_decide_eq_true ht55
          refine K.skip ?_
          refine K.norm_then ?_
          refine K.block ?_
          refine K.region_lit ?_
          refine K.seq_pure (K.move) rfl ?_
          dsimp only [setd, setn, ev, nth]
          refine K.seq_pure (K.add_i64 rfl rfl (by omega)) rfl ?_
          dsimp only [setd, setn, ev, nth]
          refine K.seq_pure (K.assign) rfl ?_
          dsimp only [setd, setn, ev, nth]
          refine K.seq_nil ?_
          refine K.norm_block ?_
          exact K.round_endW (L'' := [K.row (.slice A1 EV.length c1) 27 2 EV.length (EV.flatMap K.eP), K.row (.slice Q1 (refS (okS kind base most hs ms) i).length q1) 27 2 (refS (okS kind base most hs ms) i).length ((refS (okS kind base most hs ms) i).flatMap K.eP), K.blk b2 25 [.int .i64 kind, .int .i64 base, .int .i64 most, .slice A hs.length c, .slice B rs.length d]]) [.int .i64 ((j : Int) + 1)] ⟨j + 1, rfl, rfl, by omega, K.lt_succ_case hall (decide_eq_true ht55)⟩ (by simp [K.nth, intOf]; omega) (by (repeat (first | exact List.Sublist.refl _ | apply List.Sublist.cons)); done) (by kernel_rfl)
        try replace ht55 := of_decide_eq_false ht55
        refine K.exit ?_
        refine K.exit_then ?_
        refine K.exit_then ?_
        refine K.exit_here ?_
        have hja : j = (insAt (refS (okS kind base most hs ms) i) (EV.getD i default)) := insAt_stop hjn hall (.inr (decide_eq_false ht55))
        exact K.join_here (L' := [K.row (.slice A1 EV.length c1) 27 2 EV.length (EV.flatMap K.eP), K.row (.slice Q1 (refS (okS kind base most hs ms) i).length q1) 27 2 (refS (okS kind base most hs ms) i).length ((refS (okS kind base most hs ms) i).flatMap K.eP), K.blk b2 25 [.int .i64 kind, .int .i64 base, .int .i64 most, .slice A hs.length c, .slice B rs.length d]]) [.int .i64 ((insAt (refS (okS kind base most hs ms) i) (EV.getD i default)) : Nat)] ⟨rfl, rfl⟩ (fun w h => h) (by rw [← hja]; kernel_rfl)
      try replace hg45 := of_decide_eq_false hg45
      refine K.d_skip 5 rfl (by kernel_rfl) rfl ?_
      try dsimp only [setd, setn, ev, nth, over, cl, eI, eP, eT, List.map, List.append, List.drop, List.take]
      refine K.d_skip 6 rfl (by kernel_rfl) rfl ?_
      try dsimp only [setd, setn, ev, nth, over, cl, eI, eP, eT, List.map, List.append, List.drop, List.take]
      refine K.d_skip 7 rfl (by kernel_rfl) rfl ?_
      try dsimp only [setd, setn, ev, nth, over, cl, eI, eP, eT, List.map, List.append, List.drop, List.take]
      refine K.d_skip 8 rfl (by kernel_rfl) rfl ?_
      try dsimp only [setd, setn, ev, nth, over, cl, eI, eP, eT, List.map, List.append, List.drop, List.take]
      refine K.d_skip 9 rfl (by kernel_rfl) rfl ?_
      try dsimp only [setd, setn, ev, nth, over, cl, eI, eP, eT, List.map, List.append, List.drop, List.take]
      refine K.d_skip 10 rfl (by kernel_rfl) rfl ?_
      try dsimp only [setd, setn, ev, nth, over, cl, eI, eP, eT, List.map, List.append, List.drop, List.take]
      refine K.d_skip 11 rfl (by kernel_rfl) rfl ?_
      try dsimp only [setd, setn, ev, nth, over, cl, eI, eP, eT, List.map, List.append, List.drop, List.take]
      refine K.d_skip 12 rfl (by kernel_rfl) rfl ?_
      try dsimp only [setd, setn, ev, nth, over, cl, eI, eP, eT, List.map, List.append, List.drop, List.take]
      refine K.d_skip 13 rfl (by kernel_rfl) rfl ?_
      try dsimp only [setd, setn, ev, nth, over, cl, eI, eP, eT, List.map, List.append, List.drop, List.take]
      refine K.d_pure 14 rfl (K.pick_f rfl) (by kernel_rfl) rfl ?_
      dsimp only [setd, setn, ev, nth]
      refine K.d_done (by kernel_rfl) ?_
      refine K.norm_then ?_
      refine K.cond_false rfl ?_
      refine K.exit ?_
      refine K.exit_then ?_
      refine K.exit_then ?_
      refine K.exit_here ?_
      have hja : j = (insAt (refS (okS kind base most hs ms) i) (EV.getD i default)) := insAt_stop hjn hall (.inl (by omega))
      exact K.join_here (L' := [K.row (.slice A1 EV.length c1) 27 2 EV.length (EV.flatMap K.eP), K.row (.slice Q1 (refS (okS kind base most hs ms) i).length q1) 27 2 (refS (okS kind base most hs ms) i).length ((refS (okS kind base most hs ms) i).flatMap K.eP), K.blk b2 25 [.int .i64 kind, .int .i64 base, .int .i64 most, .slice A hs.length c, .slice B rs.length d]]) [.int .i64 ((insAt (refS (okS kind base most hs ms) i) (EV.getD i default)) : Nat)] ⟨rfl, rfl⟩ (fun w h => h) (by rw [← hja]; kernel_rfl)
    intro vi vr L hJ
    obtain ⟨rfl, rfl⟩ := hJ
    try dsimp only [setd, setn, ev, nth, over, cl, eI, eP, eT, setM, setF, List.map, List.append, List.drop, List.take]
    refine K.joinW [7] [58, 59, 60, 61, 62, 63, 64, 65, 66, 67, 68, 69, 70, 71, 72] (fun vi L => ∃ (Q2 : Option Addr) (n2 q2 : Nat) (ys2 : List Value), vi = [.slice Q2 n2 q2] ∧ L = [K.row (.slice A1 EV.length c1) 27 2 EV.length (EV.flatMap K.eP), K.row (.slice Q2 n2 q2) 27 2 n2 ys2, K.blk b2 25 [.int .i64 kind, .int .i64 base, .int .i64 most, .slice A hs.length c, .slice B rs.length d]] ∧ n2 = (insS (refS (okS kind base most hs ms) i) (EV.getD i default)).length ∧ ys2 = (insS (refS (okS kind base most hs ms) i) (EV.getD i default)).flatMap K.eP) ?_ ?_
    · have hle := @insAt_le (refS (okS kind base most hs ms) i) (EV.getD i default)
      have hlen := refS_len (ok := (okS kind base most hs ms)) i
      have hevl := ev_len
      have hlt : ((refS (okS kind base most hs ms) i).take (insAt (refS (okS kind base most hs ms) i) (EV.getD i default))).length = (insAt (refS (okS kind base most hs ms) i) (EV.getD i default)) := by rw [List.length_take]; omega
      have hld : ((refS (okS kind base most hs ms) i).drop (insAt (refS (okS kind base most hs ms) i) (EV.getD i default))).length = (refS (okS kind base most hs ms) i).length - (insAt (refS (okS kind base most hs ms) i) (EV.getD i default)) := List.length_drop
      refine K.draw_L [] Try_mixed ?_
      refine K.d_pure 1 rfl (K.move) (by kernel_rfl) rfl ?_
      dsimp only [setd, setn, ev, nth]
      refine K.d_pure 2 rfl (K.move) (by kernel_rfl) rfl ?_
      dsimp only [setd, setn, ev, nth]
      refine K.d_pure 3 rfl (K.Pure.eq (K.slice_hi (insAt (refS (okS kind base most hs ms) i) (EV.getD i default)) sl_42 rfl rfl rfl (by omega)) (show _ = Value.slice Q1 ((refS (okS kind base most hs ms) i).take (insAt (refS (okS kind base most hs ms) i) (EV.getD i default))).length q1 from by rw [hlt])) (by kernel_rfl) rfl ?_
      try dsimp only [setd, setn, ev, nth, over, cl, eI, eP, eT, List.map, List.append, List.drop, List.take]
      refine K.d_pure 5 rfl (K.move) (by kernel_rfl) rfl ?_
      dsimp only [setd, setn, ev, nth]
      refine K.d_pure 6 rfl (K.move) (by kernel_rfl) rfl ?_
      dsimp only [setd, setn, ev, nth]
      refine K.d_ix (M := [_]) 7 _ rfl (K.Sl.own (t := 27) (c := c1) (size := 2) (e := K.eP) hA1 (fun _ => rfl)) sl_42 rfl rfl rfl (by omega) (by kernel_rfl) rfl ?_
      intro p65 hp65
      try dsimp only [setd, setn, ev, nth, over, cl, eI, eP, eT, List.map, List.append, List.drop, List.take]
      refine K.d_mem 8 rfl (K.loadA_p ag_27 rfl (hp65.at1 (K.m0)) rfl) (fun _ h => h) (by kernel_rfl) (by kernel_rfl) rfl ?_
      try dsimp only [setd, setn, ev, nth, over, cl, eI, eP, eT, List.map, List.append, List.drop, List.take]
      refine K.d_pure 11 rfl (K.move) (by kernel_rfl) rfl ?_
      dsimp only [setd, setn, ev, nth]
      refine K.d_pure 12 rfl (K.move) (by kernel_rfl) rfl ?_
      dsimp only [setd, setn, ev, nth]
      refine K.d_slo 13 (insAt (refS (okS kind base most hs ms) i) (EV.getD i default)) rfl (K.Sl.own (w0 := w) (t := 27) (c := q1) (size := 2) (e := K.eP) hQ1 (fun _ => rfl)) sl_42 rfl rfl rfl hle hc1 (by kernel_rfl) rfl ?_
      intro B71 hS71
      try dsimp only [setd, setn, ev, nth, over, cl, eI, eP, eT, List.map, List.append, List.drop, List.take]
      try dsimp only [setd, setn, ev, nth, over, cl, eI, eP, eT, List.map, List.append, List.drop, List.take]
      refine K.d_two 0 9 (by kernel_rfl) ?_ ?_
      · refine K.s_new 0 rfl (K.buildSlice (bs42_0)) (fun _ h => h) (by kernel_rfl) rfl ?_
        intro b58
        try dsimp only [setd, setn, ev, nth, over, cl, eI, eP, eT, List.map, List.append, List.drop, List.take]
        refine K.d_blk_row0 (size := 2) ?_
        try dsimp only [setd, setn, ev, nth, over, cl, eI, eP, eT, List.map, List.append, List.drop, List.take]
        refine K.d_two 4 9 (by kernel_rfl) ?_ ?_
        · refine K.s_upd 4 rfl (K.appendS el_42 rfl rfl ((((K.Sl.own (w0 := w) (t := 27) (c := q1) (size := 2) (e := K.eP) hQ1 (fun _ => rfl))).take (insAt (refS (okS kind base most hs ms) i) (EV.getD i default))).at1 (K.m2)) (fun _ => rfl) (K.oneP _) (by omega) (by omega) (fun _ _ => K.rp0)) (fun _ => fun _ h => K.tl h) (by kernel_rfl) rfl ?_
          rintro ⟨A62, c62⟩ _
          try dsimp only [setd, setn, ev, nth, over, cl, eI, eP, eT, List.map, List.append, List.drop, List.take]
          refine K.d_new 9 rfl (K.buildSlice (bs27 _ _)) (fun _ h => K.tl h) (by kernel_rfl) rfl ?_
          intro b67
          try dsimp only [setd, setn, ev, nth, over, cl, eI, eP, eT, List.map, List.append, List.drop, List.take]
          refine K.d_upd 10 rfl (K.append el_42 rfl rfl (K.PtrL.own' (K.m0)) rfl rfl (by decide) (by omega) (by omega) (fun _ _ => K.rp1)) (fun _ => fun _ h => K.tl (K.tl h)) (by kernel_rfl) rfl ?_
          rintro ⟨g68, c68⟩ _
          try dsimp only [setd, setn, ev, nth, over, cl, eI, eP, eT, List.map, List.append, List.drop, List.take]
          refine K.d_upd 14 rfl (K.appendS el_42 rfl rfl (hS71.at1 (K.m3)) (fun _ => rfl) (K.oneP _) (by omega) (by omega) (fun _ _ => K.rp1)) (fun _ => fun _ h => K.tl (K.tl h)) (by kernel_rfl) rfl ?_
          rintro ⟨A72, c72⟩ _
          try dsimp only [setd, setn, ev, nth, over, cl, eI, eP, eT, List.map, List.append, List.drop, List.take]
          refine K.d_pure 15 rfl (K.assign) (by kernel_rfl) rfl ?_
          dsimp only [setd, setn, ev, nth]
          refine K.d_done (by kernel_rfl) ?_
          exact K.join_here (L' := [K.row (.slice A1 EV.length c1) 27 2 EV.length (EV.flatMap K.eP), K.row (.slice A72 (0 + ((refS (okS kind base most hs ms) i).take (insAt (refS (okS kind base most hs ms) i) (EV.getD i default))).length + 1 + ((refS (okS kind base most hs ms) i).drop (insAt (refS (okS kind base most hs ms) i) (EV.getD i default))).length) c72) 27 2 (0 + ((refS (okS kind base most hs ms) i).take (insAt (refS (okS kind base most hs ms) i) (EV.getD i default))).length + 1 + ((refS (okS kind base most hs ms) i).drop (insAt (refS (okS kind base most hs ms) i) (EV.getD i default))).length) ([] ++ ((refS (okS kind base most hs ms) i).take (insAt (refS (okS kind base most hs ms) i) (EV.getD i default))).flatMap K.eP ++ [.int .i64 (EV.getD i default).1, .int .i64 (EV.getD i default).2] ++ ((refS (okS kind base most hs ms) i).drop (insAt (refS (okS kind base most hs ms) i) (EV.getD i default))).flatMap K.eP), K.blk b2 25 [.int .i64 kind, .int .i64 base, .int .i64 most, .slice A hs.length c, .slice B rs.length d]]) [.slice A72 (0 + ((refS (okS kind base most hs ms) i).take (insAt (refS (okS kind base most hs ms) i) (EV.getD i default))).length + 1 + ((refS (okS kind base most hs ms) i).drop (insAt (refS (okS kind base most hs ms) i) (EV.getD i default))).length) c72] ⟨A72, _, c72, _, rfl, rfl, by unfold insS; simp only [List.length_append, List.length_cons, List.length_nil]; omega, by unfold insS; simp only [List.flatMap_append, List.nil_append]; rfl⟩ (fun w h => K.st_swap w (K.st_sub (List.Sublist.cons _ (List.Sublist.cons_cons _ (List.Sublist.cons_cons _ (List.Sublist.cons _ (List.Sublist.cons_cons _ (List.nil_sublist _)))))) w h)) (by kernel_rfl)
        refine K.s_new 9 rfl (K.buildSlice (bs27 _ _)) (fun _ h => K.tl h) (by kernel_rfl) rfl ?_
        intro b67
        try dsimp only [setd, setn, ev, nth, over, cl, eI, eP, eT, List.map, List.append, List.drop, List.take]
        refine K.d_upd 4 rfl (K.appendS el_42 rfl rfl ((((K.Sl.own (w0 := w) (t := 27) (c := q1) (size := 2) (e := K.eP) hQ1 (fun _ => rfl))).take (insAt (refS (okS kind base most hs ms) i) (EV.getD i default))).at1 (K.m3)) (fun _ => rfl) (K.oneP _) (by omega) (by omega) (fun _ _ => K.rp1)) (fun _ => fun _ h => K.tl (K.tl h)) (by kernel_rfl) rfl ?_
        rintro ⟨A62, c62⟩ _
        try dsimp only [setd, setn, ev, nth, over, cl, eI, eP, eT, List.map, List.append, List.drop, List.take]
        refine K.d_upd 10 rfl (K.append el_42 rfl rfl (K.PtrL.own' (K.m0)) rfl rfl (by decide) (by omega) (by omega) (fun _ _ => K.rp1)) (fun _ => fun _ h => K.tl (K.tl h)) (by kernel_rfl) rfl ?_
        rintro ⟨g68, c68⟩ _
        try dsimp only [setd, setn, ev, nth, over, cl, eI, eP, eT, List.map, List.append, List.drop, List.take]
        refine K.d_upd 14 rfl (K.appendS el_42 rfl rfl (hS71.at1 (K.m3)) (fun _ => rfl) (K.oneP _) (by omega) (by omega) (fun _ _ => K.rp1)) (fun _ => fun _ h => K.tl (K.tl h)) (by kernel_rfl) rfl ?_
        rintro ⟨A72, c72⟩ _
        try dsimp only [setd, setn, ev, nth, over, cl, eI, eP, eT, List.map, List.append, List.drop, List.take]
        refine K.d_pure 15 rfl (K.assign) (by kernel_rfl) rfl ?_
        dsimp only [setd, setn, ev, nth]
        refine K.d_done (by kernel_rfl) ?_
        exact K.join_here (L' := [K.row (.slice A1 EV.length c1) 27 2 EV.length (EV.flatMap K.eP), K.row (.slice A72 (0 + ((refS (okS kind base most hs ms) i).take (insAt (refS (okS kind base most hs ms) i) (EV.getD i default))).length + 1 + ((refS (okS kind base most hs ms) i).drop (insAt (refS (okS kind base most hs ms) i) (EV.getD i default))).length) c72) 27 2 (0 + ((refS (okS kind base most hs ms) i).take (insAt (refS (okS kind base most hs ms) i) (EV.getD i default))).length + 1 + ((refS (okS kind base most hs ms) i).drop (insAt (refS (okS kind base most hs ms) i) (EV.getD i default))).length) ([] ++ ((refS (okS kind base most hs ms) i).take (insAt (refS (okS kind base most hs ms) i) (EV.getD i default))).flatMap K.eP ++ [.int .i64 (EV.getD i default).1, .int .i64 (EV.getD i default).2] ++ ((refS (okS kind base most hs ms) i).drop (insAt (refS (okS kind base most hs ms) i) (EV.getD i default))).flatMap K.eP), K.blk b2 25 [.int .i64 kind, .int .i64 base, .int .i64 most, .slice A hs.length c, .slice B rs.length d]]) [.slice A72 (0 + ((refS (okS kind base most hs ms) i).take (insAt (refS (okS kind base most hs ms) i) (EV.getD i default))).length + 1 + ((refS (okS kind base most hs ms) i).drop (insAt (refS (okS kind base most hs ms) i) (EV.getD i default))).length) c72] ⟨A72, _, c72, _, rfl, rfl, by unfold insS; simp only [List.length_append, List.length_cons, List.length_nil]; omega, by unfold insS; simp only [List.flatMap_append, List.nil_append]; rfl⟩ (fun w h => K.st_swap w (K.st_sub (List.Sublist.cons _ (List.Sublist.cons_cons _ (List.Sublist.cons_cons _ (List.Sublist.cons _ (List.Sublist.cons_cons _ (List.nil_sublist _)))))) w h)) (by kernel_rfl)
      refine K.s_new 9 rfl (K.buildSlice (bs27 _ _)) (fun _ h => h) (by kernel_rfl) rfl ?_
      intro b67
      try dsimp only [setd, setn, ev, nth, over, cl, eI, eP, eT, List.map, List.append, List.drop, List.take]
      refine K.d_new 0 rfl (K.buildSlice (bs42_0)) (fun _ h => K.tl h) (by kernel_rfl) rfl ?_
      intro b58
      try dsimp only [setd, setn, ev, nth, over, cl, eI, eP, eT, List.map, List.append, List.drop, List.take]
      refine K.d_blk_row0 (size := 2) ?_
      try dsimp only [setd, setn, ev, nth, over, cl, eI, eP, eT, List.map, List.append, List.drop, List.take]
      refine K.d_upd 4 rfl (K.appendS el_42 rfl rfl ((((K.Sl.own (w0 := w) (t := 27) (c := q1) (size := 2) (e := K.eP) hQ1 (fun _ => rfl))).take (insAt (refS (okS kind base most hs ms) i) (EV.getD i default))).at1 (K.m3)) (fun _ => rfl) (K.oneP _) (by omega) (by omega) (fun _ _ => K.rp0)) (fun _ => fun _ h => K.tl (K.tl h)) (by kernel_rfl) rfl ?_
      rintro ⟨A62, c62⟩ _
      try dsimp only [setd, setn, ev, nth, over, cl, eI, eP, eT, List.map, List.append, List.drop, List.take]
      refine K.d_upd 10 rfl (K.append el_42 rfl rfl (K.PtrL.own' (K.m1)) rfl rfl (by decide) (by omega) (by omega) (fun _ _ => K.rp0)) (fun _ => fun _ h => K.tl (K.tl h)) (by kernel_rfl) rfl ?_
      rintro ⟨g68, c68⟩ _
      try dsimp only [setd, setn, ev, nth, over, cl, eI, eP, eT, List.map, List.append, List.drop, List.take]
      refine K.d_upd 14 rfl (K.appendS el_42 rfl rfl (hS71.at1 (K.m3)) (fun _ => rfl) (K.oneP _) (by omega) (by omega) (fun _ _ => K.rp0)) (fun _ => fun _ h => K.tl (K.tl h)) (by kernel_rfl) rfl ?_
      rintro ⟨A72, c72⟩ _
      try dsimp only [setd, setn, ev, nth, over, cl, eI, eP, eT, List.map, List.append, List.drop, List.take]
      refine K.d_pure 15 rfl (K.assign) (by kernel_rfl) rfl ?_
      dsimp only [setd, setn, ev, nth]
      refine K.d_done (by kernel_rfl) ?_
      exact K.join_here (L' := [K.row (.slice A1 EV.length c1) 27 2 EV.length (EV.flatMap K.eP), K.row (.slice A72 (0 + ((refS (okS kind base most hs ms) i).take (insAt (refS (okS kind base most hs ms) i) (EV.getD i default))).length + 1 + ((refS (okS kind base most hs ms) i).drop (insAt (refS (okS kind base most hs ms) i) (EV.getD i default))).length) c72) 27 2 (0 + ((refS (okS kind base most hs ms) i).take (insAt (refS (okS kind base most hs ms) i) (EV.getD i default))).length + 1 + ((refS (okS kind base most hs ms) i).drop (insAt (refS (okS kind base most hs ms) i) (EV.getD i default))).length) ([] ++ ((refS (okS kind base most hs ms) i).take (insAt (refS (okS kind base most hs ms) i) (EV.getD i default))).flatMap K.eP ++ [.int .i64 (EV.getD i default).1, .int .i64 (EV.getD i default).2] ++ ((refS (okS kind base most hs ms) i).drop (insAt (refS (okS kind base most hs ms) i) (EV.getD i default))).flatMap K.eP), K.blk b2 25 [.int .i64 kind, .int .i64 base, .int .i64 most, .slice A hs.length c, .slice B rs.length d]]) [.slice A72 (0 + ((refS (okS kind base most hs ms) i).take (insAt (refS (okS kind base most hs ms) i) (EV.getD i default))).length + 1 + ((refS (okS kind base most hs ms) i).drop (insAt (refS (okS kind base most hs ms) i) (EV.getD i default))).length) c72] ⟨A72, _, c72, _, rfl, rfl, by unfold insS; simp only [List.length_append, List.length_cons, List.length_nil]; omega, by unfold insS; simp only [List.flatMap_append, List.nil_append]; rfl⟩ (fun w h => K.st_swap w (K.st_sub (List.Sublist.cons_cons _ (List.Sublist.cons _ (List.Sublist.cons_cons _ (List.Sublist.cons _ (List.Sublist.cons_cons _ (List.nil_sublist _)))))) w h)) (by kernel_rfl)
    intro vi vr L hJ
    obtain ⟨Q2, n2, q2, ys2, rfl, rfl, rfl, rfl⟩ := hJ
    try dsimp only [setd, setn, ev, nth, over, cl, eI, eP, eT, setM, setF, List.map, List.append, List.drop, List.take]
    refine K.norm_block ?_
    refine K.norm_then ?_
    refine K.region_lit ?_
    refine K.seq_pure (K.move) rfl ?_
    dsimp only [setd, setn, ev, nth]
    refine K.seq_pure (K.add_i64 rfl rfl (by omega)) rfl ?_
    dsimp only [setd, setn, ev, nth]
    refine K.seq_pure (K.assign) rfl ?_
    dsimp only [setd, setn, ev, nth]
    refine K.seq_nil ?_
    exact K.round_endW (L'' := [K.row (.slice A1 EV.length c1) 27 2 EV.length (EV.flatMap K.eP), K.row (.slice Q2 (insS (refS (okS kind base most hs ms) i) (EV.getD i default)).length q2) 27 2 (insS (refS (okS kind base most hs ms) i) (EV.getD i default)).length ((insS (refS (okS kind base most hs ms) i) (EV.getD i default)).flatMap K.eP), K.blk b2 25 [.int .i64 kind, .int .i64 base, .int .i64 most, .slice A hs.length c, .slice B rs.length d]]) [.slice Q2 (insS (refS (okS kind base most hs ms) i) (EV.getD i default)).length q2, .int .i64 ((i : Int) + 1)] ⟨i + 1, Q2, q2, by rw [refS_t hok]; rfl, by rw [refS_t hok], by omega⟩ (by simp [K.nth, intOf]; omega) (by (repeat (first | exact List.Sublist.refl _ | apply List.Sublist.cons)); done) (by kernel_rfl)
  try replace ht21 := of_decide_eq_false ht21
  refine K.exit ?_
  refine K.exit_then ?_
  refine K.exit_then ?_
  refine K.exit_here ?_
  refine K.norm_then ?_
  refine K.seq ?_
  refine K.region_lit ?_
  refine K.seq_pure (K.move) rfl ?_
  dsimp only [setd, setn, ev, nth]
  refine K.seq_pure (K.assign) rfl ?_
  dsimp only [setd, setn, ev, nth]
  refine K.seq_pure (K.assign) rfl ?_
  dsimp only [setd, setn, ev, nth]
  refine K.seq_nil ?_
  refine K.norm_then ?_
  refine K.ret ?_
  refine K.end_ret (fun w _ => K.res_tmp2 rfl w) ?_
  have hie : i = EV.length := by omega
  subst hie
  have e1 : scalesR kind base most hs rs ms = refS (okS kind base most hs ms) EV.length := by unfold scalesR; rw [if_pos he0]; exact (ref_sb (fun _ _ => rfl)).symm
  exact K.rets_se (xs := scalesR kind base most hs rs ms) K.m1 (by rw [e1]) (by rw [e1]) he0.symm rfl

end Go.Proofs.Ytafkbioeoklldaa
