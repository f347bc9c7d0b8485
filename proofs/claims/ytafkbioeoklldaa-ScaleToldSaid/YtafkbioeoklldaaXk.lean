/-
  Walks of the program's functions, printed by program: what each returns.
  Conditions stand in each theorem.
-/
import Derived.Test.YtafkbioeoklldaaKf
import Derived.Test.YtafkbioeoklldaaK2
import Derived.WalkArith
import Derived.Test.YtafkbioeoklldaaXh
import Derived.Test.YtafkbioeoklldaaXf
import Derived.Test.YtafkbioeoklldaaS8
import Derived.Test.YtafkbioeoklldaaWm
import Derived.Test.YtafkbioeoklldaaWn
import Derived.Test.YtafkbioeoklldaaWo
set_option linter.unusedSimpArgs false
set_option linter.unusedVariables false
namespace Go.Proofs.Ytafkbioeoklldaa
open Go.RowKit Go
open Go.K (setd setn ev nth over cl eI eP eT setM setF)
attribute [local irreducible] K.blk K.row
theorem ulB : Try.prog.underlying 4 = some .bool := by kernel_rfl
theorem c50t {kind base most : Int} {A B C D : Option Addr} {c d cc dd : Nat} {hs : List Int} {rs l : List (Int × Int)} {pts : List Int} {w : World} {b : Bool} (hH : K.Rd w A 1 K.eI hs) (hR : K.Rd w B 2 K.eP rs) (g : Good kind base most hs rs) (hS : K.Rd w C 2 K.eP l) (hp : ∀ x ∈ l, Parts x.1 x.2) (hl6 : l.length ≤ 6) (hT : K.Rd w D 1 K.eI pts) (hp8 : pts.length ≤ 1000) (hb : toldB kind base hs l pts = b) :
    Calls Try.prog 50 [.agg #[.int .i64 kind, .int .i64 base, .int .i64 most, .slice A hs.length c, .slice B rs.length d], .slice C l.length cc, .slice D pts.length dd].toArray w (K.Gives (.bool b) w) := by
  subst hb; exact c50 hH hR g hS hp hl6 hT hp8
theorem c45b {A : Option Addr} {c : Nat} {xs : List (Int × Int)} {u v : Int} {w : World} (hX : K.Rd w A 2 K.eP xs) (hn : xs.length ≤ 4611686018427387904) (hm : (u, v) ∉ xs) : Calls Try.prog 45 [.slice A xs.length c, .agg #[.int .i64 u, .int .i64 v]].toArray w (K.Gives (.bool false) w) := by
  have h := c45 (c := c) (u := u) (v := v) hX hn
  rw [decide_eq_false hm] at h
  exact h

set_option maxRecDepth 100000 in
set_option maxHeartbeats 4000000 in
theorem c10 {kind base most : Int} {A B : Option Addr} {c d : Nat} {hs : List Int} {rs : List (Int × Int)} {l : List (Int × Int)} {C : Option Addr} {cc : Nat} {x0 x1 : Int} {w : World} (hH : K.Rd w A 1 K.eI hs) (hR : K.Rd w B 2 K.eP rs) (hn : hs.length ≤ 4611686018427387904) (hm : rs.length ≤ 4611686018427387904) (hS : K.Rd w C 2 K.eP l) (hll : l.length ≤ 4611686018427387904) (hx0 : 0 ≤ x0 ∧ x0 ≤ 255) (hx1 : 0 ≤ x1 ∧ x1 ≤ 255) :
    Calls Try.prog 10 [.agg #[.int .i64 kind, .int .i64 base, .int .i64 most, .slice A hs.length c, .slice B rs.length d], .slice C l.length cc, .agg #[.int .u8 x0, .int .u8 x1]].toArray w (K.Gives (.bool true) w) := by
  refine K.enter (args := [.agg #[.int .i64 kind, .int .i64 base, .int .i64 most, .slice A hs.length c, .slice B rs.length d], .slice C l.length cc, .agg #[.int .u8 x0, .int .u8 x1]]) Try.func10 rfl (n := 206) rfl ?_
  simp only [List.replicate, List.cons_append, List.nil_append]
  refine K.seq ?_
  refine K.region_lit ?_
  refine K.seq_new (K.box) rfl ?_
  intro b3
  try dsimp only [setd, setn, ev, nth, over, cl, eI, eP, eT, List.map, List.append, List.drop, List.take]
  refine K.seq_new (K.box) rfl ?_
  intro b5
  try dsimp only [setd, setn, ev, nth, over, cl, eI, eP, eT, List.map, List.append, List.drop, List.take]
  refine K.seq_pure (K.assign) rfl ?_
  dsimp only [setd, setn, ev, nth]
  refine K.seq_nil ?_
  refine K.norm_then ?_
  refine K.seq ?_
  refine K.region_lit ?_
  refine K.seq_sil (K.loadA_own ag_25 rfl (K.m1) rfl) rfl ?_
  try dsimp only [setd, setn, ev, nth, over, cl, eI, eP, eT, List.map, List.append, List.drop, List.take]
  refine K.seq_pure (K.move) rfl ?_
  dsimp only [setd, setn, ev, nth]
  refine K.seq_loud (K.call_f cal_34 (fun F w hF hw => c34 (l := l) (hH.pass hw) (hR.pass hw) hn hm (hS.pass hw) hll)) rfl ?_
  rintro ⟨A1, c1⟩ hA1
  try dsimp only [setd, setn, ev, nth, over, cl, eI, eP, eT, List.map, List.append, List.drop, List.take]
  refine K.seq_pure (K.move) rfl ?_
  dsimp only [setd, setn, ev, nth]
  refine K.seq_pure (K.extract rfl rfl) rfl ?_
  dsimp only [setd, setn, ev, nth]
  refine K.seq_pure (K.extract rfl rfl) rfl ?_
  dsimp only [setd, setn, ev, nth]
  refine K.seq_pure (K.assign) rfl ?_
  dsimp only [setd, setn, ev, nth]
  refine K.seq_pure (K.assign) rfl ?_
  dsimp only [setd, setn, ev, nth]
  refine K.seq_nil ?_
  refine K.norm_then ?_
  refine K.seq ?_
  refine K.seq ?_
  refine K.region_lit ?_
  refine K.seq_sil (K.loadA_own ag_25 rfl (K.m2) rfl) rfl ?_
  try dsimp only [setd, setn, ev, nth, over, cl, eI, eP, eT, List.map, List.append, List.drop, List.take]
  refine K.seq_pure (K.move) rfl ?_
  dsimp only [setd, setn, ev, nth]
  refine K.seq_call (K.call_g cal_49 (fun F w hF hw => c49 (l := l) (hH.pass hw) (hR.pass hw) hn hm (hS.pass hw) hll)) rfl ?_
  try dsimp only [setd, setn, ev, nth, over, cl, eI, eP, eT, List.map, List.append, List.drop, List.take]
  refine K.seq_pure (K.assign) rfl ?_
  dsimp only [setd, setn, ev, nth]
  refine K.seq_nil ?_
  refine K.norm_then ?_
  refine K.seq ?_
  refine K.region_lit ?_
  refine K.seq_pure (K.move) rfl ?_
  dsimp only [setd, setn, ev, nth]
  refine K.seq_pure (K.neq rfl rfl) rfl ?_
  dsimp only [setd, setn, ev, nth]
  refine K.seq_nil ?_
  refine K.norm_then ?_
  refine K.cond rfl (fun ht30 => ?_) (fun ht30 => ?_)
  · try replace ht30 := of_decide_eq_true ht30
    refine K.seq ?_
    refine K.region_lit ?_
    refine K.seq_pure (K.move) rfl ?_
    dsimp only [setd, setn, ev, nth]
    refine K.seq_pure (K.move) rfl ?_
    dsimp only [setd, setn, ev, nth]
    refine K.seq_pure (K.Pure.eq (K.eql rfl rfl) (show _ = Value.bool true from congrArg Value.bool (decide_eq_true (list_tell.symm)))) rfl ?_
    dsimp only [setd, setn, ev, nth]
    refine K.seq_pure (K.move) rfl ?_
    dsimp only [setd, setn, ev, nth]
    refine K.seq_pure (K.move) rfl ?_
    dsimp only [setd, setn, ev, nth]
    refine K.seq_pure (K.len_sl sl_22 rfl) rfl ?_
    dsimp only [setd, setn, ev, nth]
    refine K.seq_pure (K.Pure.eq (K.eql rfl rfl) (show _ = Value.bool true from congrArg Value.bool (decide_eq_true (by rw [tr_bad (by rw [← list_tell]; exact ht30)]; rfl)))) rfl ?_
    dsimp only [setd, setn, ev, nth]
    refine K.seq_pure (K.pick_t rfl) rfl ?_
    dsimp only [setd, setn, ev, nth]
    refine K.seq_pure (K.move) rfl ?_
    dsimp only [setd, setn, ev, nth]
    refine K.seq_call (K.call_g cal_26 (fun F w hF hw => c26 w)) rfl ?_
    try dsimp only [setd, setn, ev, nth, over, cl, eI, eP, eT, List.map, List.append, List.drop, List.take]
    refine K.seq_pure (K.pick_t rfl) rfl ?_
    dsimp only [setd, setn, ev, nth]
    refine K.seq_pure (K.assign) rfl ?_
    dsimp only [setd, setn, ev, nth]
    refine K.seq_nil ?_
    refine K.norm_then ?_
    refine K.ret ?_
    refine K.ret_then ?_
    refine K.end_ret (fun w _ => K.res_tmp rfl w) ?_
    exact K.gives rfl
  try replace ht30 := of_decide_eq_false ht30
  have hl0 : listE kind base most hs rs l = 0 := Decidable.not_not.1 ht30
  obtain ⟨g, hl6, hp, htw, hsc⟩ := list_0 hl0
  have g1 := g.k
  have g2 := g.n
  have g3 := g.r
  have g4 := g.b
  have g5 := g.m
  have hte : tellE kind base most hs rs l = 0 := by rw [← list_tell]; exact hl0
  obtain ⟨tp, htp, htold0, hmin⟩ := told_spec g.n.2 htw
  have hP : (tellR kind base most hs rs l) = ptsS hs.length tp := by unfold tellR; rw [if_pos hte]; exact htp
  have htold : toldB kind base hs l (tellR kind base most hs rs l) = true := by rw [hP]; exact htold0
  have hPl : (tellR kind base most hs rs l).length ≤ hs.length := by rw [hP]; exact pts_len
  refine K.skip ?_
  refine K.norm_then ?_
  refine K.seq ?_
  refine K.seq ?_
  refine K.region_lit ?_
  refine K.seq_pure (K.move) rfl ?_
  dsimp only [setd, setn, ev, nth]
  refine K.seq_pure (K.Pure.eq (K.neq rfl rfl) (show _ = Value.bool false from congrArg Value.bool (decide_eq_false (fun h => h hte)))) rfl ?_
  dsimp only [setd, setn, ev, nth]
  refine K.seq_nil ?_
  refine K.norm_then ?_
  refine K.cond_false rfl ?_
  refine K.skip ?_
  refine K.norm_then ?_
  refine K.seq ?_
  refine K.seq ?_
  refine K.region_lit ?_
  refine K.seq_pure (K.assign) rfl ?_
  dsimp only [setd, setn, ev, nth]
  refine K.seq_nil ?_
  refine K.norm_then ?_
  refine K.block ?_
  refine K.loopW [10] [6, 44, 45, 46, 47, 48, 49, 50, 51, 52, 53, 54, 55, 56, 57, 58, 59, 60, 61, 62, 63, 64, 65, 66, 67, 68, 69, 70, 71, 72, 73, 74, 75, 76, 77, 78, 79, 80] (fun vi L => ∃ j : Nat, vi = [.int .i64 (j : Int)] ∧ L = [K.row (.slice A1 (tellR kind base most hs rs l).length c1) 3 1 (tellR kind base most hs rs l).length ((tellR kind base most hs rs l).flatMap K.eI), K.blk b5 56 [.int .u8 x0, .int .u8 x1], K.blk b3 25 [.int .i64 kind, .int .i64 base, .int .i64 most, .slice A hs.length c, .slice B rs.length d]] ∧ j ≤ (tellR kind base most hs rs l).length) (fun vi => (tellR kind base most hs rs l).length - (intOf (K.nth vi 0)).toNat) ?_ ?_
  · exact ⟨0, rfl, rfl, Nat.zero_le _⟩
  intro vi vr L hJ
  obtain ⟨j, rfl, rfl, hjn⟩ := hJ
  try dsimp only [setd, setn, ev, nth, over, cl, eI, eP, eT, setM, setF, List.map, List.append, List.drop, List.take]
  refine K.seq ?_
  refine K.seq ?_
  refine K.region_lit ?_
  refine K.seq_pure (K.move) rfl ?_
  dsimp only [setd, setn, ev, nth]
  refine K.seq_pure (K.move) rfl ?_
  dsimp only [setd, setn, ev, nth]
  refine K.seq_pure (K.len_sl sl_22 rfl) rfl ?_
  dsimp only [setd, setn, ev, nth]
  refine K.seq_pure (K.lss rfl rfl) rfl ?_
  dsimp only [setd, setn, ev, nth]
  refine K.seq_nil ?_
  refine K.norm_then ?_
  refine K.cond rfl (fun ht47 => ?_) (fun ht47 => ?_)
  · try replace ht47 := of_decide_eq_true ht47
    have hj : j < (tellR kind base most hs rs l).length := by omega
    have hpa : 0 ≤ ((tellR kind base most hs rs l).getD j default) ∧ ((tellR kind base most hs rs l).getD j default) < hs.length := by rw [hP] at hj ⊢; exact pts_at hj
    refine K.skip ?_
    refine K.norm_then ?_
    refine K.seq ?_
    refine K.block ?_
    refine K.seq ?_
    refine K.joinW [80] [50, 51, 52, 53, 54, 55, 56, 57, 58, 59, 60, 61, 62, 63, 64, 65, 66, 67, 68, 69, 70, 71, 72, 73, 74, 75, 76, 77, 78, 79] (fun vi L => vi = [.bool false] ∧ L = [K.row (.slice A1 (tellR kind base most hs rs l).length c1) 3 1 (tellR kind base most hs rs l).length ((tellR kind base most hs rs l).flatMap K.eI), K.blk b5 56 [.int .u8 x0, .int .u8 x1], K.blk b3 25 [.int .i64 kind, .int .i64 base, .int .i64 most, .slice A hs.length c, .slice B rs.length d]]) ?_ ?_
    · refine K.draw_L [] Try_mixed ?_
      refine K.d_pure 0 rfl (K.move) (by kernel_rfl) rfl ?_
      dsimp only [setd, setn, ev, nth]
      refine K.d_pure 1 rfl (K.move) (by kernel_rfl) rfl ?_
      dsimp only [setd, setn, ev, nth]
      refine K.d_ix (M := [_]) 2 _ rfl (K.Sl.own (t := 3) (c := c1) (size := 1) (e := K.eI) hA1 (fun _ => rfl)) sl_22 rfl rfl rfl (by omega) (by kernel_rfl) rfl ?_
      intro p52 hp52
      try dsimp only [setd, setn, ev, nth, over, cl, eI, eP, eT, List.map, List.append, List.drop, List.take]
      refine K.d_mem 3 rfl (K.load1 one_3 rfl (hp52.at1 (K.m0))) (fun _ h => h) (by kernel_rfl) (by kernel_rfl) rfl ?_
      try dsimp only [setd, setn, ev, nth, over, cl, eI, eP, eT, List.map, List.append, List.drop, List.take]
      refine K.d_pure 4 rfl (K.Pure.eq (K.lss rfl rfl) (show _ = Value.bool false from congrArg Value.bool (decide_eq_false (by omega)))) (by kernel_rfl) rfl ?_
      dsimp only [setd, setn, ev, nth]
      refine K.d_pure 5 rfl (K.move) (by kernel_rfl) rfl ?_
      dsimp only [setd, setn, ev, nth]
      refine K.d_pure 6 rfl (K.move) (by kernel_rfl) rfl ?_
      dsimp only [setd, setn, ev, nth]
      refine K.d_pure 7 rfl (K.move) (by kernel_rfl) rfl ?_
      dsimp only [setd, setn, ev, nth]
      refine K.d_ix (M := [_]) 8 _ rfl (K.Sl.own (t := 3) (c := c1) (size := 1) (e := K.eI) hA1 (fun _ => rfl)) sl_22 rfl rfl rfl (by omega) (by kernel_rfl) rfl ?_
      intro p58 hp58
      try dsimp only [setd, setn, ev, nth, over, cl, eI, eP, eT, List.map, List.append, List.drop, List.take]
      refine K.d_mem 9 rfl (K.load1 one_3 rfl (hp58.at1 (K.m0))) (fun _ h => h) (by kernel_rfl) (by kernel_rfl) rfl ?_
      try dsimp only [setd, setn, ev, nth, over, cl, eI, eP, eT, List.map, List.append, List.drop, List.take]
      refine K.d_pure 10 rfl (K.fieldAddr_lit fo_25_3 rfl) (by kernel_rfl) rfl ?_
      dsimp only [setd, setn, ev, nth]
      refine K.d_mem 11 rfl (K.load1_own one_22 rfl (K.m2) rfl) (fun _ h => h) (by kernel_rfl) (by kernel_rfl) rfl ?_
      try dsimp only [setd, setn, ev, nth, over, cl, eI, eP, eT, List.map, List.append, List.drop, List.take]
      refine K.d_pure 12 rfl (K.len_sl sl_22 rfl) (by kernel_rfl) rfl ?_
      dsimp only [setd, setn, ev, nth]
      refine K.d_pure 13 rfl (K.Pure.eq (K.geq rfl rfl) (show _ = Value.bool false from congrArg Value.bool (decide_eq_false (by omega)))) (by kernel_rfl) rfl ?_
      dsimp only [setd, setn, ev, nth]
      refine K.d_pure 14 rfl (K.pick_f rfl) (by kernel_rfl) rfl ?_
      dsimp only [setd, setn, ev, nth]
      refine K.d_pure 15 rfl (K.move) (by kernel_rfl) rfl ?_
      dsimp only [setd, setn, ev, nth]
      refine K.d_pure 16 rfl (K.move) (by kernel_rfl) rfl ?_
      dsimp only [setd, setn, ev, nth]
      refine K.d_pure 17 rfl (K.gtr rfl rfl) (by kernel_rfl) rfl ?_
      dsimp only [setd, setn, ev, nth]
      refine K.d_pure 18 rfl (K.move) (by kernel_rfl) rfl ?_
      dsimp only [setd, setn, ev, nth]
      refine K.dsplit 68 rfl (fun hg68 => ?_) (fun hg68 => ?_)
      · try replace hg68 := of_decide_eq_true hg68
        have hpl : (tellR kind base most hs rs l).getD (j - 1) default < ((tellR kind base most hs rs l).getD j default) := by
          have h := pts_lt (n := hs.length) (s := tp) (j := j - 1) (by rw [← hP]; omega)
          rw [show j - 1 + 1 = j by omega, ← hP] at h
          exact h
        refine K.d_pure 19 rfl (K.move) (by kernel_rfl) rfl ?_
        dsimp only [setd, setn, ev, nth]
        refine K.d_pure 20 rfl (K.move) (by kernel_rfl) rfl ?_
        dsimp only [setd, setn, ev, nth]
        refine K.d_ix (M := [_]) 21 _ rfl (K.Sl.own (t := 3) (c := c1) (size := 1) (e := K.eI) hA1 (fun _ => rfl)) sl_22 rfl rfl rfl (by omega) (by kernel_rfl) rfl ?_
        intro p71 hp71
        try dsimp only [setd, setn, ev, nth, over, cl, eI, eP, eT, List.map, List.append, List.drop, List.take]
        refine K.d_mem 22 rfl (K.load1 one_3 rfl (hp71.at1 (K.m0))) (fun _ h => h) (by kernel_rfl) (by kernel_rfl) rfl ?_
        try dsimp only [setd, setn, ev, nth, over, cl, eI, eP, eT, List.map, List.append, List.drop, List.take]
        refine K.d_pure 23 rfl (K.move) (by kernel_rfl) rfl ?_
        dsimp only [setd, setn, ev, nth]
        refine K.d_pure 24 rfl (K.move) (by kernel_rfl) rfl ?_
        dsimp only [setd, setn, ev, nth]
        refine K.d_pure 25 rfl (K.sub_i64 rfl rfl (by omega)) (by kernel_rfl) rfl ?_
        dsimp only [setd, setn, ev, nth]
        refine K.d_ix (M := [_]) 26 (j - 1) rfl (K.Sl.own (t := 3) (c := c1) (size := 1) (e := K.eI) hA1 (fun _ => rfl)) sl_22 rfl rfl (by omega) (by omega) (by kernel_rfl) rfl ?_
        intro p76 hp76
        try dsimp only [setd, setn, ev, nth, over, cl, eI, eP, eT, List.map, List.append, List.drop, List.take]
        refine K.d_mem 27 rfl (K.load1 one_3 rfl (hp76.at1 (K.m0))) (fun _ h => h) (by kernel_rfl) (by kernel_rfl) rfl ?_
        try dsimp only [setd, setn, ev, nth, over, cl, eI, eP, eT, List.map, List.append, List.drop, List.take]
        refine K.d_pure 28 rfl (K.Pure.eq (K.leq rfl rfl) (show _ = Value.bool false from congrArg Value.bool (decide_eq_false (by omega)))) (by kernel_rfl) rfl ?_
        dsimp only [setd, setn, ev, nth]
        refine K.d_pure 29 rfl (K.pick_t rfl) (by kernel_rfl) rfl ?_
        dsimp only [setd, setn, ev, nth]
        refine K.d_pure 30 rfl (K.pick_f rfl) (by kernel_rfl) rfl ?_
        dsimp only [setd, setn, ev, nth]
        refine K.d_done (by kernel_rfl) ?_
        exact K.join_here (L' := [K.row (.slice A1 (tellR kind base most hs rs l).length c1) 3 1 (tellR kind base most hs rs l).length ((tellR kind base most hs rs l).flatMap K.eI), K.blk b5 56 [.int .u8 x0, .int .u8 x1], K.blk b3 25 [.int .i64 kind, .int .i64 base, .int .i64 most, .slice A hs.length c, .slice B rs.length d]]) [.bool false] ⟨rfl, rfl⟩ (fun w h => h) (by kernel_rfl)
      try replace hg68 := of_decide_eq_false hg68
      refine K.d_skip 19 rfl (by kernel_rfl) rfl ?_
      try dsimp only [setd, setn, ev, nth, over, cl, eI, eP, eT, List.map, List.append, List.drop, List.take]
      refine K.d_skip 20 rfl (by kernel_rfl) rfl ?_
      try dsimp only [setd, setn, ev, nth, over, cl, eI, eP, eT, List.map, List.append, List.drop, List.take]
      refine K.d_skip 21 rfl (by kernel_rfl) rfl ?_
      try dsimp only [setd, setn, ev, nth, over, cl, eI, eP, eT, List.map, List.append, List.drop, List.take]
      refine K.d_skip 22 rfl (by kernel_rfl) rfl ?_
      try dsimp only [setd, setn, ev, nth, over, cl, eI, eP, eT, List.map, List.append, List.drop, List.take]
      refine K.d_skip 23 rfl (by kernel_rfl) rfl ?_
      try dsimp only [setd, setn, ev, nth, over, cl, eI, eP, eT, List.map, List.append, List.drop, List.take]
      refine K.d_skip 24 rfl (by kernel_rfl) rfl ?_
      try dsimp only [setd, setn, ev, nth, over, cl, eI, eP, eT, List.map, List.append, List.drop, List.take]
      refine K.d_skip 25 rfl (by kernel_rfl) rfl ?_
      try dsimp only [setd, setn, ev, nth, over, cl, eI, eP, eT, List.map, List.append, List.drop, List.take]
      refine K.d_skip 26 rfl (by kernel_rfl) rfl ?_
      try dsimp only [setd, setn, ev, nth, over, cl, eI, eP, eT, List.map, List.append, List.drop, List.take]
      refine K.d_skip 27 rfl (by kernel_rfl) rfl ?_
      try dsimp only [setd, setn, ev, nth, over, cl, eI, eP, eT, List.map, List.append, List.drop, List.take]
      refine K.d_skip 28 rfl (by kernel_rfl) rfl ?_
      try dsimp only [setd, setn, ev, nth, over, cl, eI, eP, eT, List.map, List.append, List.drop, List.take]
      refine K.d_pure 29 rfl (K.pick_f rfl) (by kernel_rfl) rfl ?_
      dsimp only [setd, setn, ev, nth]
      refine K.d_pure 30 rfl (K.pick_f rfl) (by kernel_rfl) rfl ?_
      dsimp only [setd, setn, ev, nth]
      refine K.d_done (by kernel_rfl) ?_
      exact K.join_here (L' := [K.row (.slice A1 (tellR kind base most hs rs l).length c1) 3 1 (tellR kind base most hs rs l).length ((tellR kind base most hs rs l).flatMap K.eI), K.blk b5 56 [.int .u8 x0, .int .u8 x1], K.blk b3 25 [.int .i64 kind, .int .i64 base, .int .i64 most, .slice A hs.length c, .slice B rs.length d]]) [.bool false] ⟨rfl, rfl⟩ (fun w h => h) (by kernel_rfl)
    intro vi vr L hJ
    obtain ⟨rfl, rfl⟩ := hJ
    try dsimp only [setd, setn, ev, nth, over, cl, eI, eP, eT, setM, setF, List.map, List.append, List.drop, List.take]
    refine K.norm_then ?_
    refine K.cond_false rfl ?_
    refine K.skip ?_
    refine K.norm_block ?_
    refine K.norm_then ?_
    refine K.region_lit ?_
    refine K.seq_pure (K.move) rfl ?_
    dsimp only [setd, setn, ev, nth]
    refine K.seq_pure (K.add_i64 rfl rfl (by omega)) rfl ?_
    dsimp only [setd, setn, ev, nth]
    refine K.seq_pure (K.assign) rfl ?_
    dsimp only [setd, setn, ev, nth]
    refine K.seq_nil ?_
    exact K.round_endW (L'' := [K.row (.slice A1 (tellR kind base most hs rs l).length c1) 3 1 (tellR kind base most hs rs l).length ((tellR kind base most hs rs l).flatMap K.eI), K.blk b5 56 [.int .u8 x0, .int .u8 x1], K.blk b3 25 [.int .i64 kind, .int .i64 base, .int .i64 most, .slice A hs.length c, .slice B rs.length d]]) [.int .i64 ((j : Int) + 1)] ⟨j + 1, rfl, rfl, by omega⟩ (by simp [K.nth, intOf]; omega) (by (repeat (first | exact List.Sublist.refl _ | apply List.Sublist.cons)); done) (by kernel_rfl)
  try replace ht47 := of_decide_eq_false ht47
  refine K.exit ?_
  refine K.exit_then ?_
  refine K.exit_then ?_
  refine K.exit_here ?_
  refine K.norm_then ?_
  refine K.seq ?_
  refine K.region_lit ?_
  refine K.nil_row (e := 3) (size := 1) ?_
  refine K.seq_pure (K.assign) rfl ?_
  dsimp only [setd, setn, ev, nth]
  refine K.seq_nil ?_
  refine K.norm_then ?_
  refine K.seq ?_
  refine K.seq ?_
  refine K.region_lit ?_
  refine K.seq_pure (K.assign) rfl ?_
  dsimp only [setd, setn, ev, nth]
  refine K.seq_nil ?_
  refine K.norm_then ?_
  refine K.block ?_
  refine K.loopW [11, 12] [81, 82, 83, 84, 85, 86, 87, 88, 89, 90, 91, 92, 93, 94, 95, 96, 97] (fun vi L => ∃ (k : Nat) (Q1 : Option Addr) (n1 q1 : Nat) (ys : List Value), vi = [.slice Q1 n1 q1, .int .i64 (k : Int)] ∧ L = [K.row (.slice Q1 n1 q1) 3 1 n1 ys, K.row (.slice A1 (tellR kind base most hs rs l).length c1) 3 1 (tellR kind base most hs rs l).length ((tellR kind base most hs rs l).flatMap K.eI), K.blk b5 56 [.int .u8 x0, .int .u8 x1], K.blk b3 25 [.int .i64 kind, .int .i64 base, .int .i64 most, .slice A hs.length c, .slice B rs.length d]] ∧ n1 = (selN (bitX x0) k).length ∧ ys = (selN (bitX x0) k).flatMap K.eI ∧ k ≤ hs.length) (fun vi => hs.length - (intOf (K.nth vi 1)).toNat) ?_ ?_
  · exact ⟨0, none, 0, 0, [], rfl, rfl, rfl, rfl, Nat.zero_le _⟩
  intro vi vr L hJ
  obtain ⟨k, Q1, n1, q1, ys, rfl, rfl, hn1, hys, hkn⟩ := hJ
  have hsl := selN_len (p := (bitX x0)) (n := k)
  try dsimp only [setd, setn, ev, nth, over, cl, eI, eP, eT, setM, setF, List.map, List.append, List.drop, List.take]
  refine K.seq ?_
  refine K.seq ?_
  refine K.region_lit ?_
  refine K.seq_pure (K.move) rfl ?_
  dsimp only [setd, setn, ev, nth]
  refine K.seq_pure (K.fieldAddr_lit fo_25_3 rfl) rfl ?_
  dsimp only [setd, setn, ev, nth]
  refine K.seq_sil (K.load1_own one_22 rfl (K.m3) rfl) rfl ?_
  try dsimp only [setd, setn, ev, nth, over, cl, eI, eP, eT, List.map, List.append, List.drop, List.take]
  refine K.seq_pure (K.len_sl sl_22 rfl) rfl ?_
  dsimp only [setd, setn, ev, nth]
  refine K.seq_pure (K.lss rfl rfl) rfl ?_
  dsimp only [setd, setn, ev, nth]
  refine K.seq_nil ?_
  refine K.norm_then ?_
  refine K.cond rfl (fun ht85 => ?_) (fun ht85 => ?_)
  · try replace ht85 := of_decide_eq_true ht85
    refine K.skip ?_
    refine K.norm_then ?_
    refine K.seq ?_
    refine K.block ?_
    refine K.seq ?_
    refine K.region_lit ?_
    refine K.seq_pure (K.indexAddr_ar ar_56 rfl rfl (by omega) (by omega)) rfl ?_
    try dsimp only [setd, setn, ev, nth, over, cl, eI, eP, eT, List.map, List.append, List.drop, List.take]
    refine K.seq_sil (K.load1_own one_5 rfl (K.m2) rfl) rfl ?_
    try dsimp only [setd, setn, ev, nth, over, cl, eI, eP, eT, List.map, List.append, List.drop, List.take]
    refine K.seq_pure (K.move) rfl ?_
    dsimp only [setd, setn, ev, nth]
    refine K.seq_pure (K.shr_int rfl rfl (by omega)) rfl ?_
    dsimp only [setd, setn, ev, nth]
    refine K.seq_pure (K.rem_u8 rfl rfl (Int.fdiv_nonneg (by omega) (by exact Int.pow_nonneg (by decide))) (by decide)) rfl ?_
    dsimp only [setd, setn, ev, nth]
    refine K.seq_pure (K.eql rfl rfl) rfl ?_
    dsimp only [setd, setn, ev, nth]
    refine K.seq_nil ?_
    refine K.norm_then ?_
    refine K.cond rfl (fun ht93 => ?_) (fun ht93 => ?_)
    · try replace ht93 := of_decide_eq_true ht93
      have hp : (bitX x0) k = true := decide_eq_true ht93
      refine K.region_lit ?_
      refine K.seq_pure (K.move) rfl ?_
      dsimp only [setd, setn, ev, nth]
      refine K.seq_pure (K.move) rfl ?_
      dsimp only [setd, setn, ev, nth]
      refine K.seq_new (K.buildSlice (bs1 _)) rfl ?_
      intro b96
      try dsimp only [setd, setn, ev, nth, over, cl, eI, eP, eT, List.map, List.append, List.drop, List.take]
      refine K.seq_upd (K.append el_22 rfl rfl (K.PtrL.own' (K.m0)) rfl rfl (by decide) (by omega) (by omega) (fun _ _ => K.rp1)) rfl ?_
      rintro ⟨g97, c97⟩ _
      try dsimp only [setd, setn, ev, nth, over, cl, eI, eP, eT, List.map, List.append, List.drop, List.take]
      refine K.seq_pure (K.assign) rfl ?_
      dsimp only [setd, setn, ev, nth]
      refine K.seq_nil ?_
      refine K.norm_block ?_
      refine K.norm_then ?_
      refine K.region_lit ?_
      refine K.seq_pure (K.move) rfl ?_
      dsimp only [setd, setn, ev, nth]
      refine K.seq_pure (K.add_i64 rfl rfl (by omega)) rfl ?_
      dsimp only [setd, setn, ev, nth]
      refine K.seq_pure (K.assign) rfl ?_
      dsimp only [setd, setn, ev, nth]
      refine K.seq_nil ?_
      exact K.round_endW [.slice (some ⟨g97, 0, none⟩) (n1 + 1) c97, .int .i64 ((k : Int) + 1)] ⟨k + 1, _, _, _, _, rfl, rfl, by rw [selN_t (p := (bitX x0)) (n := k) hp, List.length_append, ← hn1]; rfl, by rw [selN_t (p := (bitX x0)) (n := k) hp, List.flatMap_append, ← hys], by omega⟩ (by simp [K.nth, intOf]; omega) (by repeat (first | exact List.Sublist.refl _ | apply List.Sublist.cons)) (by kernel_rfl)
    try replace ht93 := of_decide_eq_false ht93
    have hp : (bitX x0) k = false := decide_eq_false ht93
    refine K.skip ?_
    refine K.norm_block ?_
    refine K.norm_then ?_
    refine K.region_lit ?_
    refine K.seq_pure (K.move) rfl ?_
    dsimp only [setd, setn, ev, nth]
    refine K.seq_pure (K.add_i64 rfl rfl (by omega)) rfl ?_
    dsimp only [setd, setn, ev, nth]
    refine K.seq_pure (K.assign) rfl ?_
    dsimp only [setd, setn, ev, nth]
    refine K.seq_nil ?_
    exact K.round_endW [.slice Q1 n1 q1, .int .i64 ((k : Int) + 1)] ⟨k + 1, _, _, _, _, rfl, rfl, by rw [selN_f (p := (bitX x0)) (n := k) hp, ← hn1], by rw [selN_f (p := (bitX x0)) (n := k) hp, ← hys], by omega⟩ (by simp [K.nth, intOf]; omega) (by repeat (first | exact List.Sublist.refl _ | apply List.Sublist.cons)) (by kernel_rfl)
  try replace ht85 := of_decide_eq_false ht85
  refine K.exit ?_
  refine K.exit_then ?_
  refine K.exit_then ?_
  refine K.exit_here ?_
  refine K.norm_then ?_
  refine K.seq ?_
  refine K.seq ?_
  refine K.joinW [115] [98, 99, 100, 101, 102, 103, 104, 105, 106, 107, 108, 109, 110, 111, 112, 113, 114] (fun vi L => vi = [.bool false] ∧ L = [K.row (.slice A1 (tellR kind base most hs rs l).length c1) 3 1 (tellR kind base most hs rs l).length ((tellR kind base most hs rs l).flatMap K.eI), K.blk b5 56 [.int .u8 x0, .int .u8 x1], K.blk b3 25 [.int .i64 kind, .int .i64 base, .int .i64 most, .slice A hs.length c, .slice B rs.length d]]) ?_ ?_
  · have hkk : k = hs.length := by omega
    subst hkk
    subst hn1
    subst hys
    refine K.use_row K.m0 (fun hQO => ?_)
    have hol := @selN_len (bitX x0) hs.length
    obtain ⟨so, hso, hsoe⟩ := other_pts (n := hs.length) hx0 g2.2
    have hless : (selN (bitX x0) hs.length).length < (tellR kind base most hs rs l).length → toldB kind base hs l (selN (bitX x0) hs.length) = false := fun hlt => by
      cases hb : toldB kind base hs l (selN (bitX x0) hs.length) with
      | false => rfl
      | true =>
        have h := hmin so hso (by rw [← hsoe]; exact hb)
        rw [hsoe, hP] at hlt
        omega
    refine K.region_lit ?_
    refine K.seq_sil (K.loadA_own ag_25 rfl (K.m3) rfl) rfl ?_
    try dsimp only [setd, setn, ev, nth, over, cl, eI, eP, eT, List.map, List.append, List.drop, List.take]
    refine K.seq_pure (K.move) rfl ?_
    dsimp only [setd, setn, ev, nth]
    refine K.seq_pure (K.move) rfl ?_
    dsimp only [setd, setn, ev, nth]
    refine K.seq_call (K.call_g cal_50 (fun F w hF hw => c50t (l := l) (pts := (tellR kind base most hs rs l)) (b := true) (hH.pass hw) (hR.pass hw) g (hS.pass hw) hp hl6 (K.Rd.own hw (hF _ (K.m1)) hA1 (fun _ => rfl) (by decide)) (by omega) htold)) rfl ?_
    try dsimp only [setd, setn, ev, nth, over, cl, eI, eP, eT, List.map, List.append, List.drop, List.take]
    refine K.seq_pure (K.Pure.eq (K.not_ rfl) (show _ = Value.bool false from rfl)) rfl ?_
    dsimp only [setd, setn, ev, nth]
    refine K.seq_pure (K.move) rfl ?_
    dsimp only [setd, setn, ev, nth]
    refine K.seq_pure (K.move) rfl ?_
    dsimp only [setd, setn, ev, nth]
    refine K.seq_pure (K.len_sl sl_22 rfl) rfl ?_
    dsimp only [setd, setn, ev, nth]
    refine K.seq_pure (K.move) rfl ?_
    dsimp only [setd, setn, ev, nth]
    refine K.seq_pure (K.len_sl sl_22 rfl) rfl ?_
    dsimp only [setd, setn, ev, nth]
    refine K.seq_pure (K.lss rfl rfl) rfl ?_
    dsimp only [setd, setn, ev, nth]
    refine K.seq_pure (K.move) rfl ?_
    dsimp only [setd, setn, ev, nth]
    refine K.split 109 rfl (fun hg109 => ?_) (fun hg109 => ?_)
    · try replace hg109 := of_decide_eq_true hg109
      refine K.seq_sil (K.loadA_own ag_25 rfl (K.m3) rfl) rfl ?_
      try dsimp only [setd, setn, ev, nth, over, cl, eI, eP, eT, List.map, List.append, List.drop, List.take]
      refine K.seq_pure (K.move) rfl ?_
      dsimp only [setd, setn, ev, nth]
      refine K.seq_pure (K.move) rfl ?_
      dsimp only [setd, setn, ev, nth]
      refine K.seq_call (K.call_g cal_50 (fun F w hF hw => c50t (l := l) (pts := (selN (bitX x0) hs.length)) (b := false) (hH.pass hw) (hR.pass hw) g (hS.pass hw) hp hl6 (K.Rd.own hw (hF _ (K.m0)) hQO (fun _ => rfl) (by decide)) (by omega) (hless (by omega)))) rfl ?_
      try dsimp only [setd, setn, ev, nth, over, cl, eI, eP, eT, List.map, List.append, List.drop, List.take]
      refine K.seq_pure (K.pick_t rfl) rfl ?_
      dsimp only [setd, setn, ev, nth]
      refine K.seq_pure (K.pick_f rfl) rfl ?_
      dsimp only [setd, setn, ev, nth]
      refine K.seq_nil ?_
      exact K.join_here (L' := [K.row (.slice A1 (tellR kind base most hs rs l).length c1) 3 1 (tellR kind base most hs rs l).length ((tellR kind base most hs rs l).flatMap K.eI), K.blk b5 56 [.int .u8 x0, .int .u8 x1], K.blk b3 25 [.int .i64 kind, .int .i64 base, .int .i64 most, .slice A hs.length c, .slice B rs.length d]]) [.bool false] ⟨rfl, rfl⟩ (K.st_sub (List.Sublist.cons _ (List.Sublist.refl _))) (by kernel_rfl)
    try replace hg109 := of_decide_eq_false hg109
    refine K.seq_skip ?_ ?_
    · rfl
    try dsimp only [setd, setn, ev, nth, over, cl, eI, eP, eT, List.map, List.append, List.drop, List.take]
    refine K.seq_skip ?_ ?_
    · rfl
    try dsimp only [setd, setn, ev, nth, over, cl, eI, eP, eT, List.map, List.append, List.drop, List.take]
    refine K.seq_skip ?_ ?_
    · rfl
    try dsimp only [setd, setn, ev, nth, over, cl, eI, eP, eT, List.map, List.append, List.drop, List.take]
    refine K.seq_skip ?_ ?_
    · rfl
    try dsimp only [setd, setn, ev, nth, over, cl, eI, eP, eT, List.map, List.append, List.drop, List.take]
    refine K.seq_pure (K.pick_f rfl) rfl ?_
    dsimp only [setd, setn, ev, nth]
    refine K.seq_pure (K.pick_f rfl) rfl ?_
    dsimp only [setd, setn, ev, nth]
    refine K.seq_nil ?_
    exact K.join_here (L' := [K.row (.slice A1 (tellR kind base most hs rs l).length c1) 3 1 (tellR kind base most hs rs l).length ((tellR kind base most hs rs l).flatMap K.eI), K.blk b5 56 [.int .u8 x0, .int .u8 x1], K.blk b3 25 [.int .i64 kind, .int .i64 base, .int .i64 most, .slice A hs.length c, .slice B rs.length d]]) [.bool false] ⟨rfl, rfl⟩ (K.st_sub (List.Sublist.cons _ (List.Sublist.refl _))) (by kernel_rfl)
  intro vi vr L hJ
  obtain ⟨rfl, rfl⟩ := hJ
  try dsimp only [setd, setn, ev, nth, over, cl, eI, eP, eT, setM, setF, List.map, List.append, List.drop, List.take]
  refine K.norm_then ?_
  refine K.cond_false rfl ?_
  refine K.skip ?_
  refine K.norm_then ?_
  refine K.seq ?_
  refine K.seq ?_
  refine K.region_lit ?_
  refine K.seq_pure (K.move) rfl ?_
  dsimp only [setd, setn, ev, nth]
  refine K.seq_pure (K.len_sl sl_42 rfl) rfl ?_
  dsimp only [setd, setn, ev, nth]
  refine K.seq_pure (K.eql rfl rfl) rfl ?_
  dsimp only [setd, setn, ev, nth]
  refine K.seq_nil ?_
  refine K.norm_then ?_
  refine K.cond rfl (fun ht118 => ?_) (fun ht118 => ?_)
  · try replace ht118 := of_decide_eq_true ht118
    refine K.seq ?_
    refine K.region_lit ?_
    refine K.seq_call (K.call_g cal_26 (fun F w hF hw => c26 w)) rfl ?_
    try dsimp only [setd, setn, ev, nth, over, cl, eI, eP, eT, List.map, List.append, List.drop, List.take]
    refine K.seq_pure (K.assign) rfl ?_
    dsimp only [setd, setn, ev, nth]
    refine K.seq_nil ?_
    refine K.norm_then ?_
    refine K.ret ?_
    refine K.ret_then ?_
    refine K.end_ret (fun w _ => K.res_tmp rfl w) ?_
    exact K.gives rfl
  try replace ht118 := of_decide_eq_false ht118
  have hs0 := Int.emod_nonneg x1 (show (l.length : Int) ≠ 0 by omega)
  have hs1 := Int.emod_lt_of_pos x1 (show 0 < (l.length : Int) by omega)
  obtain ⟨sx, hsxe⟩ : ∃ sx : Nat, x1 % (l.length : Int) = (sx : Int) := ⟨(x1 % (l.length : Int)).toNat, by omega⟩
  have hsx : sx < l.length := by omega
  have hps := hp _ (K.gt_mem hsx)
  refine K.skip ?_
  refine K.norm_then ?_
  refine K.seq ?_
  refine K.region_lit ?_
  refine K.seq_pure (K.move) rfl ?_
  dsimp only [setd, setn, ev, nth]
  refine K.seq_pure (K.indexAddr_ar ar_56 rfl rfl (by omega) (by omega)) rfl ?_
  try dsimp only [setd, setn, ev, nth, over, cl, eI, eP, eT, List.map, List.append, List.drop, List.take]
  refine K.seq_sil (K.load1_own one_5 rfl (K.m1) rfl) rfl ?_
  try dsimp only [setd, setn, ev, nth, over, cl, eI, eP, eT, List.map, List.append, List.drop, List.take]
  refine K.seq_pure (K.Pure.eq (K.conv_int ik_5 ik_3 rfl) (by rw [wrap8 hx1])) rfl ?_
  try dsimp only [setd, setn, ev, nth, over, cl, eI, eP, eT, List.map, List.append, List.drop, List.take]
  refine K.seq_pure (K.move) rfl ?_
  dsimp only [setd, setn, ev, nth]
  refine K.seq_pure (K.len_sl sl_42 rfl) rfl ?_
  dsimp only [setd, setn, ev, nth]
  refine K.seq_pure (K.rem_i64 rfl rfl (by omega) (by omega)) rfl ?_
  dsimp only [setd, setn, ev, nth]
  refine K.seq_ix (M := []) sx hS.sl sl_42 rfl rfl (by omega) (by omega) rfl ?_
  intro p127 hp127
  try dsimp only [setd, setn, ev, nth, over, cl, eI, eP, eT, List.map, List.append, List.drop, List.take]
  refine K.seq_sil (K.loadA_p ag_27 rfl (hp127.any) rfl) rfl ?_
  try dsimp only [setd, setn, ev, nth, over, cl, eI, eP, eT, List.map, List.append, List.drop, List.take]
  refine K.seq_new (K.alloc zr_27) rfl ?_
  intro b13
  try dsimp only [setd, setn, ev, nth, over, cl, eI, eP, eT, List.map, List.append, List.drop, List.take]
  refine K.seq_st (K.store_all sz_27 rfl rfl rfl rfl (K.rp0)) rfl ?_
  try dsimp only [setd, setn, ev, nth, over, cl, eI, eP, eT, List.map, List.append, List.drop, List.take]
  refine K.seq_nil ?_
  refine K.norm_then ?_
  refine K.seq ?_
  refine K.region_lit ?_
  refine K.seq_sil (K.loadA_own ag_25 rfl (K.m3) rfl) rfl ?_
  try dsimp only [setd, setn, ev, nth, over, cl, eI, eP, eT, List.map, List.append, List.drop, List.take]
  refine K.seq_sil (K.loadA_own ag_27 rfl (K.m0) rfl) rfl ?_
  try dsimp only [setd, setn, ev, nth, over, cl, eI, eP, eT, List.map, List.append, List.drop, List.take]
  refine K.seq_loud (K.call_f cal_51 (fun F w hF hw => c51 (u := (l.getD sx default).1) (v := (l.getD sx default).2) (hH.pass hw) (hR.pass hw) g hps)) rfl ?_
  rintro ⟨A3, c3⟩ hA3
  try dsimp only [setd, setn, ev, nth, over, cl, eI, eP, eT, List.map, List.append, List.drop, List.take]
  refine K.seq_pure (K.assign) rfl ?_
  dsimp only [setd, setn, ev, nth]
  refine K.seq_nil ?_
  refine K.norm_then ?_
  refine K.seq ?_
  refine K.region_lit ?_
  refine K.nil_row (e := 53) (size := 3) ?_
  refine K.seq_pure (K.assign) rfl ?_
  dsimp only [setd, setn, ev, nth]
  refine K.seq_nil ?_
  refine K.norm_then ?_
  refine K.seq ?_
  refine K.seq ?_
  refine K.region_lit ?_
  refine K.seq_pure (K.assign) rfl ?_
  dsimp only [setd, setn, ev, nth]
  refine K.seq_nil ?_
  refine K.norm_then ?_
  refine K.block ?_
  refine K.loopW [15, 16] [6, 132, 133, 134, 135, 136, 137, 138, 139, 140, 141, 142, 143, 144, 145, 146, 147, 148, 149, 150, 151, 152, 153, 154, 155, 156, 157, 158, 159, 160, 161, 162, 163, 164, 165, 166, 167, 168] (fun vi L => ∃ (j : Nat) (Qm : Option Addr) (qm : Nat), vi = [.slice Qm (((tellR kind base most hs rs l).take j).map (mkAt (cuts kind base (l.getD sx default).1 (l.getD sx default).2 hs))).length qm, .int .i64 (j : Int)] ∧ L = [K.row (.slice Qm (((tellR kind base most hs rs l).take j).map (mkAt (cuts kind base (l.getD sx default).1 (l.getD sx default).2 hs))).length qm) 53 3 (((tellR kind base most hs rs l).take j).map (mkAt (cuts kind base (l.getD sx default).1 (l.getD sx default).2 hs))).length ((((tellR kind base most hs rs l).take j).map (mkAt (cuts kind base (l.getD sx default).1 (l.getD sx default).2 hs))).flatMap K.eT), K.row (.slice A3 (cuts kind base (l.getD sx default).1 (l.getD sx default).2 hs).length c3) 3 1 (cuts kind base (l.getD sx default).1 (l.getD sx default).2 hs).length ((cuts kind base (l.getD sx default).1 (l.getD sx default).2 hs).flatMap K.eI), K.blk b13 27 [.int .i64 (l.getD sx default).1, .int .i64 (l.getD sx default).2], K.row (.slice A1 (tellR kind base most hs rs l).length c1) 3 1 (tellR kind base most hs rs l).length ((tellR kind base most hs rs l).flatMap K.eI), K.blk b5 56 [.int .u8 x0, .int .u8 x1], K.blk b3 25 [.int .i64 kind, .int .i64 base, .int .i64 most, .slice A hs.length c, .slice B rs.length d]] ∧ j ≤ (tellR kind base most hs rs l).length ∧ ∀ p ∈ (tellR kind base most hs rs l).take j, (cuts kind base (l.getD sx default).1 (l.getD sx default).2 hs).getD p.toNat default ≤ 100000) (fun vi => (tellR kind base most hs rs l).length - (intOf (K.nth vi 1)).toNat) ?_ ?_
  · exact ⟨0, none, 0, rfl, rfl, Nat.zero_le _, by simp⟩
  intro vi vr L hJ
  obtain ⟨j, Qm, qm, rfl, rfl, hjn, hsm⟩ := hJ
  have hml : (((tellR kind base most hs rs l).take j).map (mkAt (cuts kind base (l.getD sx default).1 (l.getD sx default).2 hs))).length = j := by rw [List.length_map, List.length_take]; omega
  try dsimp only [setd, setn, ev, nth, over, cl, eI, eP, eT, setM, setF, List.map, List.append, List.drop, List.take]
  refine K.seq ?_
  refine K.seq ?_
  refine K.region_lit ?_
  refine K.seq_pure (K.move) rfl ?_
  dsimp only [setd, setn, ev, nth]
  refine K.seq_pure (K.move) rfl ?_
  dsimp only [setd, setn, ev, nth]
  refine K.seq_pure (K.len_sl sl_22 rfl) rfl ?_
  dsimp only [setd, setn, ev, nth]
  refine K.seq_pure (K.lss rfl rfl) rfl ?_
  dsimp only [setd, setn, ev, nth]
  refine K.seq_nil ?_
  refine K.norm_then ?_
  refine K.cond rfl (fun ht135 => ?_) (fun ht135 => ?_)
  · try replace ht135 := of_decide_eq_true ht135
    have hj : j < (tellR kind base most hs rs l).length := by omega
    have hpa : 0 ≤ ((tellR kind base most hs rs l).getD j default) ∧ ((tellR kind base most hs rs l).getD j default) < hs.length := by rw [hP] at hj ⊢; exact pts_at hj
    have hcl : (cuts kind base (l.getD sx default).1 (l.getD sx default).2 hs).length = hs.length := cuts_len
    refine K.skip ?_
    refine K.norm_then ?_
    refine K.seq ?_
    refine K.block ?_
    refine K.seq ?_
    refine K.seq ?_
    refine K.region_lit ?_
    refine K.seq_pure (K.move) rfl ?_
    dsimp only [setd, setn, ev, nth]
    refine K.seq_pure (K.move) rfl ?_
    dsimp only [setd, setn, ev, nth]
    refine K.seq_pure (K.move) rfl ?_
    dsimp only [setd, setn, ev, nth]
    refine K.seq_ix (M := [_]) _ (K.Sl.own (t := 3) (c := c1) (size := 1) (e := K.eI) hA1 (fun _ => rfl)) sl_22 rfl rfl rfl (by omega) rfl ?_
    intro p141 hp141
    try dsimp only [setd, setn, ev, nth, over, cl, eI, eP, eT, List.map, List.append, List.drop, List.take]
    refine K.seq_sil (K.load1 one_3 rfl (hp141.at1 (K.m3))) rfl ?_
    try dsimp only [setd, setn, ev, nth, over, cl, eI, eP, eT, List.map, List.append, List.drop, List.take]
    refine K.seq_ix (M := [_]) ((tellR kind base most hs rs l).getD j default).toNat (K.Sl.own (t := 3) (c := c3) (size := 1) (e := K.eI) hA3 (fun _ => rfl)) sl_22 rfl rfl (by omega) (by omega) rfl ?_
    intro p143 hp143
    try dsimp only [setd, setn, ev, nth, over, cl, eI, eP, eT, List.map, List.append, List.drop, List.take]
    refine K.seq_sil (K.load1 one_3 rfl (hp143.at1 (K.m1))) rfl ?_
    try dsimp only [setd, setn, ev, nth, over, cl, eI, eP, eT, List.map, List.append, List.drop, List.take]
    refine K.seq_pure (K.gtr rfl rfl) rfl ?_
    dsimp only [setd, setn, ev, nth]
    refine K.seq_nil ?_
    refine K.norm_then ?_
    refine K.cond rfl (fun ht145 => ?_) (fun ht145 => ?_)
    · try replace ht145 := of_decide_eq_true ht145
      refine K.seq ?_
      refine K.region_lit ?_
      refine K.seq_call (K.call_g cal_26 (fun F w hF hw => c26 w)) rfl ?_
      try dsimp only [setd, setn, ev, nth, over, cl, eI, eP, eT, List.map, List.append, List.drop, List.take]
      refine K.seq_pure (K.assign) rfl ?_
      dsimp only [setd, setn, ev, nth]
      refine K.seq_nil ?_
      refine K.norm_then ?_
      refine K.ret ?_
      refine K.ret_then ?_
      refine K.ret_block ?_
      refine K.ret_then ?_
      refine K.ret_then ?_
      refine K.ret_block ?_
      refine K.ret_then ?_
      refine K.end_ret (fun w _ => K.res_tmp rfl w) ?_
      exact K.gives rfl
    try replace ht145 := of_decide_eq_false ht145
    refine K.skip ?_
    refine K.norm_then ?_
    refine K.draw_drop 1 [] Try_mixed ?_
    refine K.d_pure 0 rfl (K.move) (by kernel_rfl) rfl ?_
    dsimp only [setd, setn, ev, nth]
    refine K.d_pure 1 rfl (K.move) (by kernel_rfl) rfl ?_
    dsimp only [setd, setn, ev, nth]
    refine K.d_pure 2 rfl (K.move) (by kernel_rfl) rfl ?_
    dsimp only [setd, setn, ev, nth]
    refine K.d_ix (M := [_]) 3 _ rfl (K.Sl.own (t := 3) (c := c1) (size := 1) (e := K.eI) hA1 (fun _ => rfl)) sl_22 rfl rfl rfl (by omega) (by kernel_rfl) rfl ?_
    intro p150 hp150
    try dsimp only [setd, setn, ev, nth, over, cl, eI, eP, eT, List.map, List.append, List.drop, List.take]
    refine K.d_mem 4 rfl (K.load1 one_3 rfl (hp150.at1 (K.m2))) (fun _ h => K.tl h) (by kernel_rfl) (by kernel_rfl) rfl ?_
    try dsimp only [setd, setn, ev, nth, over, cl, eI, eP, eT, List.map, List.append, List.drop, List.take]
    refine K.d_pure 5 rfl (K.move) (by kernel_rfl) rfl ?_
    dsimp only [setd, setn, ev, nth]
    refine K.d_pure 6 rfl (K.move) (by kernel_rfl) rfl ?_
    dsimp only [setd, setn, ev, nth]
    refine K.d_pure 7 rfl (K.move) (by kernel_rfl) rfl ?_
    dsimp only [setd, setn, ev, nth]
    refine K.d_ix (M := [_]) 8 _ rfl (K.Sl.own (t := 3) (c := c1) (size := 1) (e := K.eI) hA1 (fun _ => rfl)) sl_22 rfl rfl rfl (by omega) (by kernel_rfl) rfl ?_
    intro p155 hp155
    try dsimp only [setd, setn, ev, nth, over, cl, eI, eP, eT, List.map, List.append, List.drop, List.take]
    refine K.d_mem 9 rfl (K.load1 one_3 rfl (hp155.at1 (K.m2))) (fun _ h => K.tl h) (by kernel_rfl) (by kernel_rfl) rfl ?_
    try dsimp only [setd, setn, ev, nth, over, cl, eI, eP, eT, List.map, List.append, List.drop, List.take]
    refine K.d_ix (M := [_]) 10 ((tellR kind base most hs rs l).getD j default).toNat rfl (K.Sl.own (t := 3) (c := c3) (size := 1) (e := K.eI) hA3 (fun _ => rfl)) sl_22 rfl rfl (by omega) (by omega) (by kernel_rfl) rfl ?_
    intro p157 hp157
    try dsimp only [setd, setn, ev, nth, over, cl, eI, eP, eT, List.map, List.append, List.drop, List.take]
    refine K.d_mem 11 rfl (K.load1 one_3 rfl (hp157.at1 (K.m0))) (fun _ h => K.tl h) (by kernel_rfl) (by kernel_rfl) rfl ?_
    try dsimp only [setd, setn, ev, nth, over, cl, eI, eP, eT, List.map, List.append, List.drop, List.take]
    refine K.d_pure 12 rfl (K.move) (by kernel_rfl) rfl ?_
    dsimp only [setd, setn, ev, nth]
    refine K.d_pure 13 rfl (K.move) (by kernel_rfl) rfl ?_
    dsimp only [setd, setn, ev, nth]
    refine K.d_pure 14 rfl (K.move) (by kernel_rfl) rfl ?_
    dsimp only [setd, setn, ev, nth]
    refine K.d_ix (M := [_]) 15 _ rfl (K.Sl.own (t := 3) (c := c1) (size := 1) (e := K.eI) hA1 (fun _ => rfl)) sl_22 rfl rfl rfl (by omega) (by kernel_rfl) rfl ?_
    intro p162 hp162
    try dsimp only [setd, setn, ev, nth, over, cl, eI, eP, eT, List.map, List.append, List.drop, List.take]
    refine K.d_mem 16 rfl (K.load1 one_3 rfl (hp162.at1 (K.m2))) (fun _ h => K.tl h) (by kernel_rfl) (by kernel_rfl) rfl ?_
    try dsimp only [setd, setn, ev, nth, over, cl, eI, eP, eT, List.map, List.append, List.drop, List.take]
    refine K.d_ix (M := [_]) 17 ((tellR kind base most hs rs l).getD j default).toNat rfl (K.Sl.own (t := 3) (c := c3) (size := 1) (e := K.eI) hA3 (fun _ => rfl)) sl_22 rfl rfl (by omega) (by omega) (by kernel_rfl) rfl ?_
    intro p164 hp164
    try dsimp only [setd, setn, ev, nth, over, cl, eI, eP, eT, List.map, List.append, List.drop, List.take]
    refine K.d_mem 18 rfl (K.load1 one_3 rfl (hp164.at1 (K.m0))) (fun _ h => K.tl h) (by kernel_rfl) (by kernel_rfl) rfl ?_
    try dsimp only [setd, setn, ev, nth, over, cl, eI, eP, eT, List.map, List.append, List.drop, List.take]
    refine K.d_call 19 rfl (K.call_g cal_38 (fun F w hF hw => c38 w)) (fun _ h => K.tl h) (by kernel_rfl) rfl ?_
    try dsimp only [setd, setn, ev, nth, over, cl, eI, eP, eT, List.map, List.append, List.drop, List.take]
    refine K.d_new 20 rfl (K.buildSlice (bs41m _ _ _)) (fun _ h => K.tl h) (by kernel_rfl) rfl ?_
    intro b167
    try dsimp only [setd, setn, ev, nth, over, cl, eI, eP, eT, List.map, List.append, List.drop, List.take]
    refine K.d_upd 21 rfl (K.append el_41 rfl rfl (K.PtrL.own' (K.m0)) rfl rfl (by decide) (by omega) (by omega) (fun _ _ => K.rp1)) (fun _ => fun _ h => K.tl (K.tl h)) (by kernel_rfl) rfl ?_
    rintro ⟨g168, c168⟩ _
    try dsimp only [setd, setn, ev, nth, over, cl, eI, eP, eT, List.map, List.append, List.drop, List.take]
    refine K.d_pure 22 rfl (K.assign) (by kernel_rfl) rfl ?_
    dsimp only [setd, setn, ev, nth]
    refine K.d_done (by kernel_rfl) ?_
    refine K.norm_block ?_
    refine K.norm_then ?_
    refine K.region_lit ?_
    refine K.seq_pure (K.move) rfl ?_
    dsimp only [setd, setn, ev, nth]
    refine K.seq_pure (K.add_i64 rfl rfl (by omega)) rfl ?_
    dsimp only [setd, setn, ev, nth]
    refine K.seq_pure (K.assign) rfl ?_
    dsimp only [setd, setn, ev, nth]
    refine K.seq_nil ?_
    exact K.round_endW (L'' := [K.row (.slice (some ⟨g168, 0, none⟩) ((((tellR kind base most hs rs l).take j).map (mkAt (cuts kind base (l.getD sx default).1 (l.getD sx default).2 hs))).length + 1) c168) 53 3 ((((tellR kind base most hs rs l).take j).map (mkAt (cuts kind base (l.getD sx default).1 (l.getD sx default).2 hs))).length + 1) ((((tellR kind base most hs rs l).take j).map (mkAt (cuts kind base (l.getD sx default).1 (l.getD sx default).2 hs))).flatMap K.eT ++ [.int .i64 ((tellR kind base most hs rs l).getD j default), .int .i64 ((cuts kind base (l.getD sx default).1 (l.getD sx default).2 hs).getD ((tellR kind base most hs rs l).getD j default).toNat default), .int .i64 ((cuts kind base (l.getD sx default).1 (l.getD sx default).2 hs).getD ((tellR kind base most hs rs l).getD j default).toNat default)]), K.row (.slice A3 (cuts kind base (l.getD sx default).1 (l.getD sx default).2 hs).length c3) 3 1 (cuts kind base (l.getD sx default).1 (l.getD sx default).2 hs).length ((cuts kind base (l.getD sx default).1 (l.getD sx default).2 hs).flatMap K.eI), K.blk b13 27 [.int .i64 (l.getD sx default).1, .int .i64 (l.getD sx default).2], K.row (.slice A1 (tellR kind base most hs rs l).length c1) 3 1 (tellR kind base most hs rs l).length ((tellR kind base most hs rs l).flatMap K.eI), K.blk b5 56 [.int .u8 x0, .int .u8 x1], K.blk b3 25 [.int .i64 kind, .int .i64 base, .int .i64 most, .slice A hs.length c, .slice B rs.length d]]) [.slice (some ⟨g168, 0, none⟩) ((((tellR kind base most hs rs l).take j).map (mkAt (cuts kind base (l.getD sx default).1 (l.getD sx default).2 hs))).length + 1) c168, .int .i64 ((j : Int) + 1)] ⟨j + 1, some ⟨g168, 0, none⟩, c168, by rw [take_succ_map _ hj, List.length_append]; rfl, by rw [take_succ_map _ hj, List.length_append, List.flatMap_append]; rfl, by omega, fun p h => by rw [List.take_add_one] at h; exact (List.mem_append.1 h).elim (hsm p) (fun h2 => by rw [List.getElem?_eq_getElem hj] at h2; rw [List.mem_singleton.1 h2, show (tellR kind base most hs rs l)[j] = ((tellR kind base most hs rs l).getD j default) by rw [List.getD_eq_getElem?_getD, List.getElem?_eq_getElem hj]; rfl]; omega)⟩ (by simp [K.nth, intOf]; omega) (List.Sublist.cons _ (List.Sublist.cons_cons _ (List.Sublist.cons_cons _ (List.Sublist.cons_cons _ (List.Sublist.cons_cons _ (List.Sublist.cons_cons _ (List.Sublist.cons_cons _ (List.nil_sublist _)))))))) (by kernel_rfl)
  try replace ht135 := of_decide_eq_false ht135
  refine K.exit ?_
  refine K.exit_then ?_
  refine K.exit_then ?_
  refine K.exit_here ?_
  refine K.norm_then ?_
  refine K.seq ?_
  have hjj : j = (tellR kind base most hs rs l).length := by omega
  have htk : (tellR kind base most hs rs l).take j = (tellR kind base most hs rs l) := take_all (by omega)
  rw [htk] at hsm
  refine K.use_row K.m0 (fun hQm0 => ?_)
  have hcl : (cuts kind base (l.getD sx default).1 (l.getD sx default).2 hs).length = hs.length := cuts_len
  have hPm : ∀ p ∈ (tellR kind base most hs rs l), 0 ≤ p ∧ p < (cuts kind base (l.getD sx default).1 (l.getD sx default).2 hs).length := fun p h => by
    obtain ⟨i, hi, rfl⟩ := List.getElem_of_mem h
    have h2 := pts_at (n := hs.length) (s := tp) (j := i) (by rw [← hP]; exact hi)
    rw [← hP, List.getD_eq_getElem?_getD, List.getElem?_eq_getElem hi] at h2
    rw [hcl]; exact h2
  have hmks : ∀ y ∈ ((tellR kind base most hs rs l).map (mkAt (cuts kind base (l.getD sx default).1 (l.getD sx default).2 hs))), mkOK (cuts kind base (l.getD sx default).1 (l.getD sx default).2 hs) y := mkAt_ok hPm (fun p h => (g.bdc hps p.toNat).1) hsm
  have hm8 : ((tellR kind base most hs rs l).map (mkAt (cuts kind base (l.getD sx default).1 (l.getD sx default).2 hs))).length ≤ 8 := by rw [List.length_map]; omega
  have hm0 := marks_ok g hmks hm8
  have hsl := @scalesR_ln kind base most hs rs ((tellR kind base most hs rs l).map (mkAt (cuts kind base (l.getD sx default).1 (l.getD sx default).2 hs)))
  have hq1 : decide ((l.getD sx default) ∈ (scalesR kind base most hs rs ((tellR kind base most hs rs l).map (mkAt (cuts kind base (l.getD sx default).1 (l.getD sx default).2 hs))))) = fitB most (cuts kind base (l.getD sx default).1 (l.getD sx default).2 hs) := by rw [has_sc hm0 (x := (l.getD sx default)) (scsE_mem hsc _ (K.gt_mem hsx)), marks_miss hmks]; simp
  rw [htk]
  have hQm : ((tellR kind base most hs rs l).map (mkAt (cuts kind base (l.getD sx default).1 (l.getD sx default).2 hs))).length = 0 ∨ ∃ b, Qm = some ⟨b, 0, none⟩ := by rw [← htk]; exact hQm0
  refine K.region_lit ?_
  refine K.seq_sil (K.loadA_own ag_25 rfl (K.m5) rfl) rfl ?_
  try dsimp only [setd, setn, ev, nth, over, cl, eI, eP, eT, List.map, List.append, List.drop, List.take]
  refine K.seq_pure (K.move) rfl ?_
  dsimp only [setd, setn, ev, nth]
  refine K.seq_loud (K.call_f cal_31 (fun F w hF hw => c31 (ms := ((tellR kind base most hs rs l).map (mkAt (cuts kind base (l.getD sx default).1 (l.getD sx default).2 hs)))) (hH.pass hw) (hR.pass hw) hn hm (K.Rd.own hw (hF _ (K.m0)) hQm (fun _ => rfl) (by decide)) (by omega))) rfl ?_
  rintro ⟨A4, c4⟩ hA4
  try dsimp only [setd, setn, ev, nth, over, cl, eI, eP, eT, List.map, List.append, List.drop, List.take]
  refine K.seq_pure (K.move) rfl ?_
  dsimp only [setd, setn, ev, nth]
  refine K.seq_pure (K.extract rfl rfl) rfl ?_
  dsimp only [setd, setn, ev, nth]
  refine K.seq_pure (K.extract rfl rfl) rfl ?_
  dsimp only [setd, setn, ev, nth]
  refine K.seq_pure (K.assign) rfl ?_
  dsimp only [setd, setn, ev, nth]
  refine K.seq_pure (K.assign) rfl ?_
  dsimp only [setd, setn, ev, nth]
  refine K.seq_nil ?_
  refine K.norm_then ?_
  refine K.seq ?_
  refine K.seq ?_
  refine K.region_lit ?_
  refine K.seq_pure (K.assign) rfl ?_
  dsimp only [setd, setn, ev, nth]
  refine K.seq_nil ?_
  refine K.norm_then ?_
  refine K.block ?_
  refine K.loopW [19] [6, 175, 176, 177, 178, 179, 180, 181, 182, 183, 184, 185, 186, 187, 188, 189, 190, 191, 192, 193, 194] (fun vi L => ∃ j : Nat, vi = [.int .i64 (j : Int)] ∧ L = [K.row (.slice A4 (scalesR kind base most hs rs ((tellR kind base most hs rs l).map (mkAt (cuts kind base (l.getD sx default).1 (l.getD sx default).2 hs)))).length c4) 27 2 (scalesR kind base most hs rs ((tellR kind base most hs rs l).map (mkAt (cuts kind base (l.getD sx default).1 (l.getD sx default).2 hs)))).length ((scalesR kind base most hs rs ((tellR kind base most hs rs l).map (mkAt (cuts kind base (l.getD sx default).1 (l.getD sx default).2 hs)))).flatMap K.eP), K.row (.slice Qm ((tellR kind base most hs rs l).map (mkAt (cuts kind base (l.getD sx default).1 (l.getD sx default).2 hs))).length qm) 53 3 ((tellR kind base most hs rs l).map (mkAt (cuts kind base (l.getD sx default).1 (l.getD sx default).2 hs))).length (((tellR kind base most hs rs l).map (mkAt (cuts kind base (l.getD sx default).1 (l.getD sx default).2 hs))).flatMap K.eT), K.row (.slice A3 (cuts kind base (l.getD sx default).1 (l.getD sx default).2 hs).length c3) 3 1 (cuts kind base (l.getD sx default).1 (l.getD sx default).2 hs).length ((cuts kind base (l.getD sx default).1 (l.getD sx default).2 hs).flatMap K.eI), K.blk b13 27 [.int .i64 (l.getD sx default).1, .int .i64 (l.getD sx default).2], K.row (.slice A1 (tellR kind base most hs rs l).length c1) 3 1 (tellR kind base most hs rs l).length ((tellR kind base most hs rs l).flatMap K.eI), K.blk b5 56 [.int .u8 x0, .int .u8 x1], K.blk b3 25 [.int .i64 kind, .int .i64 base, .int .i64 most, .slice A hs.length c, .slice B rs.length d]] ∧ j ≤ l.length) (fun vi => l.length - (intOf (K.nth vi 0)).toNat) ?_ ?_
  · exact ⟨0, rfl, rfl, Nat.zero_le _⟩
  intro vi vr L hJ
  obtain ⟨j, rfl, rfl, hjn2⟩ := hJ
  try dsimp only [setd, setn, ev, nth, over, cl, eI, eP, eT, setM, setF, List.map, List.append, List.drop, List.take]
  refine K.seq ?_
  refine K.seq ?_
  refine K.region_lit ?_
  refine K.seq_pure (K.move) rfl ?_
  dsimp only [setd, setn, ev, nth]
  refine K.seq_pure (K.move) rfl ?_
  dsimp only [setd, setn, ev, nth]
  refine K.seq_pure (K.len_sl sl_42 rfl) rfl ?_
  dsimp only [setd, setn, ev, nth]
  refine K.seq_pure (K.lss rfl rfl) rfl ?_
  dsimp only [setd, setn, ev, nth]
  refine K.seq_nil ?_
  refine K.norm_then ?_
  refine K.cond rfl (fun ht178 => ?_) (fun ht178 => ?_)
  · try replace ht178 := of_decide_eq_true ht178
    have hj : j < l.length := by omega
    refine K.skip ?_
    refine K.norm_then ?_
    refine K.seq ?_
    refine K.block ?_
    refine K.seq ?_
    refine K.joinW [194] [181, 182, 183, 184, 185, 186, 187, 188, 189, 190, 191, 192, 193] (fun vi L => vi = [.bool false] ∧ L = [K.row (.slice A4 (scalesR kind base most hs rs ((tellR kind base most hs rs l).map (mkAt (cuts kind base (l.getD sx default).1 (l.getD sx default).2 hs)))).length c4) 27 2 (scalesR kind base most hs rs ((tellR kind base most hs rs l).map (mkAt (cuts kind base (l.getD sx default).1 (l.getD sx default).2 hs)))).length ((scalesR kind base most hs rs ((tellR kind base most hs rs l).map (mkAt (cuts kind base (l.getD sx default).1 (l.getD sx default).2 hs)))).flatMap K.eP), K.row (.slice Qm ((tellR kind base most hs rs l).map (mkAt (cuts kind base (l.getD sx default).1 (l.getD sx default).2 hs))).length qm) 53 3 ((tellR kind base most hs rs l).map (mkAt (cuts kind base (l.getD sx default).1 (l.getD sx default).2 hs))).length (((tellR kind base most hs rs l).map (mkAt (cuts kind base (l.getD sx default).1 (l.getD sx default).2 hs))).flatMap K.eT), K.row (.slice A3 (cuts kind base (l.getD sx default).1 (l.getD sx default).2 hs).length c3) 3 1 (cuts kind base (l.getD sx default).1 (l.getD sx default).2 hs).length ((cuts kind base (l.getD sx default).1 (l.getD sx default).2 hs).flatMap K.eI), K.blk b13 27 [.int .i64 (l.getD sx default).1, .int .i64 (l.getD sx default).2], K.row (.slice A1 (tellR kind base most hs rs l).length c1) 3 1 (tellR kind base most hs rs l).length ((tellR kind base most hs rs l).flatMap K.eI), K.blk b5 56 [.int .u8 x0, .int .u8 x1], K.blk b3 25 [.int .i64 kind, .int .i64 base, .int .i64 most, .slice A hs.length c, .slice B rs.length d]]) ?_ ?_
    · refine K.draw_L [] Try_mixed ?_
      refine K.d_pure 0 rfl (K.move) (by kernel_rfl) rfl ?_
      dsimp only [setd, setn, ev, nth]
      refine K.d_pure 1 rfl (K.move) (by kernel_rfl) rfl ?_
      dsimp only [setd, setn, ev, nth]
      refine K.d_ix (M := []) 2 _ rfl hS.sl sl_42 rfl rfl rfl (by omega) (by kernel_rfl) rfl ?_
      intro p183 hp183
      try dsimp only [setd, setn, ev, nth, over, cl, eI, eP, eT, List.map, List.append, List.drop, List.take]
      refine K.d_mem 3 rfl (K.loadA_p ag_27 rfl (hp183.any) rfl) (fun _ h => h) (by kernel_rfl) (by kernel_rfl) rfl ?_
      try dsimp only [setd, setn, ev, nth, over, cl, eI, eP, eT, List.map, List.append, List.drop, List.take]
      refine K.d_mem 4 rfl (K.loadA_own ag_27 rfl (K.m3) rfl) (fun _ h => h) (by kernel_rfl) (by kernel_rfl) rfl ?_
      try dsimp only [setd, setn, ev, nth, over, cl, eI, eP, eT, List.map, List.append, List.drop, List.take]
      refine K.d_pure 5 rfl (K.neq_s2 s2_27 rfl rfl) (by kernel_rfl) rfl ?_
      dsimp only [setd, setn, ev, nth]
      refine K.d_pure 6 rfl (K.move) (by kernel_rfl) rfl ?_
      dsimp only [setd, setn, ev, nth]
      refine K.dsplit 187 rfl (fun hg187 => ?_) (fun hg187 => ?_)
      · try replace hg187 := of_decide_eq_true hg187
        refine K.d_pure 7 rfl (K.move) (by kernel_rfl) rfl ?_
        dsimp only [setd, setn, ev, nth]
        refine K.d_pure 8 rfl (K.move) (by kernel_rfl) rfl ?_
        dsimp only [setd, setn, ev, nth]
        refine K.d_pure 9 rfl (K.move) (by kernel_rfl) rfl ?_
        dsimp only [setd, setn, ev, nth]
        refine K.d_ix (M := []) 10 _ rfl hS.sl sl_42 rfl rfl rfl (by omega) (by kernel_rfl) rfl ?_
        intro p191 hp191
        try dsimp only [setd, setn, ev, nth, over, cl, eI, eP, eT, List.map, List.append, List.drop, List.take]
        refine K.d_mem 11 rfl (K.loadA_p ag_27 rfl (hp191.any) rfl) (fun _ h => h) (by kernel_rfl) (by kernel_rfl) rfl ?_
        try dsimp only [setd, setn, ev, nth, over, cl, eI, eP, eT, List.map, List.append, List.drop, List.take]
        refine K.d_call 12 rfl (K.call_g cal_45 (fun F w hF hw => c45b (xs := (scalesR kind base most hs rs ((tellR kind base most hs rs l).map (mkAt (cuts kind base (l.getD sx default).1 (l.getD sx default).2 hs))))) (u := (l.getD j default).1) (v := (l.getD j default).2) (K.Rd.own hw (hF _ (K.m0)) hA4 (fun _ => rfl) (by decide)) (by omega) (told_out htold hj hsx hg187 hm0))) (fun _ h => h) (by kernel_rfl) rfl ?_
        try dsimp only [setd, setn, ev, nth, over, cl, eI, eP, eT, List.map, List.append, List.drop, List.take]
        refine K.d_pure 13 rfl (K.pick_t rfl) (by kernel_rfl) rfl ?_
        dsimp only [setd, setn, ev, nth]
        refine K.d_done (by kernel_rfl) ?_
        exact K.join_here (L' := [K.row (.slice A4 (scalesR kind base most hs rs ((tellR kind base most hs rs l).map (mkAt (cuts kind base (l.getD sx default).1 (l.getD sx default).2 hs)))).length c4) 27 2 (scalesR kind base most hs rs ((tellR kind base most hs rs l).map (mkAt (cuts kind base (l.getD sx default).1 (l.getD sx default).2 hs)))).length ((scalesR kind base most hs rs ((tellR kind base most hs rs l).map (mkAt (cuts kind base (l.getD sx default).1 (l.getD sx default).2 hs)))).flatMap K.eP), K.row (.slice Qm ((tellR kind base most hs rs l).map (mkAt (cuts kind base (l.getD sx default).1 (l.getD sx default).2 hs))).length qm) 53 3 ((tellR kind base most hs rs l).map (mkAt (cuts kind base (l.getD sx default).1 (l.getD sx default).2 hs))).length (((tellR kind base most hs rs l).map (mkAt (cuts kind base (l.getD sx default).1 (l.getD sx default).2 hs))).flatMap K.eT), K.row (.slice A3 (cuts kind base (l.getD sx default).1 (l.getD sx default).2 hs).length c3) 3 1 (cuts kind base (l.getD sx default).1 (l.getD sx default).2 hs).length ((cuts kind base (l.getD sx default).1 (l.getD sx default).2 hs).flatMap K.eI), K.blk b13 27 [.int .i64 (l.getD sx default).1, .int .i64 (l.getD sx default).2], K.row (.slice A1 (tellR kind base most hs rs l).length c1) 3 1 (tellR kind base most hs rs l).length ((tellR kind base most hs rs l).flatMap K.eI), K.blk b5 56 [.int .u8 x0, .int .u8 x1], K.blk b3 25 [.int .i64 kind, .int .i64 base, .int .i64 most, .slice A hs.length c, .slice B rs.length d]]) [.bool false] ⟨rfl, rfl⟩ (fun w h => h) (by kernel_rfl)
      try replace hg187 := of_decide_eq_false hg187
      refine K.d_skip 7 rfl (by kernel_rfl) rfl ?_
      try dsimp only [setd, setn, ev, nth, over, cl, eI, eP, eT, List.map, List.append, List.drop, List.take]
      refine K.d_skip 8 rfl (by kernel_rfl) rfl ?_
      try dsimp only [setd, setn, ev, nth, over, cl, eI, eP, eT, List.map, List.append, List.drop, List.take]
      refine K.d_skip 9 rfl (by kernel_rfl) rfl ?_
      try dsimp only [setd, setn, ev, nth, over, cl, eI, eP, eT, List.map, List.append, List.drop, List.take]
      refine K.d_skip 10 rfl (by kernel_rfl) rfl ?_
      try dsimp only [setd, setn, ev, nth, over, cl, eI, eP, eT, List.map, List.append, List.drop, List.take]
      refine K.d_skip 11 rfl (by kernel_rfl) rfl ?_
      try dsimp only [setd, setn, ev, nth, over, cl, eI, eP, eT, List.map, List.append, List.drop, List.take]
      refine K.d_skip 12 rfl (by kernel_rfl) rfl ?_
      try dsimp only [setd, setn, ev, nth, over, cl, eI, eP, eT, List.map, List.append, List.drop, List.take]
      refine K.d_pure 13 rfl (K.pick_f rfl) (by kernel_rfl) rfl ?_
      dsimp only [setd, setn, ev, nth]
      refine K.d_done (by kernel_rfl) ?_
      exact K.join_here (L' := [K.row (.slice A4 (scalesR kind base most hs rs ((tellR kind base most hs rs l).map (mkAt (cuts kind base (l.getD sx default).1 (l.getD sx default).2 hs)))).length c4) 27 2 (scalesR kind base most hs rs ((tellR kind base most hs rs l).map (mkAt (cuts kind base (l.getD sx default).1 (l.getD sx default).2 hs)))).length ((scalesR kind base most hs rs ((tellR kind base most hs rs l).map (mkAt (cuts kind base (l.getD sx default).1 (l.getD sx default).2 hs)))).flatMap K.eP), K.row (.slice Qm ((tellR kind base most hs rs l).map (mkAt (cuts kind base (l.getD sx default).1 (l.getD sx default).2 hs))).length qm) 53 3 ((tellR kind base most hs rs l).map (mkAt (cuts kind base (l.getD sx default).1 (l.getD sx default).2 hs))).length (((tellR kind base most hs rs l).map (mkAt (cuts kind base (l.getD sx default).1 (l.getD sx default).2 hs))).flatMap K.eT), K.row (.slice A3 (cuts kind base (l.getD sx default).1 (l.getD sx default).2 hs).length c3) 3 1 (cuts kind base (l.getD sx default).1 (l.getD sx default).2 hs).length ((cuts kind base (l.getD sx default).1 (l.getD sx default).2 hs).flatMap K.eI), K.blk b13 27 [.int .i64 (l.getD sx default).1, .int .i64 (l.getD sx default).2], K.row (.slice A1 (tellR kind base most hs rs l).length c1) 3 1 (tellR kind base most hs rs l).length ((tellR kind base most hs rs l).flatMap K.eI), K.blk b5 56 [.int .u8 x0, .int .u8 x1], K.blk b3 25 [.int .i64 kind, .int .i64 base, .int .i64 most, .slice A hs.length c, .slice B rs.length d]]) [.bool false] ⟨rfl, rfl⟩ (fun w h => h) (by kernel_rfl)
    intro vi vr L hJ
    obtain ⟨rfl, rfl⟩ := hJ
    try dsimp only [setd, setn, ev, nth, over, cl, eI, eP, eT, setM, setF, List.map, List.append, List.drop, List.take]
    refine K.norm_then ?_
    refine K.cond_false rfl ?_
    refine K.skip ?_
    refine K.norm_block ?_
    refine K.norm_then ?_
    refine K.region_lit ?_
    refine K.seq_pure (K.move) rfl ?_
    dsimp only [setd, setn, ev, nth]
    refine K.seq_pure (K.add_i64 rfl rfl (by omega)) rfl ?_
    dsimp only [setd, setn, ev, nth]
    refine K.seq_pure (K.assign) rfl ?_
    dsimp only [setd, setn, ev, nth]
    refine K.seq_nil ?_
    exact K.round_endW (L'' := [K.row (.slice A4 (scalesR kind base most hs rs ((tellR kind base most hs rs l).map (mkAt (cuts kind base (l.getD sx default).1 (l.getD sx default).2 hs)))).length c4) 27 2 (scalesR kind base most hs rs ((tellR kind base most hs rs l).map (mkAt (cuts kind base (l.getD sx default).1 (l.getD sx default).2 hs)))).length ((scalesR kind base most hs rs ((tellR kind base most hs rs l).map (mkAt (cuts kind base (l.getD sx default).1 (l.getD sx default).2 hs)))).flatMap K.eP), K.row (.slice Qm ((tellR kind base most hs rs l).map (mkAt (cuts kind base (l.getD sx default).1 (l.getD sx default).2 hs))).length qm) 53 3 ((tellR kind base most hs rs l).map (mkAt (cuts kind base (l.getD sx default).1 (l.getD sx default).2 hs))).length (((tellR kind base most hs rs l).map (mkAt (cuts kind base (l.getD sx default).1 (l.getD sx default).2 hs))).flatMap K.eT), K.row (.slice A3 (cuts kind base (l.getD sx default).1 (l.getD sx default).2 hs).length c3) 3 1 (cuts kind base (l.getD sx default).1 (l.getD sx default).2 hs).length ((cuts kind base (l.getD sx default).1 (l.getD sx default).2 hs).flatMap K.eI), K.blk b13 27 [.int .i64 (l.getD sx default).1, .int .i64 (l.getD sx default).2], K.row (.slice A1 (tellR kind base most hs rs l).length c1) 3 1 (tellR kind base most hs rs l).length ((tellR kind base most hs rs l).flatMap K.eI), K.blk b5 56 [.int .u8 x0, .int .u8 x1], K.blk b3 25 [.int .i64 kind, .int .i64 base, .int .i64 most, .slice A hs.length c, .slice B rs.length d]]) [.int .i64 ((j : Int) + 1)] ⟨j + 1, rfl, rfl, by omega⟩ (by simp [K.nth, intOf]; omega) (by (repeat (first | exact List.Sublist.refl _ | apply List.Sublist.cons)); done) (by kernel_rfl)
  try replace ht178 := of_decide_eq_false ht178
  refine K.exit ?_
  refine K.exit_then ?_
  refine K.exit_then ?_
  refine K.exit_here ?_
  refine K.norm_then ?_
  refine K.seq ?_
  refine K.draw_L [] Try_mixed ?_
  refine K.d_pure 0 rfl (K.move) (by kernel_rfl) rfl ?_
  dsimp only [setd, setn, ev, nth]
  refine K.d_pure 1 rfl (K.Pure.eq (K.eql rfl rfl) (show _ = Value.bool true from congrArg Value.bool (decide_eq_true (hm0)))) (by kernel_rfl) rfl ?_
  dsimp only [setd, setn, ev, nth]
  refine K.d_pure 2 rfl (K.move) (by kernel_rfl) rfl ?_
  dsimp only [setd, setn, ev, nth]
  refine K.d_pure 3 rfl (K.move) (by kernel_rfl) rfl ?_
  dsimp only [setd, setn, ev, nth]
  refine K.d_mem 4 rfl (K.loadA_own ag_27 rfl (K.m3) rfl) (fun _ h => h) (by kernel_rfl) (by kernel_rfl) rfl ?_
  try dsimp only [setd, setn, ev, nth, over, cl, eI, eP, eT, List.map, List.append, List.drop, List.take]
  refine K.d_mem 6 rfl (K.loadA_own ag_25 rfl (K.m6) rfl) (fun _ h => h) (by kernel_rfl) (by kernel_rfl) rfl ?_
  try dsimp only [setd, setn, ev, nth, over, cl, eI, eP, eT, List.map, List.append, List.drop, List.take]
  refine K.d_mem 7 rfl (K.loadA_own ag_27 rfl (K.m3) rfl) (fun _ h => h) (by kernel_rfl) (by kernel_rfl) rfl ?_
  try dsimp only [setd, setn, ev, nth, over, cl, eI, eP, eT, List.map, List.append, List.drop, List.take]
  refine K.d_call 5 rfl (K.call_g cal_45 (fun F w hF hw => c45 (xs := (scalesR kind base most hs rs ((tellR kind base most hs rs l).map (mkAt (cuts kind base (l.getD sx default).1 (l.getD sx default).2 hs))))) (u := (l.getD sx default).1) (v := (l.getD sx default).2) (K.Rd.own hw (hF _ (K.m0)) hA4 (fun _ => rfl) (by decide)) (by omega))) (fun _ h => h) (by kernel_rfl) rfl ?_
  try dsimp only [setd, setn, ev, nth, over, cl, eI, eP, eT, List.map, List.append, List.drop, List.take]
  refine K.d_call 8 rfl (K.call_g cal_46 (fun F w hF hw => c46 (u := (l.getD sx default).1) (v := (l.getD sx default).2) (hH.pass hw) (hR.pass hw) g hps)) (fun _ h => h) (by kernel_rfl) rfl ?_
  try dsimp only [setd, setn, ev, nth, over, cl, eI, eP, eT, List.map, List.append, List.drop, List.take]
  refine K.d_pure 9 rfl (K.Pure.eq (K.eql_b ulB rfl rfl) (show _ = Value.bool true from congrArg Value.bool (decide_eq_true (hq1)))) (by kernel_rfl) rfl ?_
  dsimp only [setd, setn, ev, nth]
  refine K.d_pure 10 rfl (K.pick_t rfl) (by kernel_rfl) rfl ?_
  dsimp only [setd, setn, ev, nth]
  refine K.d_pure 11 rfl (K.move) (by kernel_rfl) rfl ?_
  dsimp only [setd, setn, ev, nth]
  refine K.d_call 12 rfl (K.call_g cal_26 (fun F w hF hw => c26 w)) (fun _ h => h) (by kernel_rfl) rfl ?_
  try dsimp only [setd, setn, ev, nth, over, cl, eI, eP, eT, List.map, List.append, List.drop, List.take]
  refine K.d_pure 13 rfl (K.pick_t rfl) (by kernel_rfl) rfl ?_
  dsimp only [setd, setn, ev, nth]
  refine K.d_pure 14 rfl (K.assign) (by kernel_rfl) rfl ?_
  dsimp only [setd, setn, ev, nth]
  refine K.d_done (by kernel_rfl) ?_
  refine K.norm_then ?_
  refine K.ret ?_
  refine K.end_ret (fun w _ => K.res_tmp rfl w) ?_
  exact K.gives rfl

end Go.Proofs.Ytafkbioeoklldaa
