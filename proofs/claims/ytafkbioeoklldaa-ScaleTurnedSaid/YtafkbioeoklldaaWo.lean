/-
  Walks of the program's functions, printed by program: what each returns.
  Conditions stand in each theorem.
-/
import Derived.Test.YtafkbioeoklldaaKf
import Derived.Test.YtafkbioeoklldaaK2
import Derived.WalkArith
import Derived.Test.YtafkbioeoklldaaS1
import Derived.Test.YtafkbioeoklldaaWa
import Derived.Test.YtafkbioeoklldaaWb
import Derived.Test.YtafkbioeoklldaaWc
import Derived.Test.YtafkbioeoklldaaWd
import Derived.Test.YtafkbioeoklldaaWe
import Derived.Test.YtafkbioeoklldaaWf
import Derived.Test.YtafkbioeoklldaaWn
set_option linter.unusedSimpArgs false
set_option linter.unusedVariables false
namespace Go.Proofs.Ytafkbioeoklldaa
open Go.RowKit Go
open Go.K (setd setn ev nth over cl eI eP eT setM setF)
attribute [local irreducible] K.blk K.row

set_option maxRecDepth 100000 in
theorem c68 (w : World) :
    Calls Try.prog 68 [].toArray w (K.RetS 27 2 K.eP EV w) := by
  refine K.enter (args := []) Try.func68 rfl (n := 23) rfl ?_
  simp only [List.replicate, List.cons_append, List.nil_append]
  refine K.seq ?_
  refine K.region_lit ?_
  refine K.seq_pure (K.assign) rfl ?_
  dsimp only [setd, setn, ev, nth]
  refine K.seq_nil ?_
  refine K.norm_then ?_
  refine K.seq ?_
  refine K.region_lit ?_
  refine K.seq_pure (K.assign) rfl ?_
  dsimp only [setd, setn, ev, nth]
  refine K.seq_nil ?_
  refine K.norm_then ?_
  refine K.seq ?_
  refine K.seq ?_
  refine K.region_lit ?_
  refine K.nil_row (e := 27) (size := 2) ?_
  refine K.seq_pure (K.assign) rfl ?_
  dsimp only [setd, setn, ev, nth]
  refine K.seq_nil ?_
  refine K.norm_then ?_
  refine K.block ?_
  refine K.loopW [1, 2] [3, 4, 5, 6, 7, 8, 9, 10, 11, 12, 13, 14, 15, 16, 17, 18, 19, 20, 21] (fun vi L => ∃ (u : Nat) (z : Int) (Q1 : Option Addr) (n1 q1 : Nat) (ys : List Value), vi = [.slice Q1 n1 q1, .int .i64 z] ∧ L = [K.row (.slice Q1 n1 q1) 27 2 n1 ys] ∧ n1 = (evU u).length ∧ ys = (evU u).flatMap K.eP ∧ z = (u : Int) + 1 ∧ u ≤ 30) (fun vi => 31 - (intOf (K.nth vi 1)).toNat) ?_ ?_
  · exact ⟨0, 1, none, 0, 0, [], rfl, rfl, rfl, rfl, rfl, by omega⟩
  intro vi vr L hJ
  obtain ⟨u, z, Q1, n1, q1, ys, rfl, rfl, hn1, hys, hz, hu⟩ := hJ
  have hul := @evU_len u
  try dsimp only [setd, setn, ev, nth, over, cl, eI, eP, eT, setM, setF, List.map, List.append, List.drop, List.take]
  refine K.seq ?_
  refine K.seq ?_
  refine K.region_lit ?_
  refine K.seq_pure (K.move) rfl ?_
  dsimp only [setd, setn, ev, nth]
  refine K.seq_pure (K.leq rfl rfl) rfl ?_
  dsimp only [setd, setn, ev, nth]
  refine K.seq_nil ?_
  refine K.norm_then ?_
  refine K.cond rfl (fun ht5 => ?_) (fun ht5 => ?_)
  · try replace ht5 := of_decide_eq_true ht5
    refine K.skip ?_
    refine K.norm_then ?_
    refine K.seq ?_
    refine K.block ?_
    refine K.seq ?_
    refine K.region_lit ?_
    refine K.seq_pure (K.assign) rfl ?_
    dsimp only [setd, setn, ev, nth]
    refine K.seq_nil ?_
    refine K.norm_then ?_
    refine K.block ?_
    refine K.loopW [1, 3] [8, 9, 10, 11, 12, 13, 14, 15, 16, 17, 18, 19, 20, 21] (fun vi L => ∃ (j : Nat) (y : Int) (Q2 : Option Addr) (n2 q2 : Nat) (ys2 : List Value), vi = [.slice Q2 n2 q2, .int .i64 y] ∧ L = [K.row (.slice Q2 n2 q2) 27 2 n2 ys2] ∧ n2 = (evU u).length + (evR u j).length ∧ ys2 = (evU u ++ evR u j).flatMap K.eP ∧ y = (j : Int) + 1 ∧ j ≤ 30) (fun vi => 31 - (intOf (K.nth vi 1)).toNat) ?_ ?_
    · exact ⟨0, 1, Q1, n1, q1, ys, rfl, rfl, hn1, by rw [hys, show evR u 0 = [] from rfl, List.append_nil], rfl, by omega⟩
    intro vi vr L hJ
    obtain ⟨j, y, Q2, n2, q2, ys2, rfl, rfl, hn2, hys2, hy, hj⟩ := hJ
    have hrl := @evR_len u j
    try dsimp only [setd, setn, ev, nth, over, cl, eI, eP, eT, setM, setF, List.map, List.append, List.drop, List.take]
    refine K.seq ?_
    refine K.seq ?_
    refine K.region_lit ?_
    refine K.seq_pure (K.move) rfl ?_
    dsimp only [setd, setn, ev, nth]
    refine K.seq_pure (K.leq rfl rfl) rfl ?_
    dsimp only [setd, setn, ev, nth]
    refine K.seq_nil ?_
    refine K.norm_then ?_
    refine K.cond rfl (fun ht9 => ?_) (fun ht9 => ?_)
    · try replace ht9 := of_decide_eq_true ht9
      refine K.skip ?_
      refine K.norm_then ?_
      refine K.seq ?_
      refine K.block ?_
      refine K.seq ?_
      refine K.region_lit ?_
      refine K.seq_pure (K.move) rfl ?_
      dsimp only [setd, setn, ev, nth]
      refine K.seq_pure (K.move) rfl ?_
      dsimp only [setd, setn, ev, nth]
      refine K.seq_call (K.call_g cal_80 (fun F w hF hw => c80 (by omega) (by omega) (by omega) (by omega) w)) rfl ?_
      try dsimp only [setd, setn, ev, nth, over, cl, eI, eP, eT, List.map, List.append, List.drop, List.take]
      first | refine K.seq_pure (K.not_d rfl) rfl ?_ | refine K.seq_pure (K.not_ rfl) rfl ?_
      try dsimp only [setd, setn, ev, nth, over, cl, eI, eP, eT, List.map, List.append, List.drop, List.take]
      refine K.seq_nil ?_
      refine K.norm_then ?_
      refine K.cond rfl (fun ht15 => ?_) (fun ht15 => ?_)
      · try replace ht15 := of_decide_eq_true ht15
        have hcm : cm ((u : Int) + 1) ((j : Int) + 1) = false := by rw [← hz, ← hy]; simpa using ht15
        refine K.region_lit ?_
        refine K.seq_pure (K.move) rfl ?_
        dsimp only [setd, setn, ev, nth]
        refine K.seq_pure (K.move) rfl ?_
        dsimp only [setd, setn, ev, nth]
        refine K.seq_pure (K.move) rfl ?_
        dsimp only [setd, setn, ev, nth]
        refine K.seq_pure (K.build (bl27 _ _)) rfl ?_
        try dsimp only [setd, setn, ev, nth, over, cl, eI, eP, eT, List.map, List.append, List.drop, List.take]
        refine K.seq_new (K.buildSlice (bs27 _ _)) rfl ?_
        intro b20
        try dsimp only [setd, setn, ev, nth, over, cl, eI, eP, eT, List.map, List.append, List.drop, List.take]
        refine K.seq_upd (K.append el_42 rfl rfl (K.PtrL.own' (K.m0)) rfl rfl (by decide) (by omega) (by omega) (fun _ _ => K.rp1)) rfl ?_
        rintro ⟨g21, c21⟩ _
        try dsimp only [setd, setn, ev, nth, over, cl, eI, eP, eT, List.map, List.append, List.drop, List.take]
        refine K.seq_pure (K.assign) rfl ?_
        dsimp only [setd, setn, ev, nth]
        refine K.seq_nil ?_
        refine K.norm_block ?_
        refine K.norm_then ?_
        refine K.region_lit ?_
        refine K.seq_pure (K.move) rfl ?_
        dsimp only [setd, setn, ev, nth]
        refine K.seq_pure (K.add_i64 rfl rfl (by omega)) rfl ?_
        dsimp only [setd, setn, ev, nth]
        refine K.seq_pure (K.assign) rfl ?_
        dsimp only [setd, setn, ev, nth]
        refine K.seq_nil ?_
        exact K.round_endW [.slice (some ⟨g21, 0, none⟩) (n2 + 1) c21, .int .i64 (y + 1)] ⟨j + 1, _, _, _, _, _, rfl, rfl, by rw [evR_t hcm, List.length_append]; simp; omega, by rw [evR_t hcm, ← List.append_assoc, List.flatMap_append, ← hys2, ← hz, ← hy], by omega, by omega⟩ (by simp [K.nth, intOf]; omega) (by repeat (first | exact List.Sublist.refl _ | apply List.Sublist.cons)) (by kernel_rfl)
      try replace ht15 := of_decide_eq_false ht15
      have hcm : cm ((u : Int) + 1) ((j : Int) + 1) = true := by rw [← hz, ← hy]; simpa using ht15
      refine K.skip ?_
      refine K.norm_block ?_
      refine K.norm_then ?_
      refine K.region_lit ?_
      refine K.seq_pure (K.move) rfl ?_
      dsimp only [setd, setn, ev, nth]
      refine K.seq_pure (K.add_i64 rfl rfl (by omega)) rfl ?_
      dsimp only [setd, setn, ev, nth]
      refine K.seq_pure (K.assign) rfl ?_
      dsimp only [setd, setn, ev, nth]
      refine K.seq_nil ?_
      exact K.round_endW [.slice Q2 n2 q2, .int .i64 (y + 1)] ⟨j + 1, _, Q2, n2, q2, ys2, rfl, rfl, by rw [evR_f hcm]; exact hn2, by rw [evR_f hcm]; exact hys2, by omega, by omega⟩ (by simp [K.nth, intOf]; omega) (by repeat (first | exact List.Sublist.refl _ | apply List.Sublist.cons)) (by kernel_rfl)
    try replace ht9 := of_decide_eq_false ht9
    refine K.exit ?_
    refine K.exit_then ?_
    refine K.exit_then ?_
    refine K.exit_here ?_
    refine K.norm_block ?_
    refine K.norm_then ?_
    refine K.region_lit ?_
    refine K.seq_pure (K.move) rfl ?_
    dsimp only [setd, setn, ev, nth]
    refine K.seq_pure (K.add_i64 rfl rfl (by omega)) rfl ?_
    dsimp only [setd, setn, ev, nth]
    refine K.seq_pure (K.assign) rfl ?_
    dsimp only [setd, setn, ev, nth]
    refine K.seq_nil ?_
    have hj30 : j = 30 := by omega
    subst hj30
    exact K.round_endW [.slice Q2 n2 q2, .int .i64 (z + 1)] ⟨u + 1, _, Q2, n2, q2, ys2, rfl, rfl, by rw [evU_succ, List.length_append]; exact hn2, by rw [evU_succ]; exact hys2, by omega, by omega⟩ (by simp [K.nth, intOf]; omega) (by repeat (first | exact List.Sublist.refl _ | apply List.Sublist.cons)) (by kernel_rfl)
  try replace ht5 := of_decide_eq_false ht5
  refine K.exit ?_
  refine K.exit_then ?_
  refine K.exit_then ?_
  refine K.exit_here ?_
  refine K.norm_then ?_
  refine K.seq ?_
  refine K.region_lit ?_
  refine K.seq_pure (K.move) rfl ?_
  dsimp only [setd, setn, ev, nth]
  refine K.seq_pure (K.assign) rfl ?_
  dsimp only [setd, setn, ev, nth]
  refine K.seq_nil ?_
  refine K.norm_then ?_
  refine K.ret ?_
  refine K.end_ret (fun w _ => K.res_tmp rfl w) ?_
  have hu30 : u = 30 := by omega
  subst hu30
  exact K.rets_s (List.Mem.head _) hn1 hys rfl

attribute [local irreducible] EV bestI

set_option maxRecDepth 100000 in
theorem e28 {kind base most : Int} {A B : Option Addr} {c d : Nat} {hs : List Int} {rs : List (Int × Int)} {limit : Int} {w : World} (hH : K.Rd w A 1 K.eI hs) (hR : K.Rd w B 2 K.eP rs) (hn : hs.length ≤ 4611686018427387904) (hm : rs.length ≤ 4611686018427387904) (he : (chk kind base most hs rs).2.2 ≠ 0) :
    Calls Try.prog 28 [.agg #[.int .i64 kind, .int .i64 base, .int .i64 most, .slice A hs.length c, .slice B rs.length d], .int .i64 limit].toArray w (K.Gives (.tuple #[.agg #[.int .i64 0, .int .i64 0], .int .i64 (chk kind base most hs rs).2.2]) w) := by
  refine K.enter (args := [.agg #[.int .i64 kind, .int .i64 base, .int .i64 most, .slice A hs.length c, .slice B rs.length d], .int .i64 limit]) Try.func28 rfl (n := 73) rfl ?_
  simp only [List.replicate, List.cons_append, List.nil_append]
  refine K.seq ?_
  refine K.region_lit ?_
  refine K.seq_new (K.box) rfl ?_
  intro b2
  try dsimp only [setd, setn, ev, nth, over, cl, eI, eP, eT, List.map, List.append, List.drop, List.take]
  refine K.seq_new (K.alloc zr_27) rfl ?_
  intro b4
  try dsimp only [setd, setn, ev, nth, over, cl, eI, eP, eT, List.map, List.append, List.drop, List.take]
  refine K.seq_pure (K.assign) rfl ?_
  dsimp only [setd, setn, ev, nth]
  refine K.seq_nil ?_
  refine K.norm_then ?_
  refine K.seq ?_
  refine K.region_lit ?_
  refine K.seq_sil (K.loadA_own ag_25 rfl (K.m1) rfl) rfl ?_
  try dsimp only [setd, setn, ev, nth, over, cl, eI, eP, eT, List.map, List.append, List.drop, List.take]
  refine K.seq_call (K.call_g cal_16 (fun F w hF hw => c16 (hH.pass hw) (hR.pass hw) hn hm)) rfl ?_
  try dsimp only [setd, setn, ev, nth, over, cl, eI, eP, eT, List.map, List.append, List.drop, List.take]
  refine K.seq_pure (K.move) rfl ?_
  dsimp only [setd, setn, ev, nth]
  refine K.seq_pure (K.extract rfl rfl) rfl ?_
  dsimp only [setd, setn, ev, nth]
  refine K.seq_pure (K.extract rfl rfl) rfl ?_
  dsimp only [setd, setn, ev, nth]
  refine K.seq_pure (K.extract rfl rfl) rfl ?_
  dsimp only [setd, setn, ev, nth]
  refine K.seq_pure (K.assign) rfl ?_
  dsimp only [setd, setn, ev, nth]
  refine K.seq_pure (K.assign) rfl ?_
  dsimp only [setd, setn, ev, nth]
  refine K.seq_pure (K.assign) rfl ?_
  dsimp only [setd, setn, ev, nth]
  refine K.seq_nil ?_
  refine K.norm_then ?_
  refine K.seq ?_
  refine K.seq ?_
  refine K.region_lit ?_
  refine K.seq_pure (K.move) rfl ?_
  dsimp only [setd, setn, ev, nth]
  refine K.seq_pure (K.eql rfl rfl) rfl ?_
  dsimp only [setd, setn, ev, nth]
  refine K.seq_pure (K.move) rfl ?_
  dsimp only [setd, setn, ev, nth]
  refine K.split 20 rfl (fun hg20 => ?_) (fun hg20 => ?_)
  · try replace hg20 := of_decide_eq_true hg20
    exact absurd hg20 he
  try replace hg20 := of_decide_eq_false hg20
  refine K.seq_skip ?_ ?_
  · rfl
  try dsimp only [setd, setn, ev, nth, over, cl, eI, eP, eT, List.map, List.append, List.drop, List.take]
  refine K.seq_skip ?_ ?_
  · rfl
  try dsimp only [setd, setn, ev, nth, over, cl, eI, eP, eT, List.map, List.append, List.drop, List.take]
  refine K.seq_skip ?_ ?_
  · rfl
  try dsimp only [setd, setn, ev, nth, over, cl, eI, eP, eT, List.map, List.append, List.drop, List.take]
  refine K.seq_pure (K.pick_f rfl) rfl ?_
  dsimp only [setd, setn, ev, nth]
  refine K.seq_nil ?_
  refine K.norm_then ?_
  refine K.cond_false rfl ?_
  refine K.skip ?_
  refine K.norm_then ?_
  refine K.seq ?_
  refine K.seq ?_
  refine K.region_lit ?_
  refine K.seq_pure (K.move) rfl ?_
  dsimp only [setd, setn, ev, nth]
  refine K.seq_pure (K.neq rfl rfl) rfl ?_
  dsimp only [setd, setn, ev, nth]
  refine K.seq_nil ?_
  refine K.norm_then ?_
  refine K.cond rfl (fun ht26 => ?_) (fun ht26 => ?_)
  · try replace ht26 := of_decide_eq_true ht26
    refine K.seq ?_
    refine K.region_lit ?_
    refine K.seq_pure (K.build (bl27z)) rfl ?_
    try dsimp only [setd, setn, ev, nth, over, cl, eI, eP, eT, List.map, List.append, List.drop, List.take]
    refine K.seq_pure (K.move) rfl ?_
    dsimp only [setd, setn, ev, nth]
    refine K.seq_st (K.store_all sz_27 rfl rfl rfl rfl (K.rp0)) rfl ?_
    try dsimp only [setd, setn, ev, nth, over, cl, eI, eP, eT, List.map, List.append, List.drop, List.take]
    refine K.seq_pure (K.assign) rfl ?_
    dsimp only [setd, setn, ev, nth]
    refine K.seq_nil ?_
    refine K.norm_then ?_
    refine K.ret ?_
    refine K.ret_then ?_
    refine K.end_ret (fun w hw => K.res_ct rfl rfl (K.run_cellA ag_27 rfl (K.m0) rfl w hw)) ?_
    exact K.gives rfl
  try replace ht26 := of_decide_eq_false ht26
  exact absurd he ht26

set_option maxRecDepth 100000 in
theorem g28 {kind base most : Int} {A B : Option Addr} {c d : Nat} {hs : List Int} {rs : List (Int × Int)} {limit : Int} {w : World} (hH : K.Rd w A 1 K.eI hs) (hR : K.Rd w B 2 K.eP rs) (g : Good kind base most hs rs) :
    Calls Try.prog 28 [.agg #[.int .i64 kind, .int .i64 base, .int .i64 most, .slice A hs.length c, .slice B rs.length d], .int .i64 limit].toArray w (K.Gives (if ¬ (0 ≤ limit ∧ limit ≤ 1000000) then .tuple #[.agg #[.int .i64 0, .int .i64 0], .int .i64 7] else (if ((bestI lessP (okR kind base most hs rs limit)) EV.length) < 0 then .tuple #[.agg #[.int .i64 0, .int .i64 0], .int .i64 9] else .tuple #[.agg #[.int .i64 (EV.getD ((bestI lessP (okR kind base most hs rs limit)) EV.length).toNat default).1, .int .i64 (EV.getD ((bestI lessP (okR kind base most hs rs limit)) EV.length).toNat default).2], .int .i64 0])) w) := by
  have g1 := g.k
  have g2 := g.n
  have g3 := g.r
  have g4 := g.b
  have g5 := g.m
  refine K.enter (args := [.agg #[.int .i64 kind, .int .i64 base, .int .i64 most, .slice A hs.length c, .slice B rs.length d], .int .i64 limit]) Try.func28 rfl (n := 73) rfl ?_
  simp only [List.replicate, List.cons_append, List.nil_append]
  refine K.seq ?_
  refine K.region_lit ?_
  refine K.seq_new (K.box) rfl ?_
  intro b2
  try dsimp only [setd, setn, ev, nth, over, cl, eI, eP, eT, List.map, List.append, List.drop, List.take]
  refine K.seq_new (K.alloc zr_27) rfl ?_
  intro b4
  try dsimp only [setd, setn, ev, nth, over, cl, eI, eP, eT, List.map, List.append, List.drop, List.take]
  refine K.seq_pure (K.assign) rfl ?_
  dsimp only [setd, setn, ev, nth]
  refine K.seq_nil ?_
  refine K.norm_then ?_
  refine K.seq ?_
  refine K.region_lit ?_
  refine K.seq_sil (K.loadA_own ag_25 rfl (K.m1) rfl) rfl ?_
  try dsimp only [setd, setn, ev, nth, over, cl, eI, eP, eT, List.map, List.append, List.drop, List.take]
  refine K.seq_call (K.call_g cal_16 (fun F w hF hw => c16 (hH.pass hw) (hR.pass hw) (by omega) (by omega))) rfl ?_
  try dsimp only [setd, setn, ev, nth, over, cl, eI, eP, eT, List.map, List.append, List.drop, List.take]
  refine K.seq_pure (K.move) rfl ?_
  dsimp only [setd, setn, ev, nth]
  refine K.seq_pure (K.extract rfl rfl) rfl ?_
  dsimp only [setd, setn, ev, nth]
  refine K.seq_pure (K.extract rfl rfl) rfl ?_
  dsimp only [setd, setn, ev, nth]
  refine K.seq_pure (K.extract rfl rfl) rfl ?_
  dsimp only [setd, setn, ev, nth]
  refine K.seq_pure (K.assign) rfl ?_
  dsimp only [setd, setn, ev, nth]
  refine K.seq_pure (K.assign) rfl ?_
  dsimp only [setd, setn, ev, nth]
  refine K.seq_pure (K.assign) rfl ?_
  dsimp only [setd, setn, ev, nth]
  refine K.seq_nil ?_
  refine K.norm_then ?_
  refine K.seq ?_
  refine K.seq ?_
  refine K.region_lit ?_
  refine K.seq_pure (K.move) rfl ?_
  dsimp only [setd, setn, ev, nth]
  refine K.seq_pure (K.eql rfl rfl) rfl ?_
  dsimp only [setd, setn, ev, nth]
  refine K.seq_pure (K.move) rfl ?_
  dsimp only [setd, setn, ev, nth]
  refine K.split 20 rfl (fun hg20 => ?_) (fun hg20 => ?_)
  · try replace hg20 := of_decide_eq_true hg20
    refine K.seq_pure (K.move) rfl ?_
    dsimp only [setd, setn, ev, nth]
    refine K.seq_call (K.call_g cal_57 (fun F w hF hw => c57 w)) rfl ?_
    try dsimp only [setd, setn, ev, nth, over, cl, eI, eP, eT, List.map, List.append, List.drop, List.take]
    first | refine K.seq_pure (K.not_d rfl) rfl ?_ | refine K.seq_pure (K.not_ rfl) rfl ?_
    try dsimp only [setd, setn, ev, nth, over, cl, eI, eP, eT, List.map, List.append, List.drop, List.take]
    refine K.seq_pure (K.pick_t rfl) rfl ?_
    dsimp only [setd, setn, ev, nth]
    refine K.seq_nil ?_
    refine K.norm_then ?_
    refine K.cond rfl (fun ht24 => ?_) (fun ht24 => ?_)
    · try replace ht24 := of_decide_eq_true ht24
      refine K.region_lit ?_
      refine K.seq_pure (K.assign) rfl ?_
      dsimp only [setd, setn, ev, nth]
      refine K.seq_nil ?_
      refine K.norm_then ?_
      refine K.seq ?_
      refine K.seq ?_
      refine K.region_lit ?_
      refine K.seq_pure (K.move) rfl ?_
      dsimp only [setd, setn, ev, nth]
      refine K.seq_pure (K.neq rfl rfl) rfl ?_
      dsimp only [setd, setn, ev, nth]
      refine K.seq_nil ?_
      refine K.norm_then ?_
      refine K.cond rfl (fun ht26 => ?_) (fun ht26 => ?_)
      · try replace ht26 := of_decide_eq_true ht26
        refine K.seq ?_
        refine K.region_lit ?_
        refine K.seq_pure (K.build (bl27z)) rfl ?_
        try dsimp only [setd, setn, ev, nth, over, cl, eI, eP, eT, List.map, List.append, List.drop, List.take]
        refine K.seq_pure (K.move) rfl ?_
        dsimp only [setd, setn, ev, nth]
        refine K.seq_st (K.store_all sz_27 rfl rfl rfl rfl (K.rp0)) rfl ?_
        try dsimp only [setd, setn, ev, nth, over, cl, eI, eP, eT, List.map, List.append, List.drop, List.take]
        refine K.seq_pure (K.assign) rfl ?_
        dsimp only [setd, setn, ev, nth]
        refine K.seq_nil ?_
        refine K.norm_then ?_
        refine K.ret ?_
        refine K.ret_then ?_
        refine K.end_ret (fun w hw => K.res_ct rfl rfl (K.run_cellA ag_27 rfl (K.m0) rfl w hw)) ?_
        exact K.gives (by rw [if_pos (by omega)]; rfl)
      try replace ht26 := of_decide_eq_false ht26
      exact absurd (by decide) ht26
    try replace ht24 := of_decide_eq_false ht24
    refine K.skip ?_
    refine K.norm_then ?_
    refine K.seq ?_
    refine K.seq ?_
    refine K.region_lit ?_
    refine K.seq_pure (K.move) rfl ?_
    dsimp only [setd, setn, ev, nth]
    refine K.seq_pure (K.neq rfl rfl) rfl ?_
    dsimp only [setd, setn, ev, nth]
    refine K.seq_nil ?_
    refine K.norm_then ?_
    refine K.cond rfl (fun ht26 => ?_) (fun ht26 => ?_)
    · try replace ht26 := of_decide_eq_true ht26
      exact absurd (by rw [g.chk]) ht26
    try replace ht26 := of_decide_eq_false ht26
    refine K.skip ?_
    refine K.norm_then ?_
    refine K.seq ?_
    refine K.region_lit ?_
    refine K.seq_loud (K.call_f cal_68 (fun F w hF hw => c68 w)) rfl ?_
    rintro ⟨A1, c1⟩ hA1
    try dsimp only [setd, setn, ev, nth, over, cl, eI, eP, eT, List.map, List.append, List.drop, List.take]
    refine K.seq_pure (K.assign) rfl ?_
    dsimp only [setd, setn, ev, nth]
    refine K.seq_nil ?_
    refine K.norm_then ?_
    refine K.seq ?_
    refine K.region_lit ?_
    refine K.seq_pure (K.assign) rfl ?_
    dsimp only [setd, setn, ev, nth]
    refine K.seq_nil ?_
    refine K.norm_then ?_
    refine K.seq ?_
    refine K.seq ?_
    refine K.region_lit ?_
    refine K.seq_pure (K.assign) rfl ?_
    dsimp only [setd, setn, ev, nth]
    refine K.seq_nil ?_
    refine K.norm_then ?_
    refine K.block ?_
    refine K.loopW [10, 11] [30, 31, 32, 33, 34, 35, 36, 37, 38, 39, 40, 41, 42, 43, 44, 45, 46, 47, 48, 49, 50, 51, 52, 53, 54, 55, 56, 57, 58, 59, 60, 61, 62, 63, 64, 65, 66, 67] (fun vi L => ∃ (i : Nat) (b : Int), vi = [.int .i64 b, .int .i64 (i : Int)] ∧ L = [K.row (.slice A1 EV.length c1) 27 2 EV.length (EV.flatMap K.eP), K.blk b4 27 [.int .i64 0, .int .i64 0], K.blk b2 25 [.int .i64 kind, .int .i64 base, .int .i64 most, .slice A hs.length c, .slice B rs.length d]] ∧ i ≤ EV.length ∧ b = (bestI lessP (okR kind base most hs rs limit)) i) (fun vi => EV.length - (intOf (K.nth vi 1)).toNat) ?_ ?_
    · exact ⟨0, -1, rfl, rfl, Nat.zero_le _, bestI_0.symm⟩
    intro vi vr L hJ
    obtain ⟨i, b, rfl, rfl, hin, hb⟩ := hJ
    have hbb := bestI_bd (better := lessP) (ok := (okR kind base most hs rs limit)) i
    rw [← hb] at hbb
    have hel := ev_len
    try dsimp only [setd, setn, ev, nth, over, cl, eI, eP, eT, setM, setF, List.map, List.append, List.drop, List.take]
    refine K.seq ?_
    refine K.seq ?_
    refine K.region_lit ?_
    refine K.seq_pure (K.move) rfl ?_
    dsimp only [setd, setn, ev, nth]
    refine K.seq_pure (K.move) rfl ?_
    dsimp only [setd, setn, ev, nth]
    refine K.seq_pure (K.len_sl sl_42 rfl) rfl ?_
    dsimp only [setd, setn, ev, nth]
    refine K.seq_pure (K.lss rfl rfl) rfl ?_
    dsimp only [setd, setn, ev, nth]
    refine K.seq_nil ?_
    refine K.norm_then ?_
    refine K.cond rfl (fun ht33 => ?_) (fun ht33 => ?_)
    · try replace ht33 := of_decide_eq_true ht33
      have hi : i < EV.length := by omega
      have hp := ev_parts hi
      have hpb : 0 ≤ b → Parts (EV.getD b.toNat default).1 (EV.getD b.toNat default).2 := fun h => ev_parts (by omega)
      refine K.skip ?_
      refine K.norm_then ?_
      refine K.seq ?_
      refine K.block ?_
      refine K.seq ?_
      refine K.draw_L [] Try_mixed ?_
      refine K.d_pure 0 rfl (K.move) (by kernel_rfl) rfl ?_
      dsimp only [setd, setn, ev, nth]
      refine K.d_pure 1 rfl (K.lss rfl rfl) (by kernel_rfl) rfl ?_
      dsimp only [setd, setn, ev, nth]
      refine K.d_pure 2 rfl (K.move) (by kernel_rfl) rfl ?_
      dsimp only [setd, setn, ev, nth]
      refine K.dsplit 38 rfl (fun hg38 => ?_) (fun hg38 => ?_)
      · try replace hg38 := of_decide_eq_true hg38
        refine K.d_skip 3 rfl (by kernel_rfl) rfl ?_
        try dsimp only [setd, setn, ev, nth, over, cl, eI, eP, eT, List.map, List.append, List.drop, List.take]
        refine K.d_skip 4 rfl (by kernel_rfl) rfl ?_
        try dsimp only [setd, setn, ev, nth, over, cl, eI, eP, eT, List.map, List.append, List.drop, List.take]
        refine K.d_skip 5 rfl (by kernel_rfl) rfl ?_
        try dsimp only [setd, setn, ev, nth, over, cl, eI, eP, eT, List.map, List.append, List.drop, List.take]
        refine K.d_skip 6 rfl (by kernel_rfl) rfl ?_
        try dsimp only [setd, setn, ev, nth, over, cl, eI, eP, eT, List.map, List.append, List.drop, List.take]
        refine K.d_skip 7 rfl (by kernel_rfl) rfl ?_
        try dsimp only [setd, setn, ev, nth, over, cl, eI, eP, eT, List.map, List.append, List.drop, List.take]
        refine K.d_skip 8 rfl (by kernel_rfl) rfl ?_
        try dsimp only [setd, setn, ev, nth, over, cl, eI, eP, eT, List.map, List.append, List.drop, List.take]
        refine K.d_skip 9 rfl (by kernel_rfl) rfl ?_
        try dsimp only [setd, setn, ev, nth, over, cl, eI, eP, eT, List.map, List.append, List.drop, List.take]
        refine K.d_skip 10 rfl (by kernel_rfl) rfl ?_
        try dsimp only [setd, setn, ev, nth, over, cl, eI, eP, eT, List.map, List.append, List.drop, List.take]
        refine K.d_skip 11 rfl (by kernel_rfl) rfl ?_
        try dsimp only [setd, setn, ev, nth, over, cl, eI, eP, eT, List.map, List.append, List.drop, List.take]
        refine K.d_pure 12 rfl (K.pick_t rfl) (by kernel_rfl) rfl ?_
        dsimp only [setd, setn, ev, nth]
        refine K.d_pure 13 rfl (K.move) (by kernel_rfl) rfl ?_
        dsimp only [setd, setn, ev, nth]
        refine K.d_mem 14 rfl (K.loadA_own ag_25 rfl (K.m2) rfl) (fun _ h => h) (by kernel_rfl) (by kernel_rfl) rfl ?_
        try dsimp only [setd, setn, ev, nth, over, cl, eI, eP, eT, List.map, List.append, List.drop, List.take]
        refine K.d_pure 15 rfl (K.move) (by kernel_rfl) rfl ?_
        dsimp only [setd, setn, ev, nth]
        refine K.d_pure 16 rfl (K.move) (by kernel_rfl) rfl ?_
        dsimp only [setd, setn, ev, nth]
        refine K.d_ix (M := [_]) 17 _ rfl (K.Sl.own (t := 27) (c := c1) (size := 2) (e := K.eP) hA1 (fun _ => rfl)) sl_42 rfl rfl rfl (by omega) (by kernel_rfl) rfl ?_
        intro p53 hp53
        try dsimp only [setd, setn, ev, nth, over, cl, eI, eP, eT, List.map, List.append, List.drop, List.take]
        refine K.d_mem 18 rfl (K.loadA_p ag_27 rfl (hp53.at1 (K.m0)) rfl) (fun _ h => h) (by kernel_rfl) (by kernel_rfl) rfl ?_
        try dsimp only [setd, setn, ev, nth, over, cl, eI, eP, eT, List.map, List.append, List.drop, List.take]
        refine K.d_call 19 rfl (K.call_g cal_46 (fun F w hF hw => c46 (hH.pass hw) (hR.pass hw) g hp)) (fun _ h => h) (by kernel_rfl) rfl ?_
        try dsimp only [setd, setn, ev, nth, over, cl, eI, eP, eT, List.map, List.append, List.drop, List.take]
        refine K.d_pure 20 rfl (K.pick_t rfl) (by kernel_rfl) rfl ?_
        dsimp only [setd, setn, ev, nth]
        refine K.d_pure 21 rfl (K.move) (by kernel_rfl) rfl ?_
        dsimp only [setd, setn, ev, nth]
        refine K.dsplit 57 rfl (fun hg57 => ?_) (fun hg57 => ?_)
        · try replace hg57 := of_decide_eq_true hg57
          refine K.d_mem 22 rfl (K.loadA_own ag_25 rfl (K.m2) rfl) (fun _ h => h) (by kernel_rfl) (by kernel_rfl) rfl ?_
          try dsimp only [setd, setn, ev, nth, over, cl, eI, eP, eT, List.map, List.append, List.drop, List.take]
          refine K.d_pure 23 rfl (K.move) (by kernel_rfl) rfl ?_
          dsimp only [setd, setn, ev, nth]
          refine K.d_pure 24 rfl (K.move) (by kernel_rfl) rfl ?_
          dsimp only [setd, setn, ev, nth]
          refine K.d_ix (M := [_]) 25 _ rfl (K.Sl.own (t := 27) (c := c1) (size := 2) (e := K.eP) hA1 (fun _ => rfl)) sl_42 rfl rfl rfl (by omega) (by kernel_rfl) rfl ?_
          intro p61 hp61
          try dsimp only [setd, setn, ev, nth, over, cl, eI, eP, eT, List.map, List.append, List.drop, List.take]
          refine K.d_mem 26 rfl (K.loadA_p ag_27 rfl (hp61.at1 (K.m0)) rfl) (fun _ h => h) (by kernel_rfl) (by kernel_rfl) rfl ?_
          try dsimp only [setd, setn, ev, nth, over, cl, eI, eP, eT, List.map, List.append, List.drop, List.take]
          refine K.d_pure 28 rfl (K.move) (by kernel_rfl) rfl ?_
          dsimp only [setd, setn, ev, nth]
          refine K.d_call 27 rfl (K.call_g cal_69 (fun F w hF hw => c69 (hH.pass hw) (hR.pass hw) g hp)) (fun _ h => h) (by kernel_rfl) rfl ?_
          try dsimp only [setd, setn, ev, nth, over, cl, eI, eP, eT, List.map, List.append, List.drop, List.take]
          refine K.d_pure 29 rfl (K.leq rfl rfl) (by kernel_rfl) rfl ?_
          dsimp only [setd, setn, ev, nth]
          refine K.d_pure 30 rfl (K.pick_t rfl) (by kernel_rfl) rfl ?_
          dsimp only [setd, setn, ev, nth]
          refine K.d_done (by kernel_rfl) ?_
          refine K.norm_then ?_
          refine K.cond rfl (fun ht66 => ?_) (fun ht66 => ?_)
          · try replace ht66 := of_decide_eq_true ht66
            refine K.region_lit ?_
            refine K.seq_pure (K.move) rfl ?_
            dsimp only [setd, setn, ev, nth]
            refine K.seq_pure (K.assign) rfl ?_
            dsimp only [setd, setn, ev, nth]
            refine K.seq_nil ?_
            refine K.norm_block ?_
            refine K.norm_then ?_
            refine K.region_lit ?_
            refine K.seq_pure (K.move) rfl ?_
            dsimp only [setd, setn, ev, nth]
            refine K.seq_pure (K.add_i64 rfl rfl (by omega)) rfl ?_
            dsimp only [setd, setn, ev, nth]
            refine K.seq_pure (K.assign) rfl ?_
            dsimp only [setd, setn, ev, nth]
            refine K.seq_nil ?_
            first | exact K.round_endW [.int .i64 (i : Int), .int .i64 ((i : Int) + 1)] ⟨i + 1, _, rfl, rfl, by omega, bestI_t hb (.inl hg38) (and_t hg57 ht66)⟩ (by simp [K.nth, intOf]; omega) (by repeat (first | exact List.Sublist.refl _ | apply List.Sublist.cons)) (by kernel_rfl) | exact K.round_endW [.int .i64 b, .int .i64 ((i : Int) + 1)] ⟨i + 1, _, rfl, rfl, by omega, bestI_f2 hb (and_f2 ht66)⟩ (by simp [K.nth, intOf]; omega) (by repeat (first | exact List.Sublist.refl _ | apply List.Sublist.cons)) (by kernel_rfl)
          try replace ht66 := of_decide_eq_false ht66
          refine K.skip ?_
          refine K.norm_block ?_
          refine K.norm_then ?_
          refine K.region_lit ?_
          refine K.seq_pure (K.move) rfl ?_
          dsimp only [setd, setn, ev, nth]
          refine K.seq_pure (K.add_i64 rfl rfl (by omega)) rfl ?_
          dsimp only [setd, setn, ev, nth]
          refine K.seq_pure (K.assign) rfl ?_
          dsimp only [setd, setn, ev, nth]
          refine K.seq_nil ?_
          first | exact K.round_endW [.int .i64 (i : Int), .int .i64 ((i : Int) + 1)] ⟨i + 1, _, rfl, rfl, by omega, bestI_t hb (.inl hg38) (and_t hg57 ht66)⟩ (by simp [K.nth, intOf]; omega) (by repeat (first | exact List.Sublist.refl _ | apply List.Sublist.cons)) (by kernel_rfl) | exact K.round_endW [.int .i64 b, .int .i64 ((i : Int) + 1)] ⟨i + 1, _, rfl, rfl, by omega, bestI_f2 hb (and_f2 ht66)⟩ (by simp [K.nth, intOf]; omega) (by repeat (first | exact List.Sublist.refl _ | apply List.Sublist.cons)) (by kernel_rfl)
        try replace hg57 := of_decide_eq_false hg57
        refine K.d_skip 22 rfl (by kernel_rfl) rfl ?_
        try dsimp only [setd, setn, ev, nth, over, cl, eI, eP, eT, List.map, List.append, List.drop, List.take]
        refine K.d_skip 23 rfl (by kernel_rfl) rfl ?_
        try dsimp only [setd, setn, ev, nth, over, cl, eI, eP, eT, List.map, List.append, List.drop, List.take]
        refine K.d_skip 24 rfl (by kernel_rfl) rfl ?_
        try dsimp only [setd, setn, ev, nth, over, cl, eI, eP, eT, List.map, List.append, List.drop, List.take]
        refine K.d_skip 25 rfl (by kernel_rfl) rfl ?_
        try dsimp only [setd, setn, ev, nth, over, cl, eI, eP, eT, List.map, List.append, List.drop, List.take]
        refine K.d_skip 26 rfl (by kernel_rfl) rfl ?_
        try dsimp only [setd, setn, ev, nth, over, cl, eI, eP, eT, List.map, List.append, List.drop, List.take]
        refine K.d_skip 27 rfl (by kernel_rfl) rfl ?_
        try dsimp only [setd, setn, ev, nth, over, cl, eI, eP, eT, List.map, List.append, List.drop, List.take]
        refine K.d_skip 28 rfl (by kernel_rfl) rfl ?_
        try dsimp only [setd, setn, ev, nth, over, cl, eI, eP, eT, List.map, List.append, List.drop, List.take]
        refine K.d_skip 29 rfl (by kernel_rfl) rfl ?_
        try dsimp only [setd, setn, ev, nth, over, cl, eI, eP, eT, List.map, List.append, List.drop, List.take]
        refine K.d_pure 30 rfl (K.pick_f rfl) (by kernel_rfl) rfl ?_
        dsimp only [setd, setn, ev, nth]
        refine K.d_done (by kernel_rfl) ?_
        refine K.norm_then ?_
        refine K.cond_false rfl ?_
        refine K.skip ?_
        refine K.norm_block ?_
        refine K.norm_then ?_
        refine K.region_lit ?_
        refine K.seq_pure (K.move) rfl ?_
        dsimp only [setd, setn, ev, nth]
        refine K.seq_pure (K.add_i64 rfl rfl (by omega)) rfl ?_
        dsimp only [setd, setn, ev, nth]
        refine K.seq_pure (K.assign) rfl ?_
        dsimp only [setd, setn, ev, nth]
        refine K.seq_nil ?_
        exact K.round_endW [.int .i64 b, .int .i64 ((i : Int) + 1)] ⟨i + 1, _, rfl, rfl, by omega, bestI_f2 hb (and_f1 hg57)⟩ (by simp [K.nth, intOf]; omega) (by repeat (first | exact List.Sublist.refl _ | apply List.Sublist.cons)) (by kernel_rfl)
      try replace hg38 := of_decide_eq_false hg38
      refine K.d_pure 3 rfl (K.move) (by kernel_rfl) rfl ?_
      dsimp only [setd, setn, ev, nth]
      refine K.d_pure 4 rfl (K.move) (by kernel_rfl) rfl ?_
      dsimp only [setd, setn, ev, nth]
      refine K.d_ix (M := [_]) 5 b.toNat rfl (K.Sl.own (t := 27) (c := c1) (size := 2) (e := K.eP) hA1 (fun _ => rfl)) sl_42 rfl rfl (by omega) (by omega) (by kernel_rfl) rfl ?_
      intro p41 hp41
      try dsimp only [setd, setn, ev, nth, over, cl, eI, eP, eT, List.map, List.append, List.drop, List.take]
      refine K.d_mem 6 rfl (K.loadA_p ag_27 rfl (hp41.at1 (K.m0)) rfl) (fun _ h => h) (by kernel_rfl) (by kernel_rfl) rfl ?_
      try dsimp only [setd, setn, ev, nth, over, cl, eI, eP, eT, List.map, List.append, List.drop, List.take]
      refine K.d_pure 7 rfl (K.move) (by kernel_rfl) rfl ?_
      dsimp only [setd, setn, ev, nth]
      refine K.d_pure 8 rfl (K.move) (by kernel_rfl) rfl ?_
      dsimp only [setd, setn, ev, nth]
      refine K.d_ix (M := [_]) 9 _ rfl (K.Sl.own (t := 27) (c := c1) (size := 2) (e := K.eP) hA1 (fun _ => rfl)) sl_42 rfl rfl rfl (by omega) (by kernel_rfl) rfl ?_
      intro p45 hp45
      try dsimp only [setd, setn, ev, nth, over, cl, eI, eP, eT, List.map, List.append, List.drop, List.take]
      refine K.d_mem 10 rfl (K.loadA_p ag_27 rfl (hp45.at1 (K.m0)) rfl) (fun _ h => h) (by kernel_rfl) (by kernel_rfl) rfl ?_
      try dsimp only [setd, setn, ev, nth, over, cl, eI, eP, eT, List.map, List.append, List.drop, List.take]
      refine K.d_call 11 rfl (K.call_g cal_43 (fun F w hF hw => c43 (by have := hpb (by omega); omega) (by have := hpb (by omega); omega) (by have := hpb (by omega); omega) (by have := hpb (by omega); omega) (by omega) (by omega) (by omega) (by omega) w)) (fun _ h => h) (by kernel_rfl) rfl ?_
      try dsimp only [setd, setn, ev, nth, over, cl, eI, eP, eT, List.map, List.append, List.drop, List.take]
      refine K.d_pure 12 rfl (K.pick_f rfl) (by kernel_rfl) rfl ?_
      dsimp only [setd, setn, ev, nth]
      refine K.d_pure 13 rfl (K.move) (by kernel_rfl) rfl ?_
      dsimp only [setd, setn, ev, nth]
      refine K.dsplit 49 rfl (fun hg49 => ?_) (fun hg49 => ?_)
      · try replace hg49 := of_decide_eq_true hg49
        refine K.d_mem 14 rfl (K.loadA_own ag_25 rfl (K.m2) rfl) (fun _ h => h) (by kernel_rfl) (by kernel_rfl) rfl ?_
        try dsimp only [setd, setn, ev, nth, over, cl, eI, eP, eT, List.map, List.append, List.drop, List.take]
        refine K.d_pure 15 rfl (K.move) (by kernel_rfl) rfl ?_
        dsimp only [setd, setn, ev, nth]
        refine K.d_pure 16 rfl (K.move) (by kernel_rfl) rfl ?_
        dsimp only [setd, setn, ev, nth]
        refine K.d_ix (M := [_]) 17 _ rfl (K.Sl.own (t := 27) (c := c1) (size := 2) (e := K.eP) hA1 (fun _ => rfl)) sl_42 rfl rfl rfl (by omega) (by kernel_rfl) rfl ?_
        intro p53 hp53
        try dsimp only [setd, setn, ev, nth, over, cl, eI, eP, eT, List.map, List.append, List.drop, List.take]
        refine K.d_mem 18 rfl (K.loadA_p ag_27 rfl (hp53.at1 (K.m0)) rfl) (fun _ h => h) (by kernel_rfl) (by kernel_rfl) rfl ?_
        try dsimp only [setd, setn, ev, nth, over, cl, eI, eP, eT, List.map, List.append, List.drop, List.take]
        refine K.d_call 19 rfl (K.call_g cal_46 (fun F w hF hw => c46 (hH.pass hw) (hR.pass hw) g hp)) (fun _ h => h) (by kernel_rfl) rfl ?_
        try dsimp only [setd, setn, ev, nth, over, cl, eI, eP, eT, List.map, List.append, List.drop, List.take]
        refine K.d_pure 20 rfl (K.pick_t rfl) (by kernel_rfl) rfl ?_
        dsimp only [setd, setn, ev, nth]
        refine K.d_pure 21 rfl (K.move) (by kernel_rfl) rfl ?_
        dsimp only [setd, setn, ev, nth]
        refine K.dsplit 57 rfl (fun hg57 => ?_) (fun hg57 => ?_)
        · try replace hg57 := of_decide_eq_true hg57
          refine K.d_mem 22 rfl (K.loadA_own ag_25 rfl (K.m2) rfl) (fun _ h => h) (by kernel_rfl) (by kernel_rfl) rfl ?_
          try dsimp only [setd, setn, ev, nth, over, cl, eI, eP, eT, List.map, List.append, List.drop, List.take]
          refine K.d_pure 23 rfl (K.move) (by kernel_rfl) rfl ?_
          dsimp only [setd, setn, ev, nth]
          refine K.d_pure 24 rfl (K.move) (by kernel_rfl) rfl ?_
          dsimp only [setd, setn, ev, nth]
          refine K.d_ix (M := [_]) 25 _ rfl (K.Sl.own (t := 27) (c := c1) (size := 2) (e := K.eP) hA1 (fun _ => rfl)) sl_42 rfl rfl rfl (by omega) (by kernel_rfl) rfl ?_
          intro p61 hp61
          try dsimp only [setd, setn, ev, nth, over, cl, eI, eP, eT, List.map, List.append, List.drop, List.take]
          refine K.d_mem 26 rfl (K.loadA_p ag_27 rfl (hp61.at1 (K.m0)) rfl) (fun _ h => h) (by kernel_rfl) (by kernel_rfl) rfl ?_
          try dsimp only [setd, setn, ev, nth, over, cl, eI, eP, eT, List.map, List.append, List.drop, List.take]
          refine K.d_pure 28 rfl (K.move) (by kernel_rfl) rfl ?_
          dsimp only [setd, setn, ev, nth]
          refine K.d_call 27 rfl (K.call_g cal_69 (fun F w hF hw => c69 (hH.pass hw) (hR.pass hw) g hp)) (fun _ h => h) (by kernel_rfl) rfl ?_
          try dsimp only [setd, setn, ev, nth, over, cl, eI, eP, eT, List.map, List.append, List.drop, List.take]
          refine K.d_pure 29 rfl (K.leq rfl rfl) (by kernel_rfl) rfl ?_
          dsimp only [setd, setn, ev, nth]
          refine K.d_pure 30 rfl (K.pick_t rfl) (by kernel_rfl) rfl ?_
          dsimp only [setd, setn, ev, nth]
          refine K.d_done (by kernel_rfl) ?_
          refine K.norm_then ?_
          refine K.cond rfl (fun ht66 => ?_) (fun ht66 => ?_)
          · try replace ht66 := of_decide_eq_true ht66
            refine K.region_lit ?_
            refine K.seq_pure (K.move) rfl ?_
            dsimp only [setd, setn, ev, nth]
            refine K.seq_pure (K.assign) rfl ?_
            dsimp only [setd, setn, ev, nth]
            refine K.seq_nil ?_
            refine K.norm_block ?_
            refine K.norm_then ?_
            refine K.region_lit ?_
            refine K.seq_pure (K.move) rfl ?_
            dsimp only [setd, setn, ev, nth]
            refine K.seq_pure (K.add_i64 rfl rfl (by omega)) rfl ?_
            dsimp only [setd, setn, ev, nth]
            refine K.seq_pure (K.assign) rfl ?_
            dsimp only [setd, setn, ev, nth]
            refine K.seq_nil ?_
            first | exact K.round_endW [.int .i64 (i : Int), .int .i64 ((i : Int) + 1)] ⟨i + 1, _, rfl, rfl, by omega, bestI_t hb (.inr (decide_eq_true hg49)) (and_t hg57 ht66)⟩ (by simp [K.nth, intOf]; omega) (by repeat (first | exact List.Sublist.refl _ | apply List.Sublist.cons)) (by kernel_rfl) | exact K.round_endW [.int .i64 b, .int .i64 ((i : Int) + 1)] ⟨i + 1, _, rfl, rfl, by omega, bestI_f2 hb (and_f2 ht66)⟩ (by simp [K.nth, intOf]; omega) (by repeat (first | exact List.Sublist.refl _ | apply List.Sublist.cons)) (by kernel_rfl)
          try replace ht66 := of_decide_eq_false ht66
          refine K.skip ?_
          refine K.norm_block ?_
          refine K.norm_then ?_
          refine K.region_lit ?_
          refine K.seq_pure (K.move) rfl ?_
          dsimp only [setd, setn, ev, nth]
          refine K.seq_pure (K.add_i64 rfl rfl (by omega)) rfl ?_
          dsimp only [setd, setn, ev, nth]
          refine K.seq_pure (K.assign) rfl ?_
          dsimp only [setd, setn, ev, nth]
          refine K.seq_nil ?_
          first | exact K.round_endW [.int .i64 (i : Int), .int .i64 ((i : Int) + 1)] ⟨i + 1, _, rfl, rfl, by omega, bestI_t hb (.inr (decide_eq_true hg49)) (and_t hg57 ht66)⟩ (by simp [K.nth, intOf]; omega) (by repeat (first | exact List.Sublist.refl _ | apply List.Sublist.cons)) (by kernel_rfl) | exact K.round_endW [.int .i64 b, .int .i64 ((i : Int) + 1)] ⟨i + 1, _, rfl, rfl, by omega, bestI_f2 hb (and_f2 ht66)⟩ (by simp [K.nth, intOf]; omega) (by repeat (first | exact List.Sublist.refl _ | apply List.Sublist.cons)) (by kernel_rfl)
        try replace hg57 := of_decide_eq_false hg57
        refine K.d_skip 22 rfl (by kernel_rfl) rfl ?_
        try dsimp only [setd, setn, ev, nth, over, cl, eI, eP, eT, List.map, List.append, List.drop, List.take]
        refine K.d_skip 23 rfl (by kernel_rfl) rfl ?_
        try dsimp only [setd, setn, ev, nth, over, cl, eI, eP, eT, List.map, List.append, List.drop, List.take]
        refine K.d_skip 24 rfl (by kernel_rfl) rfl ?_
        try dsimp only [setd, setn, ev, nth, over, cl, eI, eP, eT, List.map, List.append, List.drop, List.take]
        refine K.d_skip 25 rfl (by kernel_rfl) rfl ?_
        try dsimp only [setd, setn, ev, nth, over, cl, eI, eP, eT, List.map, List.append, List.drop, List.take]
        refine K.d_skip 26 rfl (by kernel_rfl) rfl ?_
        try dsimp only [setd, setn, ev, nth, over, cl, eI, eP, eT, List.map, List.append, List.drop, List.take]
        refine K.d_skip 27 rfl (by kernel_rfl) rfl ?_
        try dsimp only [setd, setn, ev, nth, over, cl, eI, eP, eT, List.map, List.append, List.drop, List.take]
        refine K.d_skip 28 rfl (by kernel_rfl) rfl ?_
        try dsimp only [setd, setn, ev, nth, over, cl, eI, eP, eT, List.map, List.append, List.drop, List.take]
        refine K.d_skip 29 rfl (by kernel_rfl) rfl ?_
        try dsimp only [setd, setn, ev, nth, over, cl, eI, eP, eT, List.map, List.append, List.drop, List.take]
        refine K.d_pure 30 rfl (K.pick_f rfl) (by kernel_rfl) rfl ?_
        dsimp only [setd, setn, ev, nth]
        refine K.d_done (by kernel_rfl) ?_
        refine K.norm_then ?_
        refine K.cond_false rfl ?_
        refine K.skip ?_
        refine K.norm_block ?_
        refine K.norm_then ?_
        refine K.region_lit ?_
        refine K.seq_pure (K.move) rfl ?_
        dsimp only [setd, setn, ev, nth]
        refine K.seq_pure (K.add_i64 rfl rfl (by omega)) rfl ?_
        dsimp only [setd, setn, ev, nth]
        refine K.seq_pure (K.assign) rfl ?_
        dsimp only [setd, setn, ev, nth]
        refine K.seq_nil ?_
        exact K.round_endW [.int .i64 b, .int .i64 ((i : Int) + 1)] ⟨i + 1, _, rfl, rfl, by omega, bestI_f2 hb (and_f1 hg57)⟩ (by simp [K.nth, intOf]; omega) (by repeat (first | exact List.Sublist.refl _ | apply List.Sublist.cons)) (by kernel_rfl)
      try replace hg49 := of_decide_eq_false hg49
      refine K.d_skip 14 rfl (by kernel_rfl) rfl ?_
      try dsimp only [setd, setn, ev, nth, over, cl, eI, eP, eT, List.map, List.append, List.drop, List.take]
      refine K.d_skip 15 rfl (by kernel_rfl) rfl ?_
      try dsimp only [setd, setn, ev, nth, over, cl, eI, eP, eT, List.map, List.append, List.drop, List.take]
      refine K.d_skip 16 rfl (by kernel_rfl) rfl ?_
      try dsimp only [setd, setn, ev, nth, over, cl, eI, eP, eT, List.map, List.append, List.drop, List.take]
      refine K.d_skip 17 rfl (by kernel_rfl) rfl ?_
      try dsimp only [setd, setn, ev, nth, over, cl, eI, eP, eT, List.map, List.append, List.drop, List.take]
      refine K.d_skip 18 rfl (by kernel_rfl) rfl ?_
      try dsimp only [setd, setn, ev, nth, over, cl, eI, eP, eT, List.map, List.append, List.drop, List.take]
      refine K.d_skip 19 rfl (by kernel_rfl) rfl ?_
      try dsimp only [setd, setn, ev, nth, over, cl, eI, eP, eT, List.map, List.append, List.drop, List.take]
      refine K.d_pure 20 rfl (K.pick_f rfl) (by kernel_rfl) rfl ?_
      dsimp only [setd, setn, ev, nth]
      refine K.d_pure 21 rfl (K.move) (by kernel_rfl) rfl ?_
      dsimp only [setd, setn, ev, nth]
      refine K.d_skip 22 rfl (by kernel_rfl) rfl ?_
      try dsimp only [setd, setn, ev, nth, over, cl, eI, eP, eT, List.map, List.append, List.drop, List.take]
      refine K.d_skip 23 rfl (by kernel_rfl) rfl ?_
      try dsimp only [setd, setn, ev, nth, over, cl, eI, eP, eT, List.map, List.append, List.drop, List.take]
      refine K.d_skip 24 rfl (by kernel_rfl) rfl ?_
      try dsimp only [setd, setn, ev, nth, over, cl, eI, eP, eT, List.map, List.append, List.drop, List.take]
      refine K.d_skip 25 rfl (by kernel_rfl) rfl ?_
      try dsimp only [setd, setn, ev, nth, over, cl, eI, eP, eT, List.map, List.append, List.drop, List.take]
      refine K.d_skip 26 rfl (by kernel_rfl) rfl ?_
      try dsimp only [setd, setn, ev, nth, over, cl, eI, eP, eT, List.map, List.append, List.drop, List.take]
      refine K.d_skip 27 rfl (by kernel_rfl) rfl ?_
      try dsimp only [setd, setn, ev, nth, over, cl, eI, eP, eT, List.map, List.append, List.drop, List.take]
      refine K.d_skip 28 rfl (by kernel_rfl) rfl ?_
      try dsimp only [setd, setn, ev, nth, over, cl, eI, eP, eT, List.map, List.append, List.drop, List.take]
      refine K.d_skip 29 rfl (by kernel_rfl) rfl ?_
      try dsimp only [setd, setn, ev, nth, over, cl, eI, eP, eT, List.map, List.append, List.drop, List.take]
      refine K.d_pure 30 rfl (K.pick_f rfl) (by kernel_rfl) rfl ?_
      dsimp only [setd, setn, ev, nth]
      refine K.d_done (by kernel_rfl) ?_
      refine K.norm_then ?_
      refine K.cond_false rfl ?_
      refine K.skip ?_
      refine K.norm_block ?_
      refine K.norm_then ?_
      refine K.region_lit ?_
      refine K.seq_pure (K.move) rfl ?_
      dsimp only [setd, setn, ev, nth]
      refine K.seq_pure (K.add_i64 rfl rfl (by omega)) rfl ?_
      dsimp only [setd, setn, ev, nth]
      refine K.seq_pure (K.assign) rfl ?_
      dsimp only [setd, setn, ev, nth]
      refine K.seq_nil ?_
      exact K.round_endW [.int .i64 b, .int .i64 ((i : Int) + 1)] ⟨i + 1, _, rfl, rfl, by omega, bestI_f1 hb hg38 (decide_eq_false hg49)⟩ (by simp [K.nth, intOf]; omega) (by repeat (first | exact List.Sublist.refl _ | apply List.Sublist.cons)) (by kernel_rfl)
    try replace ht33 := of_decide_eq_false ht33
    refine K.exit ?_
    refine K.exit_then ?_
    refine K.exit_then ?_
    refine K.exit_here ?_
    refine K.norm_then ?_
    refine K.seq ?_
    refine K.seq ?_
    refine K.region_lit ?_
    refine K.seq_pure (K.move) rfl ?_
    dsimp only [setd, setn, ev, nth]
    refine K.seq_pure (K.lss rfl rfl) rfl ?_
    dsimp only [setd, setn, ev, nth]
    refine K.seq_nil ?_
    refine K.norm_then ?_
    refine K.cond rfl (fun ht69 => ?_) (fun ht69 => ?_)
    · try replace ht69 := of_decide_eq_true ht69
      refine K.seq ?_
      refine K.region_lit ?_
      refine K.seq_pure (K.build (bl27z)) rfl ?_
      try dsimp only [setd, setn, ev, nth, over, cl, eI, eP, eT, List.map, List.append, List.drop, List.take]
      refine K.seq_st (K.store_all sz_27 rfl rfl rfl rfl (K.rp1)) rfl ?_
      try dsimp only [setd, setn, ev, nth, over, cl, eI, eP, eT, List.map, List.append, List.drop, List.take]
      refine K.seq_pure (K.assign) rfl ?_
      dsimp only [setd, setn, ev, nth]
      refine K.seq_nil ?_
      refine K.norm_then ?_
      refine K.ret ?_
      refine K.ret_then ?_
      refine K.end_ret (fun w hw => K.res_ct rfl rfl (K.run_cellA ag_27 rfl (K.m1) rfl w hw)) ?_
      have hie : i = EV.length := by omega
      subst hie
      exact K.gives (by rw [if_neg (by omega), if_pos (by rw [← hb]; assumption)]; rfl)
    try replace ht69 := of_decide_eq_false ht69
    refine K.skip ?_
    refine K.norm_then ?_
    refine K.seq ?_
    skip
    refine K.region_lit ?_
    refine K.seq_pure (K.move) rfl ?_
    dsimp only [setd, setn, ev, nth]
    refine K.seq_pure (K.move) rfl ?_
    dsimp only [setd, setn, ev, nth]
    refine K.seq_ix (M := [_]) b.toNat (K.Sl.own (t := 27) (c := c1) (size := 2) (e := K.eP) hA1 (fun _ => rfl)) sl_42 rfl rfl (by omega) (by omega) rfl ?_
    intro p73 hp73
    try dsimp only [setd, setn, ev, nth, over, cl, eI, eP, eT, List.map, List.append, List.drop, List.take]
    refine K.seq_sil (K.loadA_p ag_27 rfl (hp73.at1 (K.m0)) rfl) rfl ?_
    try dsimp only [setd, setn, ev, nth, over, cl, eI, eP, eT, List.map, List.append, List.drop, List.take]
    refine K.seq_st (K.store_all sz_27 rfl rfl rfl rfl (K.rp1)) rfl ?_
    try dsimp only [setd, setn, ev, nth, over, cl, eI, eP, eT, List.map, List.append, List.drop, List.take]
    refine K.seq_pure (K.assign) rfl ?_
    dsimp only [setd, setn, ev, nth]
    refine K.seq_nil ?_
    refine K.norm_then ?_
    refine K.ret ?_
    refine K.end_ret (fun w hw => K.res_ct rfl rfl (K.run_cellA ag_27 rfl (K.m1) rfl w hw)) ?_
    have hie : i = EV.length := by omega
    subst hie
    exact K.gives (by rw [if_neg (by omega), if_neg (by rw [← hb]; assumption), ← hb]; rfl)
  try replace hg20 := of_decide_eq_false hg20
  exact absurd (by rw [g.chk]) hg20

set_option maxRecDepth 100000 in
theorem e30 {kind base most : Int} {A B : Option Addr} {c d : Nat} {hs : List Int} {rs : List (Int × Int)} {w : World} (hH : K.Rd w A 1 K.eI hs) (hR : K.Rd w B 2 K.eP rs) (hn : hs.length ≤ 4611686018427387904) (hm : rs.length ≤ 4611686018427387904) (he : (chk kind base most hs rs).2.2 ≠ 0) :
    Calls Try.prog 30 [.agg #[.int .i64 kind, .int .i64 base, .int .i64 most, .slice A hs.length c, .slice B rs.length d]].toArray w (K.Gives (.tuple #[.agg #[.int .i64 0, .int .i64 0], .int .i64 (chk kind base most hs rs).2.2]) w) := by
  refine K.enter (args := [.agg #[.int .i64 kind, .int .i64 base, .int .i64 most, .slice A hs.length c, .slice B rs.length d]]) Try.func30 rfl (n := 65) rfl ?_
  simp only [List.replicate, List.cons_append, List.nil_append]
  refine K.seq ?_
  refine K.region_lit ?_
  refine K.seq_new (K.box) rfl ?_
  intro b1
  try dsimp only [setd, setn, ev, nth, over, cl, eI, eP, eT, List.map, List.append, List.drop, List.take]
  refine K.seq_new (K.alloc zr_27) rfl ?_
  intro b2
  try dsimp only [setd, setn, ev, nth, over, cl, eI, eP, eT, List.map, List.append, List.drop, List.take]
  refine K.seq_pure (K.assign) rfl ?_
  dsimp only [setd, setn, ev, nth]
  refine K.seq_nil ?_
  refine K.norm_then ?_
  refine K.seq ?_
  refine K.region_lit ?_
  refine K.seq_sil (K.loadA_own ag_25 rfl (K.m1) rfl) rfl ?_
  try dsimp only [setd, setn, ev, nth, over, cl, eI, eP, eT, List.map, List.append, List.drop, List.take]
  refine K.seq_call (K.call_g cal_16 (fun F w hF hw => c16 (hH.pass hw) (hR.pass hw) hn hm)) rfl ?_
  try dsimp only [setd, setn, ev, nth, over, cl, eI, eP, eT, List.map, List.append, List.drop, List.take]
  refine K.seq_pure (K.move) rfl ?_
  dsimp only [setd, setn, ev, nth]
  refine K.seq_pure (K.extract rfl rfl) rfl ?_
  dsimp only [setd, setn, ev, nth]
  refine K.seq_pure (K.extract rfl rfl) rfl ?_
  dsimp only [setd, setn, ev, nth]
  refine K.seq_pure (K.extract rfl rfl) rfl ?_
  dsimp only [setd, setn, ev, nth]
  refine K.seq_pure (K.assign) rfl ?_
  dsimp only [setd, setn, ev, nth]
  refine K.seq_pure (K.assign) rfl ?_
  dsimp only [setd, setn, ev, nth]
  refine K.seq_pure (K.assign) rfl ?_
  dsimp only [setd, setn, ev, nth]
  refine K.seq_nil ?_
  refine K.norm_then ?_
  refine K.seq ?_
  refine K.seq ?_
  refine K.region_lit ?_
  refine K.seq_pure (K.move) rfl ?_
  dsimp only [setd, setn, ev, nth]
  refine K.seq_pure (K.neq rfl rfl) rfl ?_
  dsimp only [setd, setn, ev, nth]
  refine K.seq_nil ?_
  refine K.norm_then ?_
  refine K.cond rfl (fun ht17 => ?_) (fun ht17 => ?_)
  · try replace ht17 := of_decide_eq_true ht17
    refine K.seq ?_
    refine K.region_lit ?_
    refine K.seq_pure (K.build (bl27z)) rfl ?_
    try dsimp only [setd, setn, ev, nth, over, cl, eI, eP, eT, List.map, List.append, List.drop, List.take]
    refine K.seq_pure (K.move) rfl ?_
    dsimp only [setd, setn, ev, nth]
    refine K.seq_st (K.store_all sz_27 rfl rfl rfl rfl (K.rp0)) rfl ?_
    try dsimp only [setd, setn, ev, nth, over, cl, eI, eP, eT, List.map, List.append, List.drop, List.take]
    refine K.seq_pure (K.assign) rfl ?_
    dsimp only [setd, setn, ev, nth]
    refine K.seq_nil ?_
    refine K.norm_then ?_
    refine K.ret ?_
    refine K.ret_then ?_
    refine K.end_ret (fun w hw => K.res_ct rfl rfl (K.run_cellA ag_27 rfl (K.m0) rfl w hw)) ?_
    exact K.gives rfl
  try replace ht17 := of_decide_eq_false ht17
  exact absurd he ht17

set_option maxRecDepth 100000 in
theorem g30 {kind base most : Int} {A B : Option Addr} {c d : Nat} {hs : List Int} {rs : List (Int × Int)} {w : World} (hH : K.Rd w A 1 K.eI hs) (hR : K.Rd w B 2 K.eP rs) (g : Good kind base most hs rs) :
    Calls Try.prog 30 [.agg #[.int .i64 kind, .int .i64 base, .int .i64 most, .slice A hs.length c, .slice B rs.length d]].toArray w (K.Gives ((if ((bestI (fun b x => lessP x b) (okQ kind base most hs rs)) EV.length) < 0 then .tuple #[.agg #[.int .i64 0, .int .i64 0], .int .i64 9] else .tuple #[.agg #[.int .i64 (EV.getD ((bestI (fun b x => lessP x b) (okQ kind base most hs rs)) EV.length).toNat default).1, .int .i64 (EV.getD ((bestI (fun b x => lessP x b) (okQ kind base most hs rs)) EV.length).toNat default).2], .int .i64 0])) w) := by
  have g1 := g.k
  have g2 := g.n
  have g3 := g.r
  have g4 := g.b
  have g5 := g.m
  refine K.enter (args := [.agg #[.int .i64 kind, .int .i64 base, .int .i64 most, .slice A hs.length c, .slice B rs.length d]]) Try.func30 rfl (n := 65) rfl ?_
  simp only [List.replicate, List.cons_append, List.nil_append]
  refine K.seq ?_
  refine K.region_lit ?_
  refine K.seq_new (K.box) rfl ?_
  intro b1
  try dsimp only [setd, setn, ev, nth, over, cl, eI, eP, eT, List.map, List.append, List.drop, List.take]
  refine K.seq_new (K.alloc zr_27) rfl ?_
  intro b2
  try dsimp only [setd, setn, ev, nth, over, cl, eI, eP, eT, List.map, List.append, List.drop, List.take]
  refine K.seq_pure (K.assign) rfl ?_
  dsimp only [setd, setn, ev, nth]
  refine K.seq_nil ?_
  refine K.norm_then ?_
  refine K.seq ?_
  refine K.region_lit ?_
  refine K.seq_sil (K.loadA_own ag_25 rfl (K.m1) rfl) rfl ?_
  try dsimp only [setd, setn, ev, nth, over, cl, eI, eP, eT, List.map, List.append, List.drop, List.take]
  refine K.seq_call (K.call_g cal_16 (fun F w hF hw => c16 (hH.pass hw) (hR.pass hw) (by omega) (by omega))) rfl ?_
  try dsimp only [setd, setn, ev, nth, over, cl, eI, eP, eT, List.map, List.append, List.drop, List.take]
  refine K.seq_pure (K.move) rfl ?_
  dsimp only [setd, setn, ev, nth]
  refine K.seq_pure (K.extract rfl rfl) rfl ?_
  dsimp only [setd, setn, ev, nth]
  refine K.seq_pure (K.extract rfl rfl) rfl ?_
  dsimp only [setd, setn, ev, nth]
  refine K.seq_pure (K.extract rfl rfl) rfl ?_
  dsimp only [setd, setn, ev, nth]
  refine K.seq_pure (K.assign) rfl ?_
  dsimp only [setd, setn, ev, nth]
  refine K.seq_pure (K.assign) rfl ?_
  dsimp only [setd, setn, ev, nth]
  refine K.seq_pure (K.assign) rfl ?_
  dsimp only [setd, setn, ev, nth]
  refine K.seq_nil ?_
  refine K.norm_then ?_
  refine K.seq ?_
  refine K.seq ?_
  refine K.region_lit ?_
  refine K.seq_pure (K.move) rfl ?_
  dsimp only [setd, setn, ev, nth]
  refine K.seq_pure (K.neq rfl rfl) rfl ?_
  dsimp only [setd, setn, ev, nth]
  refine K.seq_nil ?_
  refine K.norm_then ?_
  refine K.cond rfl (fun ht17 => ?_) (fun ht17 => ?_)
  · try replace ht17 := of_decide_eq_true ht17
    exact absurd (by rw [g.chk]) ht17
  try replace ht17 := of_decide_eq_false ht17
  refine K.skip ?_
  refine K.norm_then ?_
  refine K.seq ?_
  refine K.region_lit ?_
  refine K.seq_loud (K.call_f cal_68 (fun F w hF hw => c68 w)) rfl ?_
  rintro ⟨A1, c1⟩ hA1
  try dsimp only [setd, setn, ev, nth, over, cl, eI, eP, eT, List.map, List.append, List.drop, List.take]
  refine K.seq_pure (K.assign) rfl ?_
  dsimp only [setd, setn, ev, nth]
  refine K.seq_nil ?_
  refine K.norm_then ?_
  refine K.seq ?_
  refine K.region_lit ?_
  refine K.seq_pure (K.assign) rfl ?_
  dsimp only [setd, setn, ev, nth]
  refine K.seq_nil ?_
  refine K.norm_then ?_
  refine K.seq ?_
  refine K.seq ?_
  refine K.region_lit ?_
  refine K.seq_pure (K.assign) rfl ?_
  dsimp only [setd, setn, ev, nth]
  refine K.seq_nil ?_
  refine K.norm_then ?_
  refine K.block ?_
  refine K.loopW [8, 9] [21, 22, 23, 24, 25, 26, 27, 28, 29, 30, 31, 32, 33, 34, 35, 36, 37, 38, 39, 40, 41, 42, 43, 44, 45, 46, 47, 48, 49, 50, 51, 52, 53, 54, 55, 56, 57, 58] (fun vi L => ∃ (i : Nat) (b : Int), vi = [.int .i64 b, .int .i64 (i : Int)] ∧ L = [K.row (.slice A1 EV.length c1) 27 2 EV.length (EV.flatMap K.eP), K.blk b2 27 [.int .i64 0, .int .i64 0], K.blk b1 25 [.int .i64 kind, .int .i64 base, .int .i64 most, .slice A hs.length c, .slice B rs.length d]] ∧ i ≤ EV.length ∧ b = (bestI (fun b x => lessP x b) (okQ kind base most hs rs)) i) (fun vi => EV.length - (intOf (K.nth vi 1)).toNat) ?_ ?_
  · exact ⟨0, -1, rfl, rfl, Nat.zero_le _, bestI_0.symm⟩
  intro vi vr L hJ
  obtain ⟨i, b, rfl, rfl, hin, hb⟩ := hJ
  have hbb := bestI_bd (better := (fun b x => lessP x b)) (ok := (okQ kind base most hs rs)) i
  rw [← hb] at hbb
  have hel := ev_len
  try dsimp only [setd, setn, ev, nth, over, cl, eI, eP, eT, setM, setF, List.map, List.append, List.drop, List.take]
  refine K.seq ?_
  refine K.seq ?_
  refine K.region_lit ?_
  refine K.seq_pure (K.move) rfl ?_
  dsimp only [setd, setn, ev, nth]
  refine K.seq_pure (K.move) rfl ?_
  dsimp only [setd, setn, ev, nth]
  refine K.seq_pure (K.len_sl sl_42 rfl) rfl ?_
  dsimp only [setd, setn, ev, nth]
  refine K.seq_pure (K.lss rfl rfl) rfl ?_
  dsimp only [setd, setn, ev, nth]
  refine K.seq_nil ?_
  refine K.norm_then ?_
  refine K.cond rfl (fun ht24 => ?_) (fun ht24 => ?_)
  · try replace ht24 := of_decide_eq_true ht24
    have hi : i < EV.length := by omega
    have hp := ev_parts hi
    have hpb : 0 ≤ b → Parts (EV.getD b.toNat default).1 (EV.getD b.toNat default).2 := fun h => ev_parts (by omega)
    refine K.skip ?_
    refine K.norm_then ?_
    refine K.seq ?_
    refine K.block ?_
    refine K.seq ?_
    refine K.draw_L [] Try_mixed ?_
    refine K.d_pure 0 rfl (K.move) (by kernel_rfl) rfl ?_
    dsimp only [setd, setn, ev, nth]
    refine K.d_pure 1 rfl (K.lss rfl rfl) (by kernel_rfl) rfl ?_
    dsimp only [setd, setn, ev, nth]
    refine K.d_pure 2 rfl (K.move) (by kernel_rfl) rfl ?_
    dsimp only [setd, setn, ev, nth]
    refine K.dsplit 29 rfl (fun hg29 => ?_) (fun hg29 => ?_)
    · try replace hg29 := of_decide_eq_true hg29
      refine K.d_skip 3 rfl (by kernel_rfl) rfl ?_
      try dsimp only [setd, setn, ev, nth, over, cl, eI, eP, eT, List.map, List.append, List.drop, List.take]
      refine K.d_skip 4 rfl (by kernel_rfl) rfl ?_
      try dsimp only [setd, setn, ev, nth, over, cl, eI, eP, eT, List.map, List.append, List.drop, List.take]
      refine K.d_skip 5 rfl (by kernel_rfl) rfl ?_
      try dsimp only [setd, setn, ev, nth, over, cl, eI, eP, eT, List.map, List.append, List.drop, List.take]
      refine K.d_skip 6 rfl (by kernel_rfl) rfl ?_
      try dsimp only [setd, setn, ev, nth, over, cl, eI, eP, eT, List.map, List.append, List.drop, List.take]
      refine K.d_skip 7 rfl (by kernel_rfl) rfl ?_
      try dsimp only [setd, setn, ev, nth, over, cl, eI, eP, eT, List.map, List.append, List.drop, List.take]
      refine K.d_skip 8 rfl (by kernel_rfl) rfl ?_
      try dsimp only [setd, setn, ev, nth, over, cl, eI, eP, eT, List.map, List.append, List.drop, List.take]
      refine K.d_skip 9 rfl (by kernel_rfl) rfl ?_
      try dsimp only [setd, setn, ev, nth, over, cl, eI, eP, eT, List.map, List.append, List.drop, List.take]
      refine K.d_skip 10 rfl (by kernel_rfl) rfl ?_
      try dsimp only [setd, setn, ev, nth, over, cl, eI, eP, eT, List.map, List.append, List.drop, List.take]
      refine K.d_skip 11 rfl (by kernel_rfl) rfl ?_
      try dsimp only [setd, setn, ev, nth, over, cl, eI, eP, eT, List.map, List.append, List.drop, List.take]
      refine K.d_pure 12 rfl (K.pick_t rfl) (by kernel_rfl) rfl ?_
      dsimp only [setd, setn, ev, nth]
      refine K.d_pure 13 rfl (K.move) (by kernel_rfl) rfl ?_
      dsimp only [setd, setn, ev, nth]
      refine K.d_mem 14 rfl (K.loadA_own ag_25 rfl (K.m2) rfl) (fun _ h => h) (by kernel_rfl) (by kernel_rfl) rfl ?_
      try dsimp only [setd, setn, ev, nth, over, cl, eI, eP, eT, List.map, List.append, List.drop, List.take]
      refine K.d_pure 15 rfl (K.move) (by kernel_rfl) rfl ?_
      dsimp only [setd, setn, ev, nth]
      refine K.d_pure 16 rfl (K.move) (by kernel_rfl) rfl ?_
      dsimp only [setd, setn, ev, nth]
      refine K.d_ix (M := [_]) 17 _ rfl (K.Sl.own (t := 27) (c := c1) (size := 2) (e := K.eP) hA1 (fun _ => rfl)) sl_42 rfl rfl rfl (by omega) (by kernel_rfl) rfl ?_
      intro p44 hp44
      try dsimp only [setd, setn, ev, nth, over, cl, eI, eP, eT, List.map, List.append, List.drop, List.take]
      refine K.d_mem 18 rfl (K.loadA_p ag_27 rfl (hp44.at1 (K.m0)) rfl) (fun _ h => h) (by kernel_rfl) (by kernel_rfl) rfl ?_
      try dsimp only [setd, setn, ev, nth, over, cl, eI, eP, eT, List.map, List.append, List.drop, List.take]
      refine K.d_call 19 rfl (K.call_g cal_46 (fun F w hF hw => c46 (hH.pass hw) (hR.pass hw) g hp)) (fun _ h => h) (by kernel_rfl) rfl ?_
      try dsimp only [setd, setn, ev, nth, over, cl, eI, eP, eT, List.map, List.append, List.drop, List.take]
      refine K.d_pure 20 rfl (K.pick_t rfl) (by kernel_rfl) rfl ?_
      dsimp only [setd, setn, ev, nth]
      refine K.d_pure 21 rfl (K.move) (by kernel_rfl) rfl ?_
      dsimp only [setd, setn, ev, nth]
      refine K.dsplit 48 rfl (fun hg48 => ?_) (fun hg48 => ?_)
      · try replace hg48 := of_decide_eq_true hg48
        refine K.d_mem 22 rfl (K.loadA_own ag_25 rfl (K.m2) rfl) (fun _ h => h) (by kernel_rfl) (by kernel_rfl) rfl ?_
        try dsimp only [setd, setn, ev, nth, over, cl, eI, eP, eT, List.map, List.append, List.drop, List.take]
        refine K.d_pure 23 rfl (K.move) (by kernel_rfl) rfl ?_
        dsimp only [setd, setn, ev, nth]
        refine K.d_pure 24 rfl (K.move) (by kernel_rfl) rfl ?_
        dsimp only [setd, setn, ev, nth]
        refine K.d_ix (M := [_]) 25 _ rfl (K.Sl.own (t := 27) (c := c1) (size := 2) (e := K.eP) hA1 (fun _ => rfl)) sl_42 rfl rfl rfl (by omega) (by kernel_rfl) rfl ?_
        intro p52 hp52
        try dsimp only [setd, setn, ev, nth, over, cl, eI, eP, eT, List.map, List.append, List.drop, List.take]
        refine K.d_mem 26 rfl (K.loadA_p ag_27 rfl (hp52.at1 (K.m0)) rfl) (fun _ h => h) (by kernel_rfl) (by kernel_rfl) rfl ?_
        try dsimp only [setd, setn, ev, nth, over, cl, eI, eP, eT, List.map, List.append, List.drop, List.take]
        refine K.d_loud 27 rfl (K.call_f cal_65 (fun F w hF hw => c65 (hH.pass hw) (hR.pass hw) g hp)) (fun _ h => h) (by kernel_rfl) rfl ?_
        rintro ⟨A2, c2⟩ hA2
        try dsimp only [setd, setn, ev, nth, over, cl, eI, eP, eT, List.map, List.append, List.drop, List.take]
        refine K.d_pure 28 rfl (K.len_sl sl_22 rfl) (by kernel_rfl) rfl ?_
        dsimp only [setd, setn, ev, nth]
        refine K.d_pure 29 rfl (K.eql rfl rfl) (by kernel_rfl) rfl ?_
        dsimp only [setd, setn, ev, nth]
        refine K.d_pure 30 rfl (K.pick_t rfl) (by kernel_rfl) rfl ?_
        dsimp only [setd, setn, ev, nth]
        refine K.d_done (by kernel_rfl) ?_
        refine K.norm_then ?_
        refine K.cond rfl (fun ht57 => ?_) (fun ht57 => ?_)
        · try replace ht57 := of_decide_eq_true ht57
          refine K.region_lit ?_
          refine K.seq_pure (K.move) rfl ?_
          dsimp only [setd, setn, ev, nth]
          refine K.seq_pure (K.assign) rfl ?_
          dsimp only [setd, setn, ev, nth]
          refine K.seq_nil ?_
          refine K.norm_block ?_
          refine K.norm_then ?_
          refine K.region_lit ?_
          refine K.seq_pure (K.move) rfl ?_
          dsimp only [setd, setn, ev, nth]
          refine K.seq_pure (K.add_i64 rfl rfl (by omega)) rfl ?_
          dsimp only [setd, setn, ev, nth]
          refine K.seq_pure (K.assign) rfl ?_
          dsimp only [setd, setn, ev, nth]
          refine K.seq_nil ?_
          first | exact K.round_endW [.int .i64 (i : Int), .int .i64 ((i : Int) + 1)] ⟨i + 1, _, rfl, rfl, by omega, bestI_t hb (.inl hg29) (and_t hg48 ht57)⟩ (by simp [K.nth, intOf]; omega) (by repeat (first | exact List.Sublist.refl _ | apply List.Sublist.cons)) (by kernel_rfl) | exact K.round_endW [.int .i64 b, .int .i64 ((i : Int) + 1)] ⟨i + 1, _, rfl, rfl, by omega, bestI_f2 hb (and_f2 ht57)⟩ (by simp [K.nth, intOf]; omega) (by repeat (first | exact List.Sublist.refl _ | apply List.Sublist.cons)) (by kernel_rfl)
        try replace ht57 := of_decide_eq_false ht57
        refine K.skip ?_
        refine K.norm_block ?_
        refine K.norm_then ?_
        refine K.region_lit ?_
        refine K.seq_pure (K.move) rfl ?_
        dsimp only [setd, setn, ev, nth]
        refine K.seq_pure (K.add_i64 rfl rfl (by omega)) rfl ?_
        dsimp only [setd, setn, ev, nth]
        refine K.seq_pure (K.assign) rfl ?_
        dsimp only [setd, setn, ev, nth]
        refine K.seq_nil ?_
        first | exact K.round_endW [.int .i64 (i : Int), .int .i64 ((i : Int) + 1)] ⟨i + 1, _, rfl, rfl, by omega, bestI_t hb (.inl hg29) (and_t hg48 ht57)⟩ (by simp [K.nth, intOf]; omega) (by repeat (first | exact List.Sublist.refl _ | apply List.Sublist.cons)) (by kernel_rfl) | exact K.round_endW [.int .i64 b, .int .i64 ((i : Int) + 1)] ⟨i + 1, _, rfl, rfl, by omega, bestI_f2 hb (and_f2 ht57)⟩ (by simp [K.nth, intOf]; omega) (by repeat (first | exact List.Sublist.refl _ | apply List.Sublist.cons)) (by kernel_rfl)
      try replace hg48 := of_decide_eq_false hg48
      refine K.d_skip 22 rfl (by kernel_rfl) rfl ?_
      try dsimp only [setd, setn, ev, nth, over, cl, eI, eP, eT, List.map, List.append, List.drop, List.take]
      refine K.d_skip 23 rfl (by kernel_rfl) rfl ?_
      try dsimp only [setd, setn, ev, nth, over, cl, eI, eP, eT, List.map, List.append, List.drop, List.take]
      refine K.d_skip 24 rfl (by kernel_rfl) rfl ?_
      try dsimp only [setd, setn, ev, nth, over, cl, eI, eP, eT, List.map, List.append, List.drop, List.take]
      refine K.d_skip 25 rfl (by kernel_rfl) rfl ?_
      try dsimp only [setd, setn, ev, nth, over, cl, eI, eP, eT, List.map, List.append, List.drop, List.take]
      refine K.d_skip 26 rfl (by kernel_rfl) rfl ?_
      try dsimp only [setd, setn, ev, nth, over, cl, eI, eP, eT, List.map, List.append, List.drop, List.take]
      refine K.d_skip 27 rfl (by kernel_rfl) rfl ?_
      try dsimp only [setd, setn, ev, nth, over, cl, eI, eP, eT, List.map, List.append, List.drop, List.take]
      refine K.d_skip 28 rfl (by kernel_rfl) rfl ?_
      try dsimp only [setd, setn, ev, nth, over, cl, eI, eP, eT, List.map, List.append, List.drop, List.take]
      refine K.d_skip 29 rfl (by kernel_rfl) rfl ?_
      try dsimp only [setd, setn, ev, nth, over, cl, eI, eP, eT, List.map, List.append, List.drop, List.take]
      refine K.d_pure 30 rfl (K.pick_f rfl) (by kernel_rfl) rfl ?_
      dsimp only [setd, setn, ev, nth]
      refine K.d_done (by kernel_rfl) ?_
      refine K.norm_then ?_
      refine K.cond_false rfl ?_
      refine K.skip ?_
      refine K.norm_block ?_
      refine K.norm_then ?_
      refine K.region_lit ?_
      refine K.seq_pure (K.move) rfl ?_
      dsimp only [setd, setn, ev, nth]
      refine K.seq_pure (K.add_i64 rfl rfl (by omega)) rfl ?_
      dsimp only [setd, setn, ev, nth]
      refine K.seq_pure (K.assign) rfl ?_
      dsimp only [setd, setn, ev, nth]
      refine K.seq_nil ?_
      exact K.round_endW [.int .i64 b, .int .i64 ((i : Int) + 1)] ⟨i + 1, _, rfl, rfl, by omega, bestI_f2 hb (and_f1 hg48)⟩ (by simp [K.nth, intOf]; omega) (by repeat (first | exact List.Sublist.refl _ | apply List.Sublist.cons)) (by kernel_rfl)
    try replace hg29 := of_decide_eq_false hg29
    refine K.d_pure 3 rfl (K.move) (by kernel_rfl) rfl ?_
    dsimp only [setd, setn, ev, nth]
    refine K.d_pure 4 rfl (K.move) (by kernel_rfl) rfl ?_
    dsimp only [setd, setn, ev, nth]
    refine K.d_ix (M := [_]) 5 _ rfl (K.Sl.own (t := 27) (c := c1) (size := 2) (e := K.eP) hA1 (fun _ => rfl)) sl_42 rfl rfl rfl (by omega) (by kernel_rfl) rfl ?_
    intro p32 hp32
    try dsimp only [setd, setn, ev, nth, over, cl, eI, eP, eT, List.map, List.append, List.drop, List.take]
    refine K.d_mem 6 rfl (K.loadA_p ag_27 rfl (hp32.at1 (K.m0)) rfl) (fun _ h => h) (by kernel_rfl) (by kernel_rfl) rfl ?_
    try dsimp only [setd, setn, ev, nth, over, cl, eI, eP, eT, List.map, List.append, List.drop, List.take]
    refine K.d_pure 7 rfl (K.move) (by kernel_rfl) rfl ?_
    dsimp only [setd, setn, ev, nth]
    refine K.d_pure 8 rfl (K.move) (by kernel_rfl) rfl ?_
    dsimp only [setd, setn, ev, nth]
    refine K.d_ix (M := [_]) 9 b.toNat rfl (K.Sl.own (t := 27) (c := c1) (size := 2) (e := K.eP) hA1 (fun _ => rfl)) sl_42 rfl rfl (by omega) (by omega) (by kernel_rfl) rfl ?_
    intro p36 hp36
    try dsimp only [setd, setn, ev, nth, over, cl, eI, eP, eT, List.map, List.append, List.drop, List.take]
    refine K.d_mem 10 rfl (K.loadA_p ag_27 rfl (hp36.at1 (K.m0)) rfl) (fun _ h => h) (by kernel_rfl) (by kernel_rfl) rfl ?_
    try dsimp only [setd, setn, ev, nth, over, cl, eI, eP, eT, List.map, List.append, List.drop, List.take]
    refine K.d_call 11 rfl (K.call_g cal_43 (fun F w hF hw => c43 (by omega) (by omega) (by omega) (by omega) (by have := hpb (by omega); omega) (by have := hpb (by omega); omega) (by have := hpb (by omega); omega) (by have := hpb (by omega); omega) w)) (fun _ h => h) (by kernel_rfl) rfl ?_
    try dsimp only [setd, setn, ev, nth, over, cl, eI, eP, eT, List.map, List.append, List.drop, List.take]
    refine K.d_pure 12 rfl (K.pick_f rfl) (by kernel_rfl) rfl ?_
    dsimp only [setd, setn, ev, nth]
    refine K.d_pure 13 rfl (K.move) (by kernel_rfl) rfl ?_
    dsimp only [setd, setn, ev, nth]
    refine K.dsplit 40 rfl (fun hg40 => ?_) (fun hg40 => ?_)
    · try replace hg40 := of_decide_eq_true hg40
      refine K.d_mem 14 rfl (K.loadA_own ag_25 rfl (K.m2) rfl) (fun _ h => h) (by kernel_rfl) (by kernel_rfl) rfl ?_
      try dsimp only [setd, setn, ev, nth, over, cl, eI, eP, eT, List.map, List.append, List.drop, List.take]
      refine K.d_pure 15 rfl (K.move) (by kernel_rfl) rfl ?_
      dsimp only [setd, setn, ev, nth]
      refine K.d_pure 16 rfl (K.move) (by kernel_rfl) rfl ?_
      dsimp only [setd, setn, ev, nth]
      refine K.d_ix (M := [_]) 17 _ rfl (K.Sl.own (t := 27) (c := c1) (size := 2) (e := K.eP) hA1 (fun _ => rfl)) sl_42 rfl rfl rfl (by omega) (by kernel_rfl) rfl ?_
      intro p44 hp44
      try dsimp only [setd, setn, ev, nth, over, cl, eI, eP, eT, List.map, List.append, List.drop, List.take]
      refine K.d_mem 18 rfl (K.loadA_p ag_27 rfl (hp44.at1 (K.m0)) rfl) (fun _ h => h) (by kernel_rfl) (by kernel_rfl) rfl ?_
      try dsimp only [setd, setn, ev, nth, over, cl, eI, eP, eT, List.map, List.append, List.drop, List.take]
      refine K.d_call 19 rfl (K.call_g cal_46 (fun F w hF hw => c46 (hH.pass hw) (hR.pass hw) g hp)) (fun _ h => h) (by kernel_rfl) rfl ?_
      try dsimp only [setd, setn, ev, nth, over, cl, eI, eP, eT, List.map, List.append, List.drop, List.take]
      refine K.d_pure 20 rfl (K.pick_t rfl) (by kernel_rfl) rfl ?_
      dsimp only [setd, setn, ev, nth]
      refine K.d_pure 21 rfl (K.move) (by kernel_rfl) rfl ?_
      dsimp only [setd, setn, ev, nth]
      refine K.dsplit 48 rfl (fun hg48 => ?_) (fun hg48 => ?_)
      · try replace hg48 := of_decide_eq_true hg48
        refine K.d_mem 22 rfl (K.loadA_own ag_25 rfl (K.m2) rfl) (fun _ h => h) (by kernel_rfl) (by kernel_rfl) rfl ?_
        try dsimp only [setd, setn, ev, nth, over, cl, eI, eP, eT, List.map, List.append, List.drop, List.take]
        refine K.d_pure 23 rfl (K.move) (by kernel_rfl) rfl ?_
        dsimp only [setd, setn, ev, nth]
        refine K.d_pure 24 rfl (K.move) (by kernel_rfl) rfl ?_
        dsimp only [setd, setn, ev, nth]
        refine K.d_ix (M := [_]) 25 _ rfl (K.Sl.own (t := 27) (c := c1) (size := 2) (e := K.eP) hA1 (fun _ => rfl)) sl_42 rfl rfl rfl (by omega) (by kernel_rfl) rfl ?_
        intro p52 hp52
        try dsimp only [setd, setn, ev, nth, over, cl, eI, eP, eT, List.map, List.append, List.drop, List.take]
        refine K.d_mem 26 rfl (K.loadA_p ag_27 rfl (hp52.at1 (K.m0)) rfl) (fun _ h => h) (by kernel_rfl) (by kernel_rfl) rfl ?_
        try dsimp only [setd, setn, ev, nth, over, cl, eI, eP, eT, List.map, List.append, List.drop, List.take]
        refine K.d_loud 27 rfl (K.call_f cal_65 (fun F w hF hw => c65 (hH.pass hw) (hR.pass hw) g hp)) (fun _ h => h) (by kernel_rfl) rfl ?_
        rintro ⟨A2, c2⟩ hA2
        try dsimp only [setd, setn, ev, nth, over, cl, eI, eP, eT, List.map, List.append, List.drop, List.take]
        refine K.d_pure 28 rfl (K.len_sl sl_22 rfl) (by kernel_rfl) rfl ?_
        dsimp only [setd, setn, ev, nth]
        refine K.d_pure 29 rfl (K.eql rfl rfl) (by kernel_rfl) rfl ?_
        dsimp only [setd, setn, ev, nth]
        refine K.d_pure 30 rfl (K.pick_t rfl) (by kernel_rfl) rfl ?_
        dsimp only [setd, setn, ev, nth]
        refine K.d_done (by kernel_rfl) ?_
        refine K.norm_then ?_
        refine K.cond rfl (fun ht57 => ?_) (fun ht57 => ?_)
        · try replace ht57 := of_decide_eq_true ht57
          refine K.region_lit ?_
          refine K.seq_pure (K.move) rfl ?_
          dsimp only [setd, setn, ev, nth]
          refine K.seq_pure (K.assign) rfl ?_
          dsimp only [setd, setn, ev, nth]
          refine K.seq_nil ?_
          refine K.norm_block ?_
          refine K.norm_then ?_
          refine K.region_lit ?_
          refine K.seq_pure (K.move) rfl ?_
          dsimp only [setd, setn, ev, nth]
          refine K.seq_pure (K.add_i64 rfl rfl (by omega)) rfl ?_
          dsimp only [setd, setn, ev, nth]
          refine K.seq_pure (K.assign) rfl ?_
          dsimp only [setd, setn, ev, nth]
          refine K.seq_nil ?_
          first | exact K.round_endW [.int .i64 (i : Int), .int .i64 ((i : Int) + 1)] ⟨i + 1, _, rfl, rfl, by omega, bestI_t hb (.inr (decide_eq_true hg40)) (and_t hg48 ht57)⟩ (by simp [K.nth, intOf]; omega) (by repeat (first | exact List.Sublist.refl _ | apply List.Sublist.cons)) (by kernel_rfl) | exact K.round_endW [.int .i64 b, .int .i64 ((i : Int) + 1)] ⟨i + 1, _, rfl, rfl, by omega, bestI_f2 hb (and_f2 ht57)⟩ (by simp [K.nth, intOf]; omega) (by repeat (first | exact List.Sublist.refl _ | apply List.Sublist.cons)) (by kernel_rfl)
        try replace ht57 := of_decide_eq_false ht57
        refine K.skip ?_
        refine K.norm_block ?_
        refine K.norm_then ?_
        refine K.region_lit ?_
        refine K.seq_pure (K.move) rfl ?_
        dsimp only [setd, setn, ev, nth]
        refine K.seq_pure (K.add_i64 rfl rfl (by omega)) rfl ?_
        dsimp only [setd, setn, ev, nth]
        refine K.seq_pure (K.assign) rfl ?_
        dsimp only [setd, setn, ev, nth]
        refine K.seq_nil ?_
        first | exact K.round_endW [.int .i64 (i : Int), .int .i64 ((i : Int) + 1)] ⟨i + 1, _, rfl, rfl, by omega, bestI_t hb (.inr (decide_eq_true hg40)) (and_t hg48 ht57)⟩ (by simp [K.nth, intOf]; omega) (by repeat (first | exact List.Sublist.refl _ | apply List.Sublist.cons)) (by kernel_rfl) | exact K.round_endW [.int .i64 b, .int .i64 ((i : Int) + 1)] ⟨i + 1, _, rfl, rfl, by omega, bestI_f2 hb (and_f2 ht57)⟩ (by simp [K.nth, intOf]; omega) (by repeat (first | exact List.Sublist.refl _ | apply List.Sublist.cons)) (by kernel_rfl)
      try replace hg48 := of_decide_eq_false hg48
      refine K.d_skip 22 rfl (by kernel_rfl) rfl ?_
      try dsimp only [setd, setn, ev, nth, over, cl, eI, eP, eT, List.map, List.append, List.drop, List.take]
      refine K.d_skip 23 rfl (by kernel_rfl) rfl ?_
      try dsimp only [setd, setn, ev, nth, over, cl, eI, eP, eT, List.map, List.append, List.drop, List.take]
      refine K.d_skip 24 rfl (by kernel_rfl) rfl ?_
      try dsimp only [setd, setn, ev, nth, over, cl, eI, eP, eT, List.map, List.append, List.drop, List.take]
      refine K.d_skip 25 rfl (by kernel_rfl) rfl ?_
      try dsimp only [setd, setn, ev, nth, over, cl, eI, eP, eT, List.map, List.append, List.drop, List.take]
      refine K.d_skip 26 rfl (by kernel_rfl) rfl ?_
      try dsimp only [setd, setn, ev, nth, over, cl, eI, eP, eT, List.map, List.append, List.drop, List.take]
      refine K.d_skip 27 rfl (by kernel_rfl) rfl ?_
      try dsimp only [setd, setn, ev, nth, over, cl, eI, eP, eT, List.map, List.append, List.drop, List.take]
      refine K.d_skip 28 rfl (by kernel_rfl) rfl ?_
      try dsimp only [setd, setn, ev, nth, over, cl, eI, eP, eT, List.map, List.append, List.drop, List.take]
      refine K.d_skip 29 rfl (by kernel_rfl) rfl ?_
      try dsimp only [setd, setn, ev, nth, over, cl, eI, eP, eT, List.map, List.append, List.drop, List.take]
      refine K.d_pure 30 rfl (K.pick_f rfl) (by kernel_rfl) rfl ?_
      dsimp only [setd, setn, ev, nth]
      refine K.d_done (by kernel_rfl) ?_
      refine K.norm_then ?_
      refine K.cond_false rfl ?_
      refine K.skip ?_
      refine K.norm_block ?_
      refine K.norm_then ?_
      refine K.region_lit ?_
      refine K.seq_pure (K.move) rfl ?_
      dsimp only [setd, setn, ev, nth]
      refine K.seq_pure (K.add_i64 rfl rfl (by omega)) rfl ?_
      dsimp only [setd, setn, ev, nth]
      refine K.seq_pure (K.assign) rfl ?_
      dsimp only [setd, setn, ev, nth]
      refine K.seq_nil ?_
      exact K.round_endW [.int .i64 b, .int .i64 ((i : Int) + 1)] ⟨i + 1, _, rfl, rfl, by omega, bestI_f2 hb (and_f1 hg48)⟩ (by simp [K.nth, intOf]; omega) (by repeat (first | exact List.Sublist.refl _ | apply List.Sublist.cons)) (by kernel_rfl)
    try replace hg40 := of_decide_eq_false hg40
    refine K.d_skip 14 rfl (by kernel_rfl) rfl ?_
    try dsimp only [setd, setn, ev, nth, over, cl, eI, eP, eT, List.map, List.append, List.drop, List.take]
    refine K.d_skip 15 rfl (by kernel_rfl) rfl ?_
    try dsimp only [setd, setn, ev, nth, over, cl, eI, eP, eT, List.map, List.append, List.drop, List.take]
    refine K.d_skip 16 rfl (by kernel_rfl) rfl ?_
    try dsimp only [setd, setn, ev, nth, over, cl, eI, eP, eT, List.map, List.append, List.drop, List.take]
    refine K.d_skip 17 rfl (by kernel_rfl) rfl ?_
    try dsimp only [setd, setn, ev, nth, over, cl, eI, eP, eT, List.map, List.append, List.drop, List.take]
    refine K.d_skip 18 rfl (by kernel_rfl) rfl ?_
    try dsimp only [setd, setn, ev, nth, over, cl, eI, eP, eT, List.map, List.append, List.drop, List.take]
    refine K.d_skip 19 rfl (by kernel_rfl) rfl ?_
    try dsimp only [setd, setn, ev, nth, over, cl, eI, eP, eT, List.map, List.append, List.drop, List.take]
    refine K.d_pure 20 rfl (K.pick_f rfl) (by kernel_rfl) rfl ?_
    dsimp only [setd, setn, ev, nth]
    refine K.d_pure 21 rfl (K.move) (by kernel_rfl) rfl ?_
    dsimp only [setd, setn, ev, nth]
    refine K.d_skip 22 rfl (by kernel_rfl) rfl ?_
    try dsimp only [setd, setn, ev, nth, over, cl, eI, eP, eT, List.map, List.append, List.drop, List.take]
    refine K.d_skip 23 rfl (by kernel_rfl) rfl ?_
    try dsimp only [setd, setn, ev, nth, over, cl, eI, eP, eT, List.map, List.append, List.drop, List.take]
    refine K.d_skip 24 rfl (by kernel_rfl) rfl ?_
    try dsimp only [setd, setn, ev, nth, over, cl, eI, eP, eT, List.map, List.append, List.drop, List.take]
    refine K.d_skip 25 rfl (by kernel_rfl) rfl ?_
    try dsimp only [setd, setn, ev, nth, over, cl, eI, eP, eT, List.map, List.append, List.drop, List.take]
    refine K.d_skip 26 rfl (by kernel_rfl) rfl ?_
    try dsimp only [setd, setn, ev, nth, over, cl, eI, eP, eT, List.map, List.append, List.drop, List.take]
    refine K.d_skip 27 rfl (by kernel_rfl) rfl ?_
    try dsimp only [setd, setn, ev, nth, over, cl, eI, eP, eT, List.map, List.append, List.drop, List.take]
    refine K.d_skip 28 rfl (by kernel_rfl) rfl ?_
    try dsimp only [setd, setn, ev, nth, over, cl, eI, eP, eT, List.map, List.append, List.drop, List.take]
    refine K.d_skip 29 rfl (by kernel_rfl) rfl ?_
    try dsimp only [setd, setn, ev, nth, over, cl, eI, eP, eT, List.map, List.append, List.drop, List.take]
    refine K.d_pure 30 rfl (K.pick_f rfl) (by kernel_rfl) rfl ?_
    dsimp only [setd, setn, ev, nth]
    refine K.d_done (by kernel_rfl) ?_
    refine K.norm_then ?_
    refine K.cond_false rfl ?_
    refine K.skip ?_
    refine K.norm_block ?_
    refine K.norm_then ?_
    refine K.region_lit ?_
    refine K.seq_pure (K.move) rfl ?_
    dsimp only [setd, setn, ev, nth]
    refine K.seq_pure (K.add_i64 rfl rfl (by omega)) rfl ?_
    dsimp only [setd, setn, ev, nth]
    refine K.seq_pure (K.assign) rfl ?_
    dsimp only [setd, setn, ev, nth]
    refine K.seq_nil ?_
    exact K.round_endW [.int .i64 b, .int .i64 ((i : Int) + 1)] ⟨i + 1, _, rfl, rfl, by omega, bestI_f1 hb hg29 (decide_eq_false hg40)⟩ (by simp [K.nth, intOf]; omega) (by repeat (first | exact List.Sublist.refl _ | apply List.Sublist.cons)) (by kernel_rfl)
  try replace ht24 := of_decide_eq_false ht24
  refine K.exit ?_
  refine K.exit_then ?_
  refine K.exit_then ?_
  refine K.exit_here ?_
  refine K.norm_then ?_
  refine K.seq ?_
  refine K.seq ?_
  refine K.region_lit ?_
  refine K.seq_pure (K.move) rfl ?_
  dsimp only [setd, setn, ev, nth]
  refine K.seq_pure (K.lss rfl rfl) rfl ?_
  dsimp only [setd, setn, ev, nth]
  refine K.seq_nil ?_
  refine K.norm_then ?_
  refine K.cond rfl (fun ht60 => ?_) (fun ht60 => ?_)
  · try replace ht60 := of_decide_eq_true ht60
    refine K.seq ?_
    refine K.region_lit ?_
    refine K.seq_pure (K.build (bl27z)) rfl ?_
    try dsimp only [setd, setn, ev, nth, over, cl, eI, eP, eT, List.map, List.append, List.drop, List.take]
    refine K.seq_st (K.store_all sz_27 rfl rfl rfl rfl (K.rp1)) rfl ?_
    try dsimp only [setd, setn, ev, nth, over, cl, eI, eP, eT, List.map, List.append, List.drop, List.take]
    refine K.seq_pure (K.assign) rfl ?_
    dsimp only [setd, setn, ev, nth]
    refine K.seq_nil ?_
    refine K.norm_then ?_
    refine K.ret ?_
    refine K.ret_then ?_
    refine K.end_ret (fun w hw => K.res_ct rfl rfl (K.run_cellA ag_27 rfl (K.m1) rfl w hw)) ?_
    have hie : i = EV.length := by omega
    subst hie
    exact K.gives (by rw [if_pos (by rw [← hb]; assumption)]; rfl)
  try replace ht60 := of_decide_eq_false ht60
  refine K.skip ?_
  refine K.norm_then ?_
  refine K.seq ?_
  skip
  refine K.region_lit ?_
  refine K.seq_pure (K.move) rfl ?_
  dsimp only [setd, setn, ev, nth]
  refine K.seq_pure (K.move) rfl ?_
  dsimp only [setd, setn, ev, nth]
  refine K.seq_ix (M := [_]) b.toNat (K.Sl.own (t := 27) (c := c1) (size := 2) (e := K.eP) hA1 (fun _ => rfl)) sl_42 rfl rfl (by omega) (by omega) rfl ?_
  intro p64 hp64
  try dsimp only [setd, setn, ev, nth, over, cl, eI, eP, eT, List.map, List.append, List.drop, List.take]
  refine K.seq_sil (K.loadA_p ag_27 rfl (hp64.at1 (K.m0)) rfl) rfl ?_
  try dsimp only [setd, setn, ev, nth, over, cl, eI, eP, eT, List.map, List.append, List.drop, List.take]
  refine K.seq_st (K.store_all sz_27 rfl rfl rfl rfl (K.rp1)) rfl ?_
  try dsimp only [setd, setn, ev, nth, over, cl, eI, eP, eT, List.map, List.append, List.drop, List.take]
  refine K.seq_pure (K.assign) rfl ?_
  dsimp only [setd, setn, ev, nth]
  refine K.seq_nil ?_
  refine K.norm_then ?_
  refine K.ret ?_
  refine K.end_ret (fun w hw => K.res_ct rfl rfl (K.run_cellA ag_27 rfl (K.m1) rfl w hw)) ?_
  have hie : i = EV.length := by omega
  subst hie
  exact K.gives (by rw [if_neg (by rw [← hb]; assumption), ← hb]; rfl)

end Go.Proofs.Ytafkbioeoklldaa
