/-
  Walks of the program's functions, printed by program: what each returns.
  Conditions stand in each theorem.
-/
import Derived.Test.YtafkbioeoklldaaKf
import Derived.Test.YtafkbioeoklldaaK2
import Derived.WalkArith
import Derived.Test.YtafkbioeoklldaaK4
import Derived.Test.YtafkbioeoklldaaXe
import Derived.Test.YtafkbioeoklldaaS6
import Derived.Test.YtafkbioeoklldaaWb
import Derived.Test.YtafkbioeoklldaaWf
import Derived.Test.YtafkbioeoklldaaWh
import Derived.Test.YtafkbioeoklldaaWp
set_option linter.unusedSimpArgs false
set_option linter.unusedVariables false
namespace Go.Proofs.Ytafkbioeoklldaa
open Go.RowKit Go
open Go.K (setd setn ev nth over cl eI eP eT setM setF)
attribute [local irreducible] K.blk K.row

set_option maxRecDepth 100000 in
theorem c50 {kind base most : Int} {A B : Option Addr} {c d : Nat} {hs : List Int} {rs : List (Int × Int)} {l : List (Int × Int)} {C : Option Addr} {cc : Nat} {D : Option Addr} {dd : Nat} {pts : List Int} {w : World} (hH : K.Rd w A 1 K.eI hs) (hR : K.Rd w B 2 K.eP rs) (g : Good kind base most hs rs) (hS : K.Rd w C 2 K.eP l) (hp : ∀ x ∈ l, Parts x.1 x.2) (hl6 : l.length ≤ 6) (hT : K.Rd w D 1 K.eI pts) (hp8 : pts.length ≤ 1000) :
    Calls Try.prog 50 [.agg #[.int .i64 kind, .int .i64 base, .int .i64 most, .slice A hs.length c, .slice B rs.length d], .slice C l.length cc, .slice D pts.length dd].toArray w (K.Gives (.bool (toldB kind base hs l pts)) w) := by
  have g1 := g.k
  have g2 := g.n
  have g3 := g.r
  have g4 := g.b
  have g5 := g.m
  refine K.enter (args := [.agg #[.int .i64 kind, .int .i64 base, .int .i64 most, .slice A hs.length c, .slice B rs.length d], .slice C l.length cc, .slice D pts.length dd]) Try.func50 rfl (n := 47) rfl ?_
  simp only [List.replicate, List.cons_append, List.nil_append]
  refine K.seq ?_
  refine K.region_lit ?_
  refine K.seq_new (K.box) rfl ?_
  intro b3
  try dsimp only [setd, setn, ev, nth, over, cl, eI, eP, eT, List.map, List.append, List.drop, List.take]
  refine K.seq_pure (K.assign) rfl ?_
  dsimp only [setd, setn, ev, nth]
  refine K.seq_nil ?_
  refine K.norm_then ?_
  refine K.seq ?_
  refine K.seq ?_
  refine K.region_lit ?_
  refine K.seq_pure (K.assign) rfl ?_
  dsimp only [setd, setn, ev, nth]
  refine K.seq_nil ?_
  refine K.norm_then ?_
  refine K.block ?_
  refine K.loopW [7] [6, 8, 9, 10, 11, 12, 13, 14, 15, 16, 17, 18, 19, 20, 21, 22, 23, 24, 25, 26, 27, 28, 29, 30, 31, 32, 33, 34, 35, 36, 37, 38, 39, 40, 41, 42, 43, 44, 45, 46, 47, 48, 49] (fun vi L => ∃ i : Nat, vi = [.int .i64 (i : Int)] ∧ L = [K.blk b3 25 [.int .i64 kind, .int .i64 base, .int .i64 most, .slice A hs.length c, .slice B rs.length d]] ∧ i ≤ l.length ∧ ∀ i', i' < i → ∀ k, k < i' → pairB kind base hs l pts i' k = true) (fun vi => l.length - (intOf (K.nth vi 0)).toNat) ?_ ?_
  · exact ⟨0, rfl, rfl, Nat.zero_le _, fun i hi => absurd hi (Nat.not_lt_zero i)⟩
  intro vi vr L hJ
  obtain ⟨i, rfl, rfl, hil, hall⟩ := hJ
  try dsimp only [setd, setn, ev, nth, over, cl, eI, eP, eT, setM, setF, List.map, List.append, List.drop, List.take]
  refine K.seq ?_
  refine K.seq ?_
  refine K.region_lit ?_
  refine K.seq_pure (K.move) rfl ?_
  dsimp only [setd, setn, ev, nth]
  refine K.seq_pure (K.move) rfl ?_
  dsimp only [setd, setn, ev, nth]
  refine K.seq_pure (K.len_sl sl_42 rfl) rfl ?_
  dsimp only [setd, setn, ev, nth]
  refine K.seq_pure (K.lss rfl rfl) rfl ?_
  dsimp only [setd, setn, ev, nth]
  refine K.seq_nil ?_
  refine K.norm_then ?_
  refine K.cond rfl (fun ht15 => ?_) (fun ht15 => ?_)
  · try replace ht15 := of_decide_eq_true ht15
    have hi : i < l.length := by omega
    refine K.skip ?_
    refine K.norm_then ?_
    refine K.seq ?_
    refine K.block ?_
    refine K.seq ?_
    refine K.region_lit ?_
    refine K.seq_pure (K.assign) rfl ?_
    dsimp only [setd, setn, ev, nth]
    refine K.seq_nil ?_
    refine K.norm_then ?_
    refine K.block ?_
    refine K.loopW [8] [6, 9, 10, 11, 18, 19, 20, 21, 22, 23, 24, 25, 26, 27, 28, 29, 30, 31, 32, 33, 34, 35, 36, 37, 38, 39, 40, 41, 42, 43, 44, 45, 46, 47, 48, 49] (fun vi L => ∃ k : Nat, vi = [.int .i64 (k : Int)] ∧ L = [K.blk b3 25 [.int .i64 kind, .int .i64 base, .int .i64 most, .slice A hs.length c, .slice B rs.length d]] ∧ k ≤ i ∧ ∀ k', k' < k → pairB kind base hs l pts i k' = true) (fun vi => i - (intOf (K.nth vi 0)).toNat) ?_ ?_
    · exact ⟨0, rfl, rfl, Nat.zero_le _, fun i hi => absurd hi (Nat.not_lt_zero i)⟩
    intro vi vr L hJ
    obtain ⟨k, rfl, rfl, hki, hall2⟩ := hJ
    try dsimp only [setd, setn, ev, nth, over, cl, eI, eP, eT, setM, setF, List.map, List.append, List.drop, List.take]
    refine K.seq ?_
    refine K.seq ?_
    refine K.region_lit ?_
    refine K.seq_pure (K.move) rfl ?_
    dsimp only [setd, setn, ev, nth]
    refine K.seq_pure (K.move) rfl ?_
    dsimp only [setd, setn, ev, nth]
    refine K.seq_pure (K.lss rfl rfl) rfl ?_
    dsimp only [setd, setn, ev, nth]
    refine K.seq_nil ?_
    refine K.norm_then ?_
    refine K.cond rfl (fun ht20 => ?_) (fun ht20 => ?_)
    · try replace ht20 := of_decide_eq_true ht20
      have hk : k < i := by omega
      refine K.skip ?_
      refine K.norm_then ?_
      refine K.seq ?_
      refine K.block ?_
      refine K.seq ?_
      refine K.region_lit ?_
      refine K.seq_pure (K.assign) rfl ?_
      dsimp only [setd, setn, ev, nth]
      refine K.seq_nil ?_
      refine K.norm_then ?_
      refine K.seq ?_
      refine K.draw_L [] Try_mixed ?_
      refine K.d_mem 0 rfl (K.loadA_own ag_25 rfl (K.m0) rfl) (fun _ h => h) (by kernel_rfl) (by kernel_rfl) rfl ?_
      try dsimp only [setd, setn, ev, nth, over, cl, eI, eP, eT, List.map, List.append, List.drop, List.take]
      refine K.d_pure 1 rfl (K.move) (by kernel_rfl) rfl ?_
      dsimp only [setd, setn, ev, nth]
      refine K.d_pure 2 rfl (K.move) (by kernel_rfl) rfl ?_
      dsimp only [setd, setn, ev, nth]
      refine K.d_ix (M := []) 3 _ rfl hS.sl sl_42 rfl rfl rfl (by omega) (by kernel_rfl) rfl ?_
      intro p26 hp26
      try dsimp only [setd, setn, ev, nth, over, cl, eI, eP, eT, List.map, List.append, List.drop, List.take]
      refine K.d_mem 4 rfl (K.loadA_p ag_27 rfl (hp26.any) rfl) (fun _ h => h) (by kernel_rfl) (by kernel_rfl) rfl ?_
      try dsimp only [setd, setn, ev, nth, over, cl, eI, eP, eT, List.map, List.append, List.drop, List.take]
      refine K.d_pure 5 rfl (K.move) (by kernel_rfl) rfl ?_
      dsimp only [setd, setn, ev, nth]
      refine K.d_pure 6 rfl (K.move) (by kernel_rfl) rfl ?_
      dsimp only [setd, setn, ev, nth]
      refine K.d_ix (M := []) 7 _ rfl hS.sl sl_42 rfl rfl rfl (by omega) (by kernel_rfl) rfl ?_
      intro p30 hp30
      try dsimp only [setd, setn, ev, nth, over, cl, eI, eP, eT, List.map, List.append, List.drop, List.take]
      refine K.d_mem 8 rfl (K.loadA_p ag_27 rfl (hp30.any) rfl) (fun _ h => h) (by kernel_rfl) (by kernel_rfl) rfl ?_
      try dsimp only [setd, setn, ev, nth, over, cl, eI, eP, eT, List.map, List.append, List.drop, List.take]
      refine K.d_loud 9 rfl (K.call_f cal_66 (fun F w hF hw => c66 (u := (l.getD i default).1) (v := (l.getD i default).2) (u2 := (l.getD k default).1) (v2 := (l.getD k default).2) (hH.pass hw) (hR.pass hw) g (hp _ (K.gt_mem hi)) (hp _ (K.gt_mem (show k < l.length by omega))))) (fun _ h => h) (by kernel_rfl) rfl ?_
      rintro ⟨A1, c1⟩ hA1
      try dsimp only [setd, setn, ev, nth, over, cl, eI, eP, eT, List.map, List.append, List.drop, List.take]
      refine K.d_pure 10 rfl (K.assign) (by kernel_rfl) rfl ?_
      dsimp only [setd, setn, ev, nth]
      refine K.d_done (by kernel_rfl) ?_
      refine K.norm_then ?_
      refine K.seq ?_
      refine K.seq ?_
      have hdl : (diffs (cuts kind base (l.getD i default).1 (l.getD i default).2 hs) (cuts kind base (l.getD k default).1 (l.getD k default).2 hs)).length ≤ 8 := by
        have := @selN_len (fun j => decide ((cuts kind base (l.getD i default).1 (l.getD i default).2 hs).getD j default ≠ (cuts kind base (l.getD k default).1 (l.getD k default).2 hs).getD j default)) (cuts kind base (l.getD i default).1 (l.getD i default).2 hs).length
        unfold diffs
        rw [cuts_len] at this ⊢
        omega
      refine K.region_lit ?_
      refine K.seq_pure (K.assign) rfl ?_
      dsimp only [setd, setn, ev, nth]
      refine K.seq_nil ?_
      refine K.norm_then ?_
      refine K.block ?_
      refine K.loopW [9, 11] [33, 34, 35, 36, 37, 38, 39, 40, 41, 42, 43, 44, 45, 46, 47] (fun vi L => ∃ (n : Nat) (isv : Bool), vi = [.bool isv, .int .i64 (n : Int)] ∧ L = [K.row (.slice A1 (diffs (cuts kind base (l.getD i default).1 (l.getD i default).2 hs) (cuts kind base (l.getD k default).1 (l.getD k default).2 hs)).length c1) 3 1 (diffs (cuts kind base (l.getD i default).1 (l.getD i default).2 hs) (cuts kind base (l.getD k default).1 (l.getD k default).2 hs)).length ((diffs (cuts kind base (l.getD i default).1 (l.getD i default).2 hs) (cuts kind base (l.getD k default).1 (l.getD k default).2 hs)).flatMap K.eI), K.blk b3 25 [.int .i64 kind, .int .i64 base, .int .i64 most, .slice A hs.length c, .slice B rs.length d]] ∧ n ≤ pts.length ∧ isv = (pts.take n).any (fun p => decide (p ∈ (diffs (cuts kind base (l.getD i default).1 (l.getD i default).2 hs) (cuts kind base (l.getD k default).1 (l.getD k default).2 hs))))) (fun vi => pts.length - (intOf (K.nth vi 1)).toNat) ?_ ?_
      · exact ⟨0, false, rfl, rfl, Nat.zero_le _, rfl⟩
      intro vi vr L hJ
      obtain ⟨n, isv, rfl, rfl, hnl, his⟩ := hJ
      try dsimp only [setd, setn, ev, nth, over, cl, eI, eP, eT, setM, setF, List.map, List.append, List.drop, List.take]
      refine K.seq ?_
      refine K.seq ?_
      refine K.region_lit ?_
      refine K.seq_pure (K.move) rfl ?_
      dsimp only [setd, setn, ev, nth]
      refine K.seq_pure (K.move) rfl ?_
      dsimp only [setd, setn, ev, nth]
      refine K.seq_pure (K.len_sl sl_22 rfl) rfl ?_
      dsimp only [setd, setn, ev, nth]
      refine K.seq_pure (K.lss rfl rfl) rfl ?_
      dsimp only [setd, setn, ev, nth]
      refine K.seq_nil ?_
      refine K.norm_then ?_
      refine K.cond rfl (fun ht36 => ?_) (fun ht36 => ?_)
      · try replace ht36 := of_decide_eq_true ht36
        have hnn : n < pts.length := by omega
        refine K.skip ?_
        refine K.norm_then ?_
        refine K.seq ?_
        refine K.block ?_
        refine K.region_lit ?_
        refine K.seq_pure (K.move) rfl ?_
        dsimp only [setd, setn, ev, nth]
        refine K.seq_pure (K.move) rfl ?_
        dsimp only [setd, setn, ev, nth]
        refine K.split 40 rfl (fun hg40 => ?_) (fun hg40 => ?_)
        · try replace hg40 := of_decide_eq_true hg40
          refine K.seq_skip ?_ ?_
          · rfl
          try dsimp only [setd, setn, ev, nth, over, cl, eI, eP, eT, List.map, List.append, List.drop, List.take]
          refine K.seq_skip ?_ ?_
          · rfl
          try dsimp only [setd, setn, ev, nth, over, cl, eI, eP, eT, List.map, List.append, List.drop, List.take]
          refine K.seq_skip ?_ ?_
          · rfl
          try dsimp only [setd, setn, ev, nth, over, cl, eI, eP, eT, List.map, List.append, List.drop, List.take]
          refine K.seq_skip ?_ ?_
          · rfl
          try dsimp only [setd, setn, ev, nth, over, cl, eI, eP, eT, List.map, List.append, List.drop, List.take]
          refine K.seq_skip ?_ ?_
          · rfl
          try dsimp only [setd, setn, ev, nth, over, cl, eI, eP, eT, List.map, List.append, List.drop, List.take]
          refine K.seq_skip ?_ ?_
          · rfl
          try dsimp only [setd, setn, ev, nth, over, cl, eI, eP, eT, List.map, List.append, List.drop, List.take]
          refine K.seq_pure (K.pick_t rfl) rfl ?_
          dsimp only [setd, setn, ev, nth]
          refine K.seq_pure (K.assign) rfl ?_
          dsimp only [setd, setn, ev, nth]
          refine K.seq_nil ?_
          refine K.norm_block ?_
          refine K.norm_then ?_
          refine K.region_lit ?_
          refine K.seq_pure (K.move) rfl ?_
          dsimp only [setd, setn, ev, nth]
          refine K.seq_pure (K.add_i64 rfl rfl (by omega)) rfl ?_
          dsimp only [setd, setn, ev, nth]
          refine K.seq_pure (K.assign) rfl ?_
          dsimp only [setd, setn, ev, nth]
          refine K.seq_nil ?_
          exact K.round_endW (L'' := [K.row (.slice A1 (diffs (cuts kind base (l.getD i default).1 (l.getD i default).2 hs) (cuts kind base (l.getD k default).1 (l.getD k default).2 hs)).length c1) 3 1 (diffs (cuts kind base (l.getD i default).1 (l.getD i default).2 hs) (cuts kind base (l.getD k default).1 (l.getD k default).2 hs)).length ((diffs (cuts kind base (l.getD i default).1 (l.getD i default).2 hs) (cuts kind base (l.getD k default).1 (l.getD k default).2 hs)).flatMap K.eI), K.blk b3 25 [.int .i64 kind, .int .i64 base, .int .i64 most, .slice A hs.length c, .slice B rs.length d]]) [.bool (true), .int .i64 ((n : Int) + 1)] ⟨n + 1, _, rfl, rfl, by omega, by rw [any_take hnn, ← his, hg40]; rfl⟩ (by simp [K.nth, intOf]; omega) (by (repeat (first | exact List.Sublist.refl _ | apply List.Sublist.cons)); done) (by kernel_rfl)
        try replace hg40 := of_decide_eq_false hg40
        refine K.seq_pure (K.move) rfl ?_
        dsimp only [setd, setn, ev, nth]
        refine K.seq_pure (K.move) rfl ?_
        dsimp only [setd, setn, ev, nth]
        refine K.seq_pure (K.move) rfl ?_
        dsimp only [setd, setn, ev, nth]
        refine K.seq_ix (M := []) _ hT.sl sl_22 rfl rfl rfl (by omega) rfl ?_
        intro p44 hp44
        try dsimp only [setd, setn, ev, nth, over, cl, eI, eP, eT, List.map, List.append, List.drop, List.take]
        refine K.seq_sil (K.load1 one_3 rfl (hp44.any)) rfl ?_
        try dsimp only [setd, setn, ev, nth, over, cl, eI, eP, eT, List.map, List.append, List.drop, List.take]
        refine K.seq_call (K.call_g cal_81 (fun F w hF hw => c81 (xs := (diffs (cuts kind base (l.getD i default).1 (l.getD i default).2 hs) (cuts kind base (l.getD k default).1 (l.getD k default).2 hs))) (K.Rd.own hw (hF _ (K.m0)) hA1 (fun _ => rfl) (by decide)) (by omega))) rfl ?_
        try dsimp only [setd, setn, ev, nth, over, cl, eI, eP, eT, List.map, List.append, List.drop, List.take]
        refine K.seq_pure (K.pick_f rfl) rfl ?_
        dsimp only [setd, setn, ev, nth]
        refine K.seq_pure (K.assign) rfl ?_
        dsimp only [setd, setn, ev, nth]
        refine K.seq_nil ?_
        refine K.norm_block ?_
        refine K.norm_then ?_
        refine K.region_lit ?_
        refine K.seq_pure (K.move) rfl ?_
        dsimp only [setd, setn, ev, nth]
        refine K.seq_pure (K.add_i64 rfl rfl (by omega)) rfl ?_
        dsimp only [setd, setn, ev, nth]
        refine K.seq_pure (K.assign) rfl ?_
        dsimp only [setd, setn, ev, nth]
        refine K.seq_nil ?_
        exact K.round_endW (L'' := [K.row (.slice A1 (diffs (cuts kind base (l.getD i default).1 (l.getD i default).2 hs) (cuts kind base (l.getD k default).1 (l.getD k default).2 hs)).length c1) 3 1 (diffs (cuts kind base (l.getD i default).1 (l.getD i default).2 hs) (cuts kind base (l.getD k default).1 (l.getD k default).2 hs)).length ((diffs (cuts kind base (l.getD i default).1 (l.getD i default).2 hs) (cuts kind base (l.getD k default).1 (l.getD k default).2 hs)).flatMap K.eI), K.blk b3 25 [.int .i64 kind, .int .i64 base, .int .i64 most, .slice A hs.length c, .slice B rs.length d]]) [.bool (decide (pts.getD n default ∈ (diffs (cuts kind base (l.getD i default).1 (l.getD i default).2 hs) (cuts kind base (l.getD k default).1 (l.getD k default).2 hs)))), .int .i64 ((n : Int) + 1)] ⟨n + 1, _, rfl, rfl, by omega, by rw [any_take hnn, ← his, hg40]; rfl⟩ (by simp [K.nth, intOf]; omega) (by (repeat (first | exact List.Sublist.refl _ | apply List.Sublist.cons)); done) (by kernel_rfl)
      try replace ht36 := of_decide_eq_false ht36
      refine K.exit ?_
      refine K.exit_then ?_
      refine K.exit_then ?_
      refine K.exit_here ?_
      refine K.norm_then ?_
      refine K.seq ?_
      refine K.region_lit ?_
      refine K.seq_pure (K.move) rfl ?_
      dsimp only [setd, setn, ev, nth]
      refine K.seq_pure (K.not_ rfl) rfl ?_
      dsimp only [setd, setn, ev, nth]
      refine K.seq_nil ?_
      refine K.norm_then ?_
      refine K.cond rfl (fun ht49 => ?_) (fun ht49 => ?_)
      · try replace ht49 := of_decide_eq_true ht49
        have hpf : pairB kind base hs l pts i k = false := by unfold pairB; rw [show pts.any (fun p => decide (p ∈ (diffs (cuts kind base (l.getD i default).1 (l.getD i default).2 hs) (cuts kind base (l.getD k default).1 (l.getD k default).2 hs)))) = isv from by rw [his, take_all (by omega)]]; simpa using ht49
        refine K.seq ?_
        refine K.region_lit ?_
        refine K.seq_pure (K.assign) rfl ?_
        dsimp only [setd, setn, ev, nth]
        refine K.seq_nil ?_
        refine K.norm_then ?_
        refine K.ret ?_
        refine K.ret_block ?_
        refine K.ret_then ?_
        refine K.ret_then ?_
        refine K.ret_block ?_
        refine K.ret_block ?_
        refine K.ret_then ?_
        refine K.ret_then ?_
        refine K.ret_block ?_
        refine K.ret_then ?_
        refine K.end_ret (fun w _ => K.res_tmp rfl w) ?_
        exact K.gives_b rfl (told_f hi hk hpf).symm
      try replace ht49 := of_decide_eq_false ht49
      have hpt : pairB kind base hs l pts i k = true := by unfold pairB; rw [show pts.any (fun p => decide (p ∈ (diffs (cuts kind base (l.getD i default).1 (l.getD i default).2 hs) (cuts kind base (l.getD k default).1 (l.getD k default).2 hs)))) = isv from by rw [his, take_all (by omega)]]; simpa using ht49
      refine K.skip ?_
      refine K.norm_block ?_
      refine K.norm_then ?_
      refine K.region_lit ?_
      refine K.seq_pure (K.move) rfl ?_
      dsimp only [setd, setn, ev, nth]
      refine K.seq_pure (K.add_i64 rfl rfl (by omega)) rfl ?_
      dsimp only [setd, setn, ev, nth]
      refine K.seq_pure (K.assign) rfl ?_
      dsimp only [setd, setn, ev, nth]
      refine K.seq_nil ?_
      exact K.round_endW (L'' := [K.blk b3 25 [.int .i64 kind, .int .i64 base, .int .i64 most, .slice A hs.length c, .slice B rs.length d]]) [.int .i64 ((k : Int) + 1)] ⟨k + 1, rfl, rfl, by omega, K.lt_succ_case hall2 hpt⟩ (by simp [K.nth, intOf]; omega) (by (repeat (first | exact List.Sublist.refl _ | apply List.Sublist.cons)); done) (by kernel_rfl)
    try replace ht20 := of_decide_eq_false ht20
    refine K.exit ?_
    refine K.exit_then ?_
    refine K.exit_then ?_
    refine K.exit_here ?_
    refine K.norm_block ?_
    refine K.norm_then ?_
    refine K.region_lit ?_
    refine K.seq_pure (K.move) rfl ?_
    dsimp only [setd, setn, ev, nth]
    refine K.seq_pure (K.add_i64 rfl rfl (by omega)) rfl ?_
    dsimp only [setd, setn, ev, nth]
    refine K.seq_pure (K.assign) rfl ?_
    dsimp only [setd, setn, ev, nth]
    refine K.seq_nil ?_
    exact K.round_endW (L'' := [K.blk b3 25 [.int .i64 kind, .int .i64 base, .int .i64 most, .slice A hs.length c, .slice B rs.length d]]) [.int .i64 ((i : Int) + 1)] ⟨i + 1, rfl, rfl, by omega, K.lt_succ_case hall (fun k' hk' => hall2 k' (by omega))⟩ (by simp [K.nth, intOf]; omega) (by (repeat (first | exact List.Sublist.refl _ | apply List.Sublist.cons)); done) (by kernel_rfl)
  try replace ht15 := of_decide_eq_false ht15
  refine K.exit ?_
  refine K.exit_then ?_
  refine K.exit_then ?_
  refine K.exit_here ?_
  refine K.norm_then ?_
  refine K.seq ?_
  refine K.region_lit ?_
  refine K.seq_pure (K.assign) rfl ?_
  dsimp only [setd, setn, ev, nth]
  refine K.seq_nil ?_
  refine K.norm_then ?_
  refine K.ret ?_
  refine K.end_ret (fun w _ => K.res_tmp rfl w) ?_
  exact K.gives_b rfl (told_t (fun i hi k hk => hall i (by omega) k hk)).symm

set_option maxRecDepth 100000 in
set_option maxHeartbeats 1000000 in
theorem c49 {kind base most : Int} {A B : Option Addr} {c d : Nat} {hs : List Int} {rs : List (Int × Int)} {l : List (Int × Int)} {C : Option Addr} {cc : Nat} {w : World} (hH : K.Rd w A 1 K.eI hs) (hR : K.Rd w B 2 K.eP rs) (hn : hs.length ≤ 4611686018427387904) (hm : rs.length ≤ 4611686018427387904) (hS : K.Rd w C 2 K.eP l) (hll : l.length ≤ 4611686018427387904) :
    Calls Try.prog 49 [.agg #[.int .i64 kind, .int .i64 base, .int .i64 most, .slice A hs.length c, .slice B rs.length d], .slice C l.length cc].toArray w (K.Gives (.int .i64 (listE kind base most hs rs l)) w) := by
  refine K.enter (args := [.agg #[.int .i64 kind, .int .i64 base, .int .i64 most, .slice A hs.length c, .slice B rs.length d], .slice C l.length cc]) Try.func49 rfl (n := 69) rfl ?_
  simp only [List.replicate, List.cons_append, List.nil_append]
  refine K.seq ?_
  refine K.region_lit ?_
  refine K.seq_new (K.box) rfl ?_
  intro b2
  try dsimp only [setd, setn, ev, nth, over, cl, eI, eP, eT, List.map, List.append, List.drop, List.take]
  refine K.seq_pure (K.assign) rfl ?_
  dsimp only [setd, setn, ev, nth]
  refine K.seq_nil ?_
  refine K.norm_then ?_
  refine K.seq ?_
  refine K.region_lit ?_
  refine K.seq_sil (K.loadA_own ag_25 rfl (K.m0) rfl) rfl ?_
  try dsimp only [setd, setn, ev, nth, over, cl, eI, eP, eT, List.map, List.append, List.drop, List.take]
  refine K.seq_call (K.call_g cal_16 (fun F w hF hw => c16 (hH.pass hw) (hR.pass hw) hn hm)) rfl ?_
  try dsimp only [setd, setn, ev, nth, over, cl, eI, eP, eT, List.map, List.append, List.drop, List.take]
  refine K.seq_pure (K.move) rfl ?_
  dsimp only [setd, setn, ev, nth]
  refine K.seq_pure (K.extract rfl rfl) rfl ?_
  dsimp only [setd, setn, ev, nth]
  refine K.seq_pure (K.extract rfl rfl) rfl ?_
  dsimp only [setd, setn, ev, nth]
  refine K.seq_pure (K.extract rfl rfl) rfl ?_
  dsimp only [setd, setn, ev, nth]
  refine K.seq_pure (K.assign) rfl ?_
  dsimp only [setd, setn, ev, nth]
  refine K.seq_pure (K.assign) rfl ?_
  dsimp only [setd, setn, ev, nth]
  refine K.seq_pure (K.assign) rfl ?_
  dsimp only [setd, setn, ev, nth]
  refine K.seq_nil ?_
  refine K.norm_then ?_
  refine K.seqJ [7] [17, 18, 19, 20, 21, 22, 23] (fun vi L => ∃ er : Int, vi = [.int .i64 er] ∧ L = [K.blk b2 25 [.int .i64 kind, .int .i64 base, .int .i64 most, .slice A hs.length c, .slice B rs.length d]] ∧ ((er ≠ 0 ∧ er = preE kind base most hs rs l) ∨ (er = 0 ∧ (chk kind base most hs rs).2.2 = 0 ∧ l.length ≤ 6))) ?_ ?_
  · refine K.seq ?_
    refine K.region_lit ?_
    refine K.seq_pure (K.move) rfl ?_
    dsimp only [setd, setn, ev, nth]
    refine K.seq_pure (K.eql rfl rfl) rfl ?_
    dsimp only [setd, setn, ev, nth]
    refine K.seq_pure (K.move) rfl ?_
    dsimp only [setd, setn, ev, nth]
    refine K.split 19 rfl (fun hg19 => ?_) (fun hg19 => ?_)
    · try replace hg19 := of_decide_eq_true hg19
      refine K.seq_pure (K.move) rfl ?_
      dsimp only [setd, setn, ev, nth]
      refine K.seq_pure (K.len_sl sl_42 rfl) rfl ?_
      dsimp only [setd, setn, ev, nth]
      refine K.seq_pure (K.gtr rfl rfl) rfl ?_
      dsimp only [setd, setn, ev, nth]
      refine K.seq_pure (K.pick_t rfl) rfl ?_
      dsimp only [setd, setn, ev, nth]
      refine K.seq_nil ?_
      refine K.norm_then ?_
      refine K.cond rfl (fun ht23 => ?_) (fun ht23 => ?_)
      · try replace ht23 := of_decide_eq_true ht23
        refine K.region_lit ?_
        refine K.seq_pure (K.assign) rfl ?_
        dsimp only [setd, setn, ev, nth]
        refine K.seq_nil ?_
        exact K.join_here (L' := [K.blk b2 25 [.int .i64 kind, .int .i64 base, .int .i64 most, .slice A hs.length c, .slice B rs.length d]]) [.int .i64 (3)] ⟨_, rfl, rfl, .inl ⟨by decide, by unfold preE; rw [if_neg (by omega), if_pos (by omega)]⟩⟩ (fun w h => h) (by kernel_rfl)
      try replace ht23 := of_decide_eq_false ht23
      refine K.skip ?_
      exact K.join_here (L' := [K.blk b2 25 [.int .i64 kind, .int .i64 base, .int .i64 most, .slice A hs.length c, .slice B rs.length d]]) [.int .i64 ((chk kind base most hs rs).2.2)] ⟨_, rfl, rfl, .inr ⟨by omega, by omega, by omega⟩⟩ (fun w h => h) (by kernel_rfl)
    try replace hg19 := of_decide_eq_false hg19
    refine K.seq_skip ?_ ?_
    · rfl
    try dsimp only [setd, setn, ev, nth, over, cl, eI, eP, eT, List.map, List.append, List.drop, List.take]
    refine K.seq_skip ?_ ?_
    · rfl
    try dsimp only [setd, setn, ev, nth, over, cl, eI, eP, eT, List.map, List.append, List.drop, List.take]
    refine K.seq_skip ?_ ?_
    · rfl
    try dsimp only [setd, setn, ev, nth, over, cl, eI, eP, eT, List.map, List.append, List.drop, List.take]
    refine K.seq_pure (K.pick_f rfl) rfl ?_
    dsimp only [setd, setn, ev, nth]
    refine K.seq_nil ?_
    refine K.norm_then ?_
    refine K.cond_false rfl ?_
    refine K.skip ?_
    exact K.join_here (L' := [K.blk b2 25 [.int .i64 kind, .int .i64 base, .int .i64 most, .slice A hs.length c, .slice B rs.length d]]) [.int .i64 ((chk kind base most hs rs).2.2)] ⟨_, rfl, rfl, .inl ⟨hg19, by unfold preE; rw [if_pos hg19]⟩⟩ (fun w h => h) (by kernel_rfl)
  intro vi vr L hJ
  obtain ⟨er, rfl, rfl, hev⟩ := hJ
  try dsimp only [setd, setn, ev, nth, over, cl, eI, eP, eT, setM, setF, List.map, List.append, List.drop, List.take]
  refine K.seqJ [7] [8, 24, 25, 26, 27, 28, 29, 30, 31, 32, 33, 34, 35, 36, 37, 38] (fun vi L => ∃ er : Int, vi = [.int .i64 er] ∧ L = [K.blk b2 25 [.int .i64 kind, .int .i64 base, .int .i64 most, .slice A hs.length c, .slice B rs.length d]] ∧ ((er ≠ 0 ∧ er = preE kind base most hs rs l) ∨ (er = 0 ∧ preE kind base most hs rs l = 0))) ?_ ?_
  · refine K.seq ?_
    refine K.region_lit ?_
    refine K.seq_pure (K.assign) rfl ?_
    dsimp only [setd, setn, ev, nth]
    refine K.seq_nil ?_
    refine K.norm_then ?_
    refine K.block ?_
    refine K.loopW [7, 8] [24, 25, 26, 27, 28, 29, 30, 31, 32, 33, 34, 35, 36, 37, 38] (fun vi L => ∃ (i : Nat) (er : Int), vi = [.int .i64 er, .int .i64 (i : Int)] ∧ L = [K.blk b2 25 [.int .i64 kind, .int .i64 base, .int .i64 most, .slice A hs.length c, .slice B rs.length d]] ∧ i ≤ l.length ∧ ((er ≠ 0 ∧ er = preE kind base most hs rs l) ∨ (er = 0 ∧ (chk kind base most hs rs).2.2 = 0 ∧ l.length ≤ 6 ∧ ∀ j, j < i → scE (l.getD j default).1 (l.getD j default).2 = 0))) (fun vi => l.length - (intOf (K.nth vi 1)).toNat) ?_ ?_
    · exact ⟨0, er, rfl, rfl, Nat.zero_le _, hev.elim .inl (fun h => .inr ⟨h.1, h.2.1, h.2.2, fun j hj => absurd hj (Nat.not_lt_zero j)⟩)⟩
    intro vi vr L hJ
    obtain ⟨i, er, rfl, rfl, hil, hev⟩ := hJ
    try dsimp only [setd, setn, ev, nth, over, cl, eI, eP, eT, setM, setF, List.map, List.append, List.drop, List.take]
    refine K.seq ?_
    refine K.seq ?_
    refine K.region_lit ?_
    refine K.seq_pure (K.move) rfl ?_
    dsimp only [setd, setn, ev, nth]
    refine K.seq_pure (K.move) rfl ?_
    dsimp only [setd, setn, ev, nth]
    refine K.seq_pure (K.len_sl sl_42 rfl) rfl ?_
    dsimp only [setd, setn, ev, nth]
    refine K.seq_pure (K.lss rfl rfl) rfl ?_
    dsimp only [setd, setn, ev, nth]
    refine K.seq_pure (K.move) rfl ?_
    dsimp only [setd, setn, ev, nth]
    refine K.split 28 rfl (fun hg28 => ?_) (fun hg28 => ?_)
    · try replace hg28 := of_decide_eq_true hg28
      have hi : i < l.length := by omega
      refine K.seq_pure (K.move) rfl ?_
      dsimp only [setd, setn, ev, nth]
      refine K.seq_pure (K.eql rfl rfl) rfl ?_
      dsimp only [setd, setn, ev, nth]
      refine K.seq_pure (K.pick_t rfl) rfl ?_
      dsimp only [setd, setn, ev, nth]
      refine K.seq_nil ?_
      refine K.norm_then ?_
      refine K.cond rfl (fun ht31 => ?_) (fun ht31 => ?_)
      · try replace ht31 := of_decide_eq_true ht31
        refine K.skip ?_
        refine K.norm_then ?_
        refine K.seq ?_
        refine K.block ?_
        refine K.region_lit ?_
        refine K.seq_pure (K.move) rfl ?_
        dsimp only [setd, setn, ev, nth]
        refine K.seq_pure (K.move) rfl ?_
        dsimp only [setd, setn, ev, nth]
        refine K.seq_ix (M := []) _ hS.sl sl_42 rfl rfl rfl (by omega) rfl ?_
        intro p36 hp36
        try dsimp only [setd, setn, ev, nth, over, cl, eI, eP, eT, List.map, List.append, List.drop, List.take]
        refine K.seq_sil (K.loadA_p ag_27 rfl (hp36.any) rfl) rfl ?_
        try dsimp only [setd, setn, ev, nth, over, cl, eI, eP, eT, List.map, List.append, List.drop, List.take]
        refine K.seq_call (K.call_g cal_48 (fun F w hF hw => c48 w)) rfl ?_
        try dsimp only [setd, setn, ev, nth, over, cl, eI, eP, eT, List.map, List.append, List.drop, List.take]
        refine K.seq_pure (K.assign) rfl ?_
        dsimp only [setd, setn, ev, nth]
        refine K.seq_nil ?_
        refine K.norm_block ?_
        refine K.norm_then ?_
        refine K.region_lit ?_
        refine K.seq_pure (K.move) rfl ?_
        dsimp only [setd, setn, ev, nth]
        refine K.seq_pure (K.add_i64 rfl rfl (by omega)) rfl ?_
        dsimp only [setd, setn, ev, nth]
        refine K.seq_pure (K.assign) rfl ?_
        dsimp only [setd, setn, ev, nth]
        refine K.seq_nil ?_
        have hz := hev.resolve_left (fun h => h.1 (by omega))
        by_cases hq : scE (l.getD i default).1 (l.getD i default).2 = 0
        · exact K.round_endW (L'' := [K.blk b2 25 [.int .i64 kind, .int .i64 base, .int .i64 most, .slice A hs.length c, .slice B rs.length d]]) [.int .i64 (scE (l.getD i default).1 (l.getD i default).2), .int .i64 ((i : Int) + 1)] ⟨i + 1, _, rfl, rfl, by omega, .inr ⟨hq, hz.2.1, hz.2.2.1, K.lt_succ_case hz.2.2.2 hq⟩⟩ (by simp [K.nth, intOf]; omega) (by (repeat (first | exact List.Sublist.refl _ | apply List.Sublist.cons)); done) (by kernel_rfl)
        · exact K.round_endW (L'' := [K.blk b2 25 [.int .i64 kind, .int .i64 base, .int .i64 most, .slice A hs.length c, .slice B rs.length d]]) [.int .i64 (scE (l.getD i default).1 (l.getD i default).2), .int .i64 ((i : Int) + 1)] ⟨i + 1, _, rfl, rfl, by omega, .inl ⟨hq, by unfold preE; rw [if_neg (by omega), if_neg (by omega)]; exact (scs_at hi hz.2.2.2 hq).symm⟩⟩ (by simp [K.nth, intOf]; omega) (by (repeat (first | exact List.Sublist.refl _ | apply List.Sublist.cons)); done) (by kernel_rfl)
      try replace ht31 := of_decide_eq_false ht31
      refine K.exit ?_
      refine K.exit_then ?_
      refine K.exit_then ?_
      refine K.exit_here ?_
      exact K.join_here (L' := [K.blk b2 25 [.int .i64 kind, .int .i64 base, .int .i64 most, .slice A hs.length c, .slice B rs.length d]]) [.int .i64 er] ⟨_, rfl, rfl, hev.elim .inl (fun h => absurd h.1 (by omega))⟩ (fun w h => h) (by kernel_rfl)
    try replace hg28 := of_decide_eq_false hg28
    refine K.seq_skip ?_ ?_
    · rfl
    try dsimp only [setd, setn, ev, nth, over, cl, eI, eP, eT, List.map, List.append, List.drop, List.take]
    refine K.seq_skip ?_ ?_
    · rfl
    try dsimp only [setd, setn, ev, nth, over, cl, eI, eP, eT, List.map, List.append, List.drop, List.take]
    refine K.seq_pure (K.pick_f rfl) rfl ?_
    dsimp only [setd, setn, ev, nth]
    refine K.seq_nil ?_
    refine K.norm_then ?_
    refine K.cond_false rfl ?_
    refine K.exit ?_
    refine K.exit_then ?_
    refine K.exit_then ?_
    refine K.exit_here ?_
    exact K.join_here (L' := [K.blk b2 25 [.int .i64 kind, .int .i64 base, .int .i64 most, .slice A hs.length c, .slice B rs.length d]]) [.int .i64 er] ⟨_, rfl, rfl, hev.elim .inl (fun h => .inr ⟨h.1, by unfold preE; rw [if_neg (by omega), if_neg (by omega)]; exact scs_0 (fun j hj => h.2.2.2 j (by omega))⟩)⟩ (fun w h => h) (by kernel_rfl)
  intro vi vr L hJ
  obtain ⟨er, rfl, rfl, hev⟩ := hJ
  try dsimp only [setd, setn, ev, nth, over, cl, eI, eP, eT, setM, setF, List.map, List.append, List.drop, List.take]
  refine K.seq ?_
  refine K.seq ?_
  refine K.region_lit ?_
  refine K.seq_pure (K.assign) rfl ?_
  dsimp only [setd, setn, ev, nth]
  refine K.seq_nil ?_
  refine K.norm_then ?_
  refine K.block ?_
  refine K.loopW [7, 9] [10, 39, 40, 41, 42, 43, 44, 45, 46, 47, 48, 49, 50, 51, 52, 53, 54, 55, 56, 57, 58, 59, 60, 61, 62, 63, 64, 65, 66, 67, 68, 69] (fun vi L => ∃ (i : Nat) (er : Int), vi = [.int .i64 er, .int .i64 (i : Int)] ∧ L = [K.blk b2 25 [.int .i64 kind, .int .i64 base, .int .i64 most, .slice A hs.length c, .slice B rs.length d]] ∧ i ≤ l.length ∧ ((er ≠ 0 ∧ er = listE kind base most hs rs l) ∨ (er = 0 ∧ preE kind base most hs rs l = 0 ∧ (∀ i', i' < i → ∀ k, k < i' → dlen kind base hs l i' k ≠ 0)))) (fun vi => l.length - (intOf (K.nth vi 1)).toNat) ?_ ?_
  · exact ⟨0, er, rfl, rfl, Nat.zero_le _, hev.elim (fun h => .inl ⟨h.1, by rw [list_pre, if_pos (by rw [← h.2]; exact h.1)]; exact h.2⟩) (fun h => .inr ⟨h.1, h.2, fun i hi => absurd hi (Nat.not_lt_zero i)⟩)⟩
  intro vi vr L hJ
  obtain ⟨i, er, rfl, rfl, hil, hev⟩ := hJ
  try dsimp only [setd, setn, ev, nth, over, cl, eI, eP, eT, setM, setF, List.map, List.append, List.drop, List.take]
  refine K.seq ?_
  refine K.seq ?_
  refine K.region_lit ?_
  refine K.seq_pure (K.move) rfl ?_
  dsimp only [setd, setn, ev, nth]
  refine K.seq_pure (K.move) rfl ?_
  dsimp only [setd, setn, ev, nth]
  refine K.seq_pure (K.len_sl sl_42 rfl) rfl ?_
  dsimp only [setd, setn, ev, nth]
  refine K.seq_pure (K.lss rfl rfl) rfl ?_
  dsimp only [setd, setn, ev, nth]
  refine K.seq_pure (K.move) rfl ?_
  dsimp only [setd, setn, ev, nth]
  refine K.split 43 rfl (fun hg43 => ?_) (fun hg43 => ?_)
  · try replace hg43 := of_decide_eq_true hg43
    have hi : i < l.length := by omega
    refine K.seq_pure (K.move) rfl ?_
    dsimp only [setd, setn, ev, nth]
    refine K.seq_pure (K.eql rfl rfl) rfl ?_
    dsimp only [setd, setn, ev, nth]
    refine K.seq_pure (K.pick_t rfl) rfl ?_
    dsimp only [setd, setn, ev, nth]
    refine K.seq_nil ?_
    refine K.norm_then ?_
    refine K.cond rfl (fun ht46 => ?_) (fun ht46 => ?_)
    · try replace ht46 := of_decide_eq_true ht46
      refine K.skip ?_
      refine K.norm_then ?_
      refine K.seq ?_
      refine K.block ?_
      refine K.seq ?_
      refine K.region_lit ?_
      refine K.seq_pure (K.assign) rfl ?_
      dsimp only [setd, setn, ev, nth]
      refine K.seq_nil ?_
      refine K.norm_then ?_
      refine K.block ?_
      refine K.loopW [7, 10] [49, 50, 51, 52, 53, 54, 55, 56, 57, 58, 59, 60, 61, 62, 63, 64, 65, 66, 67, 68, 69] (fun vi L => ∃ (k : Nat) (er : Int), vi = [.int .i64 er, .int .i64 (k : Int)] ∧ L = [K.blk b2 25 [.int .i64 kind, .int .i64 base, .int .i64 most, .slice A hs.length c, .slice B rs.length d]] ∧ k ≤ i ∧ ((er ≠ 0 ∧ er = listE kind base most hs rs l) ∨ (er = 0 ∧ preE kind base most hs rs l = 0 ∧ (∀ i', i' < i → ∀ k, k < i' → dlen kind base hs l i' k ≠ 0) ∧ ∀ k', k' < k → dlen kind base hs l i k' ≠ 0))) (fun vi => i - (intOf (K.nth vi 1)).toNat) ?_ ?_
      · exact ⟨0, er, rfl, rfl, Nat.zero_le _, hev.elim .inl (fun h => .inr ⟨h.1, h.2.1, h.2.2, fun k hk => absurd hk (Nat.not_lt_zero k)⟩)⟩
      intro vi vr L hJ
      obtain ⟨k, er, rfl, rfl, hki, hev⟩ := hJ
      try dsimp only [setd, setn, ev, nth, over, cl, eI, eP, eT, setM, setF, List.map, List.append, List.drop, List.take]
      refine K.seq ?_
      refine K.seq ?_
      refine K.region_lit ?_
      refine K.seq_pure (K.move) rfl ?_
      dsimp only [setd, setn, ev, nth]
      refine K.seq_pure (K.move) rfl ?_
      dsimp only [setd, setn, ev, nth]
      refine K.seq_pure (K.lss rfl rfl) rfl ?_
      dsimp only [setd, setn, ev, nth]
      refine K.seq_pure (K.move) rfl ?_
      dsimp only [setd, setn, ev, nth]
      refine K.split 52 rfl (fun hg52 => ?_) (fun hg52 => ?_)
      · try replace hg52 := of_decide_eq_true hg52
        have hk : k < i := by omega
        refine K.seq_pure (K.move) rfl ?_
        dsimp only [setd, setn, ev, nth]
        refine K.seq_pure (K.eql rfl rfl) rfl ?_
        dsimp only [setd, setn, ev, nth]
        refine K.seq_pure (K.pick_t rfl) rfl ?_
        dsimp only [setd, setn, ev, nth]
        refine K.seq_nil ?_
        refine K.norm_then ?_
        refine K.cond rfl (fun ht55 => ?_) (fun ht55 => ?_)
        · try replace ht55 := of_decide_eq_true ht55
          refine K.skip ?_
          refine K.norm_then ?_
          refine K.seq ?_
          refine K.block ?_
          refine K.seq ?_
          have hz0 := hev.resolve_left (fun h => h.1 (by omega))
          have hpz : (chk kind base most hs rs).2.2 = 0 ∧ l.length ≤ 6 ∧ scsE l = 0 := pre_0 hz0.2.1
          have g := chk_good hpz.1
          have g1 := g.k
          have g2 := g.n
          have g3 := g.r
          have g4 := g.b
          have g5 := g.m
          have hp := scsE_parts hpz.2.2
          refine K.draw_L [] Try_mixed ?_
          refine K.d_mem 0 rfl (K.loadA_own ag_25 rfl (K.m0) rfl) (fun _ h => h) (by kernel_rfl) (by kernel_rfl) rfl ?_
          try dsimp only [setd, setn, ev, nth, over, cl, eI, eP, eT, List.map, List.append, List.drop, List.take]
          refine K.d_pure 1 rfl (K.move) (by kernel_rfl) rfl ?_
          dsimp only [setd, setn, ev, nth]
          refine K.d_pure 2 rfl (K.move) (by kernel_rfl) rfl ?_
          dsimp only [setd, setn, ev, nth]
          refine K.d_ix (M := []) 3 _ rfl hS.sl sl_42 rfl rfl rfl (by omega) (by kernel_rfl) rfl ?_
          intro p61 hp61
          try dsimp only [setd, setn, ev, nth, over, cl, eI, eP, eT, List.map, List.append, List.drop, List.take]
          refine K.d_mem 4 rfl (K.loadA_p ag_27 rfl (hp61.any) rfl) (fun _ h => h) (by kernel_rfl) (by kernel_rfl) rfl ?_
          try dsimp only [setd, setn, ev, nth, over, cl, eI, eP, eT, List.map, List.append, List.drop, List.take]
          refine K.d_pure 5 rfl (K.move) (by kernel_rfl) rfl ?_
          dsimp only [setd, setn, ev, nth]
          refine K.d_pure 6 rfl (K.move) (by kernel_rfl) rfl ?_
          dsimp only [setd, setn, ev, nth]
          refine K.d_ix (M := []) 7 _ rfl hS.sl sl_42 rfl rfl rfl (by omega) (by kernel_rfl) rfl ?_
          intro p65 hp65
          try dsimp only [setd, setn, ev, nth, over, cl, eI, eP, eT, List.map, List.append, List.drop, List.take]
          refine K.d_mem 8 rfl (K.loadA_p ag_27 rfl (hp65.any) rfl) (fun _ h => h) (by kernel_rfl) (by kernel_rfl) rfl ?_
          try dsimp only [setd, setn, ev, nth, over, cl, eI, eP, eT, List.map, List.append, List.drop, List.take]
          refine K.d_loud 9 rfl (K.call_f cal_66 (fun F w hF hw => c66 (u := (l.getD i default).1) (v := (l.getD i default).2) (u2 := (l.getD k default).1) (v2 := (l.getD k default).2) (hH.pass hw) (hR.pass hw) g (hp _ (K.gt_mem hi)) (hp _ (K.gt_mem (show k < l.length by omega))))) (fun _ h => h) (by kernel_rfl) rfl ?_
          rintro ⟨A1, c1⟩ hA1
          try dsimp only [setd, setn, ev, nth, over, cl, eI, eP, eT, List.map, List.append, List.drop, List.take]
          refine K.d_pure 10 rfl (K.len_sl sl_22 rfl) (by kernel_rfl) rfl ?_
          dsimp only [setd, setn, ev, nth]
          refine K.d_pure 11 rfl (K.eql rfl rfl) (by kernel_rfl) rfl ?_
          dsimp only [setd, setn, ev, nth]
          refine K.d_done (by kernel_rfl) ?_
          refine K.norm_then ?_
          refine K.cond rfl (fun ht69 => ?_) (fun ht69 => ?_)
          · try replace ht69 := of_decide_eq_true ht69
            refine K.region_lit ?_
            refine K.seq_pure (K.assign) rfl ?_
            dsimp only [setd, setn, ev, nth]
            refine K.seq_nil ?_
            refine K.norm_block ?_
            refine K.norm_then ?_
            refine K.region_lit ?_
            refine K.seq_pure (K.move) rfl ?_
            dsimp only [setd, setn, ev, nth]
            refine K.seq_pure (K.add_i64 rfl rfl (by omega)) rfl ?_
            dsimp only [setd, setn, ev, nth]
            refine K.seq_pure (K.assign) rfl ?_
            dsimp only [setd, setn, ev, nth]
            refine K.seq_nil ?_
            have hz := hev.resolve_left (fun h => h.1 (by omega))
            exact K.round_endW (L'' := [K.blk b2 25 [.int .i64 kind, .int .i64 base, .int .i64 most, .slice A hs.length c, .slice B rs.length d]]) [.int .i64 5, .int .i64 ((k : Int) + 1)] ⟨k + 1, _, rfl, rfl, by omega, .inl ⟨by decide, by rw [list_pre, if_neg (by omega), if_pos (twice_t hi hk (by unfold dlen; omega))]⟩⟩ (by simp [K.nth, intOf]; omega) (by (repeat (first | exact List.Sublist.refl _ | apply List.Sublist.cons)); done) (by kernel_rfl)
          try replace ht69 := of_decide_eq_false ht69
          refine K.skip ?_
          refine K.norm_block ?_
          refine K.norm_then ?_
          refine K.region_lit ?_
          refine K.seq_pure (K.move) rfl ?_
          dsimp only [setd, setn, ev, nth]
          refine K.seq_pure (K.add_i64 rfl rfl (by omega)) rfl ?_
          dsimp only [setd, setn, ev, nth]
          refine K.seq_pure (K.assign) rfl ?_
          dsimp only [setd, setn, ev, nth]
          refine K.seq_nil ?_
          have hz := hev.resolve_left (fun h => h.1 (by omega))
          exact K.round_endW (L'' := [K.blk b2 25 [.int .i64 kind, .int .i64 base, .int .i64 most, .slice A hs.length c, .slice B rs.length d]]) [.int .i64 er, .int .i64 ((k : Int) + 1)] ⟨k + 1, _, rfl, rfl, by omega, .inr ⟨hz.1, hz.2.1, hz.2.2.1, K.lt_succ_case hz.2.2.2 (by unfold dlen; omega)⟩⟩ (by simp [K.nth, intOf]; omega) (by (repeat (first | exact List.Sublist.refl _ | apply List.Sublist.cons)); done) (by kernel_rfl)
        try replace ht55 := of_decide_eq_false ht55
        refine K.exit ?_
        refine K.exit_then ?_
        refine K.exit_then ?_
        refine K.exit_here ?_
        refine K.norm_block ?_
        refine K.norm_then ?_
        refine K.region_lit ?_
        refine K.seq_pure (K.move) rfl ?_
        dsimp only [setd, setn, ev, nth]
        refine K.seq_pure (K.add_i64 rfl rfl (by omega)) rfl ?_
        dsimp only [setd, setn, ev, nth]
        refine K.seq_pure (K.assign) rfl ?_
        dsimp only [setd, setn, ev, nth]
        refine K.seq_nil ?_
        exact K.round_endW (L'' := [K.blk b2 25 [.int .i64 kind, .int .i64 base, .int .i64 most, .slice A hs.length c, .slice B rs.length d]]) [.int .i64 er, .int .i64 ((i : Int) + 1)] ⟨i + 1, _, rfl, rfl, by omega, hev.elim .inl (fun h => absurd h.1 (by omega))⟩ (by simp [K.nth, intOf]; omega) (by (repeat (first | exact List.Sublist.refl _ | apply List.Sublist.cons)); done) (by kernel_rfl)
      try replace hg52 := of_decide_eq_false hg52
      refine K.seq_skip ?_ ?_
      · rfl
      try dsimp only [setd, setn, ev, nth, over, cl, eI, eP, eT, List.map, List.append, List.drop, List.take]
      refine K.seq_skip ?_ ?_
      · rfl
      try dsimp only [setd, setn, ev, nth, over, cl, eI, eP, eT, List.map, List.append, List.drop, List.take]
      refine K.seq_pure (K.pick_f rfl) rfl ?_
      dsimp only [setd, setn, ev, nth]
      refine K.seq_nil ?_
      refine K.norm_then ?_
      refine K.cond_false rfl ?_
      refine K.exit ?_
      refine K.exit_then ?_
      refine K.exit_then ?_
      refine K.exit_here ?_
      refine K.norm_block ?_
      refine K.norm_then ?_
      refine K.region_lit ?_
      refine K.seq_pure (K.move) rfl ?_
      dsimp only [setd, setn, ev, nth]
      refine K.seq_pure (K.add_i64 rfl rfl (by omega)) rfl ?_
      dsimp only [setd, setn, ev, nth]
      refine K.seq_pure (K.assign) rfl ?_
      dsimp only [setd, setn, ev, nth]
      refine K.seq_nil ?_
      exact K.round_endW (L'' := [K.blk b2 25 [.int .i64 kind, .int .i64 base, .int .i64 most, .slice A hs.length c, .slice B rs.length d]]) [.int .i64 er, .int .i64 ((i : Int) + 1)] ⟨i + 1, _, rfl, rfl, by omega, hev.elim .inl (fun h => .inr ⟨h.1, h.2.1, K.lt_succ_case h.2.2.1 (fun k' hk' => h.2.2.2 k' (by omega))⟩)⟩ (by simp [K.nth, intOf]; omega) (by (repeat (first | exact List.Sublist.refl _ | apply List.Sublist.cons)); done) (by kernel_rfl)
    try replace ht46 := of_decide_eq_false ht46
    refine K.exit ?_
    refine K.exit_then ?_
    refine K.exit_then ?_
    refine K.exit_here ?_
    refine K.norm_then ?_
    refine K.seq ?_
    refine K.region_lit ?_
    refine K.seq_pure (K.move) rfl ?_
    dsimp only [setd, setn, ev, nth]
    refine K.seq_pure (K.assign) rfl ?_
    dsimp only [setd, setn, ev, nth]
    refine K.seq_nil ?_
    refine K.norm_then ?_
    refine K.ret ?_
    refine K.end_ret (fun w _ => K.res_tmp rfl w) ?_
    exact K.gives_i rfl (hev.elim (fun h => h.2) (fun h => by rw [h.1, list_pre, if_neg (by omega), twice_f (fun i hi k hk => h.2.2 i (by omega) k hk)]; rfl))
  try replace hg43 := of_decide_eq_false hg43
  refine K.seq_skip ?_ ?_
  · rfl
  try dsimp only [setd, setn, ev, nth, over, cl, eI, eP, eT, List.map, List.append, List.drop, List.take]
  refine K.seq_skip ?_ ?_
  · rfl
  try dsimp only [setd, setn, ev, nth, over, cl, eI, eP, eT, List.map, List.append, List.drop, List.take]
  refine K.seq_pure (K.pick_f rfl) rfl ?_
  dsimp only [setd, setn, ev, nth]
  refine K.seq_nil ?_
  refine K.norm_then ?_
  refine K.cond_false rfl ?_
  refine K.exit ?_
  refine K.exit_then ?_
  refine K.exit_then ?_
  refine K.exit_here ?_
  refine K.norm_then ?_
  refine K.seq ?_
  refine K.region_lit ?_
  refine K.seq_pure (K.move) rfl ?_
  dsimp only [setd, setn, ev, nth]
  refine K.seq_pure (K.assign) rfl ?_
  dsimp only [setd, setn, ev, nth]
  refine K.seq_nil ?_
  refine K.norm_then ?_
  refine K.ret ?_
  refine K.end_ret (fun w _ => K.res_tmp rfl w) ?_
  exact K.gives_i rfl (hev.elim (fun h => h.2) (fun h => by rw [h.1, list_pre, if_neg (by omega), twice_f (fun i hi k hk => h.2.2 i (by omega) k hk)]; rfl))

set_option maxRecDepth 100000 in
set_option maxHeartbeats 1000000 in
theorem c35 {kind base most : Int} {A B : Option Addr} {c d : Nat} {hs : List Int} {rs : List (Int × Int)} {l : List (Int × Int)} {C : Option Addr} {cc : Nat} {w : World} (hH : K.Rd w A 1 K.eI hs) (hR : K.Rd w B 2 K.eP rs) (hn : hs.length ≤ 4611686018427387904) (hm : rs.length ≤ 4611686018427387904) (hS : K.Rd w C 2 K.eP l) (hll : l.length ≤ 4611686018427387904) :
    Calls Try.prog 35 [.agg #[.int .i64 kind, .int .i64 base, .int .i64 most, .slice A hs.length c, .slice B rs.length d], .slice C l.length cc].toArray w (K.RetIE (tellR kind base most hs rs l) (tellE kind base most hs rs l) w) := by
  refine K.enter (args := [.agg #[.int .i64 kind, .int .i64 base, .int .i64 most, .slice A hs.length c, .slice B rs.length d], .slice C l.length cc]) Try.func35 rfl (n := 43) rfl ?_
  simp only [List.replicate, List.cons_append, List.nil_append]
  refine K.seq ?_
  refine K.region_lit ?_
  refine K.seq_new (K.box) rfl ?_
  intro b2
  try dsimp only [setd, setn, ev, nth, over, cl, eI, eP, eT, List.map, List.append, List.drop, List.take]
  refine K.seq_pure (K.assign) rfl ?_
  dsimp only [setd, setn, ev, nth]
  refine K.seq_pure (K.assign) rfl ?_
  dsimp only [setd, setn, ev, nth]
  refine K.seq_nil ?_
  refine K.norm_then ?_
  refine K.seq ?_
  refine K.region_lit ?_
  refine K.seq_sil (K.loadA_own ag_25 rfl (K.m0) rfl) rfl ?_
  try dsimp only [setd, setn, ev, nth, over, cl, eI, eP, eT, List.map, List.append, List.drop, List.take]
  refine K.seq_pure (K.move) rfl ?_
  dsimp only [setd, setn, ev, nth]
  refine K.seq_call (K.call_g cal_49 (fun F w hF hw => c49 (l := l) (hH.pass hw) (hR.pass hw) hn hm (hS.pass hw) hll)) rfl ?_
  try dsimp only [setd, setn, ev, nth, over, cl, eI, eP, eT, List.map, List.append, List.drop, List.take]
  refine K.seq_pure (K.assign) rfl ?_
  dsimp only [setd, setn, ev, nth]
  refine K.seq_nil ?_
  refine K.norm_then ?_
  refine K.seq ?_
  refine K.seq ?_
  refine K.region_lit ?_
  refine K.seq_pure (K.move) rfl ?_
  dsimp only [setd, setn, ev, nth]
  refine K.seq_pure (K.neq rfl rfl) rfl ?_
  dsimp only [setd, setn, ev, nth]
  refine K.seq_nil ?_
  refine K.norm_then ?_
  refine K.cond rfl (fun ht14 => ?_) (fun ht14 => ?_)
  · try replace ht14 := of_decide_eq_true ht14
    refine K.seq ?_
    refine K.region_lit ?_
    refine K.seq_pure (K.move) rfl ?_
    dsimp only [setd, setn, ev, nth]
    refine K.seq_pure (K.assign) rfl ?_
    dsimp only [setd, setn, ev, nth]
    refine K.seq_pure (K.assign) rfl ?_
    dsimp only [setd, setn, ev, nth]
    refine K.seq_nil ?_
    refine K.norm_then ?_
    refine K.ret ?_
    refine K.ret_then ?_
    refine K.end_ret (fun w _ => K.res_tmp2 rfl w) ?_
    have e1 : tellE kind base most hs rs l = listE kind base most hs rs l := list_tell.symm
    have e2 : tellR kind base most hs rs l = [] := tr_bad (by rw [e1]; exact ht14)
    rw [e1, e2]
    exact K.inn_none [.slice none 0 0] [[]] rfl (fun i z hz => by
      cases i with
      | zero => simp at hz; exact ⟨hz, none, 0, rfl⟩
      | succ i => simp at hz) (K.rets (none, 0, fun _ => False) trivial rfl (List.Sublist.cons_cons _ (List.nil_sublist _)))
  try replace ht14 := of_decide_eq_false ht14
  have hl0 : listE kind base most hs rs l = 0 := Decidable.not_not.1 ht14
  obtain ⟨g, hl6, hp, htw, hsc⟩ := list_0 hl0
  have g1 := g.k
  have g2 := g.n
  have g3 := g.r
  have g4 := g.b
  have g5 := g.m
  refine K.skip ?_
  refine K.norm_then ?_
  refine K.seq ?_
  refine K.seq ?_
  refine K.region_lit ?_
  refine K.seq_pure (K.assign) rfl ?_
  dsimp only [setd, setn, ev, nth]
  refine K.seq_nil ?_
  refine K.norm_then ?_
  refine K.block ?_
  refine K.loopW [7] [4, 5, 8, 9, 16, 17, 18, 19, 20, 21, 22, 23, 24, 25, 26, 27, 28, 29, 30, 31, 32, 33, 34, 35, 36, 37, 38, 39, 40, 41, 42, 43, 44] (fun vi L => ∃ m : Nat, vi = [.int .i64 (m : Int)] ∧ L = [K.blk b2 25 [.int .i64 kind, .int .i64 base, .int .i64 most, .slice A hs.length c, .slice B rs.length d]] ∧ m ≤ hs.length + 1 ∧ ∀ z ∈ lstA hs.length m, toldB kind base hs l z = false) (fun vi => hs.length + 1 - (intOf (K.nth vi 0)).toNat) ?_ ?_
  · exact ⟨0, rfl, rfl, Nat.zero_le _, by simp [lstA]⟩
  intro vi vr L hJ
  obtain ⟨m, rfl, rfl, hml, hnone⟩ := hJ
  try dsimp only [setd, setn, ev, nth, over, cl, eI, eP, eT, setM, setF, List.map, List.append, List.drop, List.take]
  refine K.seq ?_
  refine K.seq ?_
  refine K.region_lit ?_
  refine K.seq_pure (K.move) rfl ?_
  dsimp only [setd, setn, ev, nth]
  refine K.seq_pure (K.fieldAddr_lit fo_25_3 rfl) rfl ?_
  dsimp only [setd, setn, ev, nth]
  refine K.seq_sil (K.load1_own one_22 rfl (K.m0) rfl) rfl ?_
  try dsimp only [setd, setn, ev, nth, over, cl, eI, eP, eT, List.map, List.append, List.drop, List.take]
  refine K.seq_pure (K.len_sl sl_22 rfl) rfl ?_
  dsimp only [setd, setn, ev, nth]
  refine K.seq_pure (K.leq rfl rfl) rfl ?_
  dsimp only [setd, setn, ev, nth]
  refine K.seq_nil ?_
  refine K.norm_then ?_
  refine K.cond rfl (fun ht20 => ?_) (fun ht20 => ?_)
  · try replace ht20 := of_decide_eq_true ht20
    have hmm : m ≤ hs.length := by omega
    refine K.skip ?_
    refine K.norm_then ?_
    refine K.seq ?_
    refine K.block ?_
    refine K.seq ?_
    refine K.region_lit ?_
    refine K.seq_pure (K.move) rfl ?_
    dsimp only [setd, setn, ev, nth]
    refine K.seq_pure (K.fieldAddr_lit fo_25_3 rfl) rfl ?_
    dsimp only [setd, setn, ev, nth]
    refine K.seq_sil (K.load1_own one_22 rfl (K.m0) rfl) rfl ?_
    try dsimp only [setd, setn, ev, nth, over, cl, eI, eP, eT, List.map, List.append, List.drop, List.take]
    refine K.seq_pure (K.len_sl sl_22 rfl) rfl ?_
    dsimp only [setd, setn, ev, nth]
    refine K.seq_loud (K.call_f cal_78 (fun F w hF hw => n78 (m := m) (n := hs.length) (by omega) (by omega) w)) rfl ?_
    rintro ⟨A1, c1, vs, F1⟩ ⟨hvo, hvl⟩
    try dsimp only [setd, setn, ev, nth, over, cl, eI, eP, eT, List.map, List.append, List.drop, List.take]
    refine K.seq_pure (K.assign) rfl ?_
    dsimp only [setd, setn, ev, nth]
    refine K.seq_nil ?_
    refine K.norm_then ?_
    refine K.seq ?_
    have hvl2 : vs.length = (listsS m [] hs.length).length := hvl
    have hll8 := lists_len8 (m := m) (b := []) (n := (hs.length : Int)) (by omega) (by decide) (by omega)
    refine K.use_row K.m0 (fun hA1 => ?_)
    refine K.region_lit ?_
    refine K.seq_pure (K.assign) rfl ?_
    dsimp only [setd, setn, ev, nth]
    refine K.seq_nil ?_
    refine K.norm_then ?_
    refine K.block ?_
    refine K.loopW [9] [4, 5, 28, 29, 30, 31, 32, 33, 34, 35, 36, 37, 38, 39, 40, 41, 42, 43, 44] (fun vi L => ∃ i : Nat, vi = [.int .i64 (i : Int)] ∧ L = [K.row (.slice A1 vs.length c1) 22 1 vs.length (vs.flatMap K.eV), K.inn F1 vs (listsS m [] hs.length), K.blk b2 25 [.int .i64 kind, .int .i64 base, .int .i64 most, .slice A hs.length c, .slice B rs.length d]] ∧ i ≤ (listsS m [] hs.length).length ∧ ∀ j, j < i → toldB kind base hs l ((listsS m [] hs.length).getD j default) = false) (fun vi => (listsS m [] hs.length).length - (intOf (K.nth vi 0)).toNat) ?_ ?_
    · exact ⟨0, rfl, rfl, Nat.zero_le _, fun j hj => absurd hj (Nat.not_lt_zero j)⟩
    intro vi vr L hJ
    obtain ⟨i, rfl, rfl, hil, hno⟩ := hJ
    try dsimp only [setd, setn, ev, nth, over, cl, eI, eP, eT, setM, setF, List.map, List.append, List.drop, List.take]
    refine K.seq ?_
    refine K.seq ?_
    refine K.region_lit ?_
    refine K.seq_pure (K.move) rfl ?_
    dsimp only [setd, setn, ev, nth]
    refine K.seq_pure (K.move) rfl ?_
    dsimp only [setd, setn, ev, nth]
    refine K.seq_pure (K.len_sl sl_125 rfl) rfl ?_
    dsimp only [setd, setn, ev, nth]
    refine K.seq_pure (K.lss rfl rfl) rfl ?_
    dsimp only [setd, setn, ev, nth]
    refine K.seq_nil ?_
    refine K.norm_then ?_
    refine K.cond rfl (fun ht31 => ?_) (fun ht31 => ?_)
    · try replace ht31 := of_decide_eq_true ht31
      have hi : i < (listsS m [] hs.length).length := by omega
      refine K.skip ?_
      refine K.norm_then ?_
      refine K.seq ?_
      refine K.block ?_
      refine K.seq ?_
      refine K.use_inn (i := i) K.m1 hi (fun A3 c3 hv3 => ?_)
      have hzl : ((listsS m [] hs.length).getD i default).length ≤ 1000 := lists_in (K.gt_mem hi) (by omega)
      refine K.draw_L [] Try_mixed ?_
      refine K.d_mem 0 rfl (K.loadA_own ag_25 rfl (K.m2) rfl) (fun _ h => h) (by kernel_rfl) (by kernel_rfl) rfl ?_
      try dsimp only [setd, setn, ev, nth, over, cl, eI, eP, eT, List.map, List.append, List.drop, List.take]
      refine K.d_pure 1 rfl (K.move) (by kernel_rfl) rfl ?_
      dsimp only [setd, setn, ev, nth]
      refine K.d_pure 2 rfl (K.move) (by kernel_rfl) rfl ?_
      dsimp only [setd, setn, ev, nth]
      refine K.d_pure 3 rfl (K.move) (by kernel_rfl) rfl ?_
      dsimp only [setd, setn, ev, nth]
      refine K.d_ix (M := [_]) 4 _ rfl (K.Sl.own (t := 22) (c := c1) (size := 1) (e := K.eV) hA1 (fun _ => rfl)) sl_125 rfl rfl rfl (by omega) (by kernel_rfl) rfl ?_
      intro p38 hp38
      try dsimp only [setd, setn, ev, nth, over, cl, eI, eP, eT, List.map, List.append, List.drop, List.take]
      refine K.d_mem 5 rfl ((K.load1 one_22 rfl (hp38.at1 (K.m0))).cast hv3) (fun _ h => h) (by kernel_rfl) (by kernel_rfl) rfl ?_
      try dsimp only [setd, setn, ev, nth, over, cl, eI, eP, eT, List.map, List.append, List.drop, List.take]
      refine K.d_call 6 rfl (K.call_g cal_50 (fun F w hF hw => c50 (l := l) (pts := ((listsS m [] hs.length).getD i default)) (hH.pass hw) (hR.pass hw) g (hS.pass hw) hp hl6 (K.Rd.inn hw (hF _ (K.m1)) hi hv3) hzl)) (fun _ h => h) (by kernel_rfl) rfl ?_
      try dsimp only [setd, setn, ev, nth, over, cl, eI, eP, eT, List.map, List.append, List.drop, List.take]
      refine K.d_done (by kernel_rfl) ?_
      refine K.norm_then ?_
      refine K.cond rfl (fun ht40 => ?_) (fun ht40 => ?_)
      · try replace ht40 := of_decide_eq_true ht40
        refine K.seq ?_
        refine K.region_lit ?_
        refine K.seq_pure (K.move) rfl ?_
        dsimp only [setd, setn, ev, nth]
        refine K.seq_pure (K.move) rfl ?_
        dsimp only [setd, setn, ev, nth]
        refine K.seq_ix (M := [_]) _ (K.Sl.own (t := 22) (c := c1) (size := 1) (e := K.eV) hA1 (fun _ => rfl)) sl_125 rfl rfl rfl (by omega) rfl ?_
        intro p43 hp43
        try dsimp only [setd, setn, ev, nth, over, cl, eI, eP, eT, List.map, List.append, List.drop, List.take]
        refine K.seq_sil ((K.load1 one_22 rfl (hp43.at1 (K.m0))).cast hv3) rfl ?_
        try dsimp only [setd, setn, ev, nth, over, cl, eI, eP, eT, List.map, List.append, List.drop, List.take]
        refine K.seq_pure (K.assign) rfl ?_
        dsimp only [setd, setn, ev, nth]
        refine K.seq_pure (K.assign) rfl ?_
        dsimp only [setd, setn, ev, nth]
        refine K.seq_nil ?_
        refine K.norm_then ?_
        refine K.ret ?_
        refine K.ret_block ?_
        refine K.ret_then ?_
        refine K.ret_then ?_
        refine K.ret_block ?_
        refine K.ret_block ?_
        refine K.ret_then ?_
        refine K.ret_then ?_
        refine K.ret_block ?_
        refine K.ret_then ?_
        refine K.end_ret (fun w _ => K.res_tmp2 rfl w) ?_
        have e1 : tellE kind base most hs rs l = 0 := by rw [← list_tell]; exact hl0
        have e2 : tellR kind base most hs rs l = ((listsS m [] hs.length).getD i default) := by
          unfold tellR
          rw [if_pos e1, ← tell_ref g.n.2 htw]
          unfold refT
          rw [tell_at (by omega) hnone hi hno ht40]; rfl
        rw [e1, e2]
        refine K.weak (L' := [K.inn F1 vs (listsS m [] hs.length)]) (List.Sublist.cons _ (List.Sublist.cons_cons _ (List.nil_sublist _))) ?_
        refine K.inn_pick hi hv3 ?_
        exact K.rets (A3, c3, F1) trivial rfl (List.Sublist.refl _)
      try replace ht40 := of_decide_eq_false ht40
      refine K.skip ?_
      refine K.norm_block ?_
      refine K.norm_then ?_
      refine K.region_lit ?_
      refine K.seq_pure (K.move) rfl ?_
      dsimp only [setd, setn, ev, nth]
      refine K.seq_pure (K.add_i64 rfl rfl (by omega)) rfl ?_
      dsimp only [setd, setn, ev, nth]
      refine K.seq_pure (K.assign) rfl ?_
      dsimp only [setd, setn, ev, nth]
      refine K.seq_nil ?_
      exact K.round_endW (L'' := [K.row (.slice A1 vs.length c1) 22 1 vs.length (vs.flatMap K.eV), K.inn F1 vs (listsS m [] hs.length), K.blk b2 25 [.int .i64 kind, .int .i64 base, .int .i64 most, .slice A hs.length c, .slice B rs.length d]]) [.int .i64 ((i : Int) + 1)] ⟨i + 1, rfl, rfl, by omega, K.lt_succ_case hno ht40⟩ (by simp [K.nth, intOf]; omega) (by (repeat (first | exact List.Sublist.refl _ | apply List.Sublist.cons)); done) (by kernel_rfl)
    try replace ht31 := of_decide_eq_false ht31
    refine K.exit ?_
    refine K.exit_then ?_
    refine K.exit_then ?_
    refine K.exit_here ?_
    refine K.norm_block ?_
    refine K.norm_then ?_
    refine K.region_lit ?_
    refine K.seq_pure (K.move) rfl ?_
    dsimp only [setd, setn, ev, nth]
    refine K.seq_pure (K.add_i64 rfl rfl (by omega)) rfl ?_
    dsimp only [setd, setn, ev, nth]
    refine K.seq_pure (K.assign) rfl ?_
    dsimp only [setd, setn, ev, nth]
    refine K.seq_nil ?_
    exact K.round_endW (L'' := [K.blk b2 25 [.int .i64 kind, .int .i64 base, .int .i64 most, .slice A hs.length c, .slice B rs.length d]]) [.int .i64 ((m : Int) + 1)] ⟨m + 1, rfl, rfl, by omega, fun z hz => by rw [lstA_succ] at hz; exact (List.mem_append.1 hz).elim (hnone z) (fun h => no_at (fun j hj => hno j (by omega)) z h)⟩ (by simp [K.nth, intOf]; omega) (List.Sublist.cons _ (List.Sublist.cons _ (List.Sublist.refl _))) (by kernel_rfl)
  try replace ht20 := of_decide_eq_false ht20
  refine K.exit ?_
  refine K.exit_then ?_
  refine K.exit_then ?_
  refine K.exit_here ?_
  refine K.norm_then ?_
  refine K.seq ?_
  refine K.region_lit ?_
  refine K.seq_pure (K.assign) rfl ?_
  dsimp only [setd, setn, ev, nth]
  refine K.seq_pure (K.assign) rfl ?_
  dsimp only [setd, setn, ev, nth]
  refine K.seq_nil ?_
  refine K.norm_then ?_
  refine K.ret ?_
  refine K.end_ret (fun w _ => K.res_tmp2 rfl w) ?_
  exfalso
  have hfd := tell_find (T := toldB kind base hs l) g.n.2 (fun s _ => ap_told g.n.2) ⟨2 ^ hs.length - 1, by have := Nat.two_pow_pos hs.length; omega, by rw [told_full, htw]; rfl⟩
  have hmn : m = hs.length + 1 := by omega
  subst hmn
  have := hnone _ (List.mem_of_find?_eq_some hfd)
  rw [List.find?_some hfd] at this
  cases this

end Go.Proofs.Ytafkbioeoklldaa
