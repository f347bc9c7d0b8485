/-
  Walks of the program's functions, printed by program: what each returns.
  Conditions stand in each theorem.
-/
import Derived.WalkArith
import Derived.Laws.Closers25b
import Derived.Test.YtoemnobfnnjopaaDoorSU
import Derived.Test.YtoemnobfnnjopaaDoorWt
import Derived.Test.YtoemnobfnnjopaaDoorXa
set_option linter.unusedSimpArgs false
set_option linter.unusedVariables false
namespace Go.Proofs.YtoemnobfnnjopaaDoor
open Go.RowKit Go
open Go.K (setd setn ev nth over cl eI eP eT setM setF)
attribute [local irreducible] K.blk K.row

set_option maxRecDepth 100000 in
theorem c80 {r : List RvT} {A : Option Addr} {c : Nat} {i : Nat} {w : World} (hR : K.Rd w A 4 eR r) (g : Good r) (hi : i < r.length) :
    Calls Tryd.prog 80 [.slice A r.length c, .int .i64 (i : Int)].toArray w (K.Gives (.bool (outS r i)) w) := by
  have hgn := g.n
  have hpi := g.p i hi
  refine K.enter (args := [.slice A r.length c, .int .i64 (i : Int)]) Tryd.func80 rfl (n := 45) rfl ?_
  simp only [List.replicate, List.cons_append, List.nil_append]
  refine sr ?_
  refine qa ?_
  refine sn ?_
  refine K.seq ?_
  refine sr ?_
  refine qa ?_
  refine sn ?_
  refine K.block ?_
  refine K.loopW [5] [4, 6, 7, 8, 9, 10, 11, 12, 13, 14, 15, 16, 17, 18, 19, 20, 21, 22, 23, 24, 25, 26, 27, 28, 29, 30, 31, 32, 33, 34, 35, 36, 37, 38, 39, 40, 41, 42, 43, 44, 45, 46] (fun vi L => ∃ k : Nat, vi = [.int .i64 (k : Int)] ∧ L = [] ∧ k ≤ r.length ∧ ∀ j, j < k → ¬ (drp r i j > (r.getD i default).ht) ∧ ¬ (drp r j i > 9000 - (r.getD i default).ht)) (fun vi => r.length - (intOf (K.nth vi 0)).toNat) ?_ ?_
  · exact ⟨0, rfl, rfl, Nat.zero_le _, fun j hj => absurd hj (Nat.not_lt_zero j)⟩
  intro vi vr L hJ
  obtain ⟨k, rfl, rfl, hkn, hall⟩ := hJ
  try dsimp only [setd, setn, ev, nth, over, cl, eI, eP, eT, eR, setM, setF, List.map, List.append, List.drop, List.take]
  refine K.seq ?_
  refine sr ?_
  iterate 2 refine qm ?_
  refine qp (K.len_sl sl_22 rfl) ?_
  refine qp (K.lss rfl rfl) ?_
  refine sn ?_
  refine K.cond rfl (fun ht11 => ?_) (fun ht11 => ?_)
  · try replace ht11 := of_decide_eq_true ht11
    have hk : k < r.length := by omega
    have hb1 := drp_bd (k := k) g hi
    have hb2 := drp_bd (k := i) g hk
    refine K.skip ?_
    refine K.norm_then ?_
    refine K.seq ?_
    refine K.block ?_
    refine sr ?_
    iterate 3 refine qm ?_
    refine K.seq_call (K.call_g cal_37 (fun F w hF hw => c37 (hR.pass hw) g hi)) rfl ?_
    refine zN ?_
    iterate 3 refine qm ?_
    refine K.seq_call (K.call_g cal_37 (fun F w hF hw => c37 (hR.pass hw) g hk)) rfl ?_
    refine zN ?_
    iterate 2 refine qa ?_
    refine sn ?_
    refine sr ?_
    refine qm ?_
    refine qp (K.geq rfl rfl) ?_
    refine qm ?_
    refine K.split 24 rfl (fun hg24 => ?_) (fun hg24 => ?_)
    · try replace hg24 := of_decide_eq_true hg24
      iterate 2 refine qm ?_
      refine K.seq_ix (M := []) _ hR.sl sl_22 rfl rfl rfl (by omega) rfl ?_
      intro p27 hp27
      refine zN ?_
      refine qp (K.fieldAddr fo_44_3 rfl) ?_
      refine K.seq_sil (K.load1 one_3 rfl ((K.PtrL.fld hp27 (k := 3)).any)) rfl ?_
      refine zN ?_
      refine qm ?_
      refine qp (K.lss rfl rfl) ?_
      refine qp (K.pick_t rfl) ?_
      refine qm ?_
      refine K.split 33 rfl (fun hg33 => ?_) (fun hg33 => ?_)
      · try replace hg33 := of_decide_eq_true hg33
        iterate 12 refine qs ?_
        refine qp (K.pick_t rfl) ?_
        refine sn ?_
        refine K.cond_true rfl ?_
        refine sr ?_
        refine qa ?_
        refine sn ?_
        refine K.ret ?_
        refine K.ret_block ?_
        refine K.ret_then ?_
        refine K.ret_then ?_
        refine K.ret_block ?_
        refine K.ret_then ?_
        refine K.end_ret (fun w _ => K.res_tmp rfl w) ?_
        first
          | exact K.gives_b rfl (out_t hk (by omega)).symm
          | exact K.gives_b rfl (out_f (fun j hj => hall j (by omega))).symm
      try replace hg33 := of_decide_eq_false hg33
      refine qm ?_
      refine qp (K.geq rfl rfl) ?_
      refine qm ?_
      refine K.split 36 rfl (fun hg36 => ?_) (fun hg36 => ?_)
      · try replace hg36 := of_decide_eq_true hg36
        iterate 2 refine qm ?_
        refine K.seq_ix (M := []) _ hR.sl sl_22 rfl rfl rfl (by omega) rfl ?_
        intro p39 hp39
        refine zN ?_
        refine qp (K.fieldAddr fo_44_3 rfl) ?_
        refine K.seq_sil (K.load1 one_3 rfl ((K.PtrL.fld hp39 (k := 3)).any)) rfl ?_
        refine zN ?_
        refine qm ?_
        refine qp (K.add_i64 rfl rfl (by omega)) ?_
        refine qp (K.gtr rfl rfl) ?_
        refine qp (K.pick_t rfl) ?_
        refine qp (K.pick_f rfl) ?_
        refine sn ?_
        refine K.cond rfl (fun ht46 => ?_) (fun ht46 => ?_)
        · try replace ht46 := of_decide_eq_true ht46
          refine sr ?_
          refine qa ?_
          refine sn ?_
          refine K.ret ?_
          refine K.ret_block ?_
          refine K.ret_then ?_
          refine K.ret_then ?_
          refine K.ret_block ?_
          refine K.ret_then ?_
          refine K.end_ret (fun w _ => K.res_tmp rfl w) ?_
          first
            | exact K.gives_b rfl (out_t hk (by omega)).symm
            | exact K.gives_b rfl (out_f (fun j hj => hall j (by omega))).symm
        try replace ht46 := of_decide_eq_false ht46
        refine K.skip ?_
        refine K.norm_block ?_
        refine K.norm_then ?_
        refine K.region_lit ?_
        refine qm ?_
        refine qp (K.add_i64 rfl rfl (by omega)) ?_
        refine qa ?_
        refine K.seq_nil ?_
        have hok : ¬ (drp r i k > (r.getD i default).ht) ∧ ¬ (drp r k i > 9000 - (r.getD i default).ht) := by omega
        exact K.round_endW (L'' := []) [.int .i64 ((k : Int) + 1)] ⟨k + 1, rfl, rfl, by omega, K.lt_succ_case hall hok⟩ (by simp [K.nth, intOf]; omega) (List.nil_sublist _) (by kernel_rfl)
      try replace hg36 := of_decide_eq_false hg36
      iterate 8 refine qs ?_
      refine qp (K.pick_f rfl) ?_
      refine qp (K.pick_f rfl) ?_
      refine sn ?_
      refine K.cond_false rfl ?_
      refine K.skip ?_
      refine K.norm_block ?_
      refine K.norm_then ?_
      refine K.region_lit ?_
      refine qm ?_
      refine qp (K.add_i64 rfl rfl (by omega)) ?_
      refine qa ?_
      refine K.seq_nil ?_
      have hok : ¬ (drp r i k > (r.getD i default).ht) ∧ ¬ (drp r k i > 9000 - (r.getD i default).ht) := by omega
      exact K.round_endW (L'' := []) [.int .i64 ((k : Int) + 1)] ⟨k + 1, rfl, rfl, by omega, K.lt_succ_case hall hok⟩ (by simp [K.nth, intOf]; omega) (List.nil_sublist _) (by kernel_rfl)
    try replace hg24 := of_decide_eq_false hg24
    iterate 7 refine qs ?_
    refine qp (K.pick_f rfl) ?_
    iterate 2 refine qm ?_
    refine qp (K.geq rfl rfl) ?_
    refine qm ?_
    refine K.split 36 rfl (fun hg36 => ?_) (fun hg36 => ?_)
    · try replace hg36 := of_decide_eq_true hg36
      iterate 2 refine qm ?_
      refine K.seq_ix (M := []) _ hR.sl sl_22 rfl rfl rfl (by omega) rfl ?_
      intro p39 hp39
      refine zN ?_
      refine qp (K.fieldAddr fo_44_3 rfl) ?_
      refine K.seq_sil (K.load1 one_3 rfl ((K.PtrL.fld hp39 (k := 3)).any)) rfl ?_
      refine zN ?_
      refine qm ?_
      refine qp (K.add_i64 rfl rfl (by omega)) ?_
      refine qp (K.gtr rfl rfl) ?_
      refine qp (K.pick_t rfl) ?_
      refine qp (K.pick_f rfl) ?_
      refine sn ?_
      refine K.cond rfl (fun ht46 => ?_) (fun ht46 => ?_)
      · try replace ht46 := of_decide_eq_true ht46
        refine sr ?_
        refine qa ?_
        refine sn ?_
        refine K.ret ?_
        refine K.ret_block ?_
        refine K.ret_then ?_
        refine K.ret_then ?_
        refine K.ret_block ?_
        refine K.ret_then ?_
        refine K.end_ret (fun w _ => K.res_tmp rfl w) ?_
        first
          | exact K.gives_b rfl (out_t hk (by omega)).symm
          | exact K.gives_b rfl (out_f (fun j hj => hall j (by omega))).symm
      try replace ht46 := of_decide_eq_false ht46
      refine K.skip ?_
      refine K.norm_block ?_
      refine K.norm_then ?_
      refine K.region_lit ?_
      refine qm ?_
      refine qp (K.add_i64 rfl rfl (by omega)) ?_
      refine qa ?_
      refine K.seq_nil ?_
      have hok : ¬ (drp r i k > (r.getD i default).ht) ∧ ¬ (drp r k i > 9000 - (r.getD i default).ht) := by omega
      exact K.round_endW (L'' := []) [.int .i64 ((k : Int) + 1)] ⟨k + 1, rfl, rfl, by omega, K.lt_succ_case hall hok⟩ (by simp [K.nth, intOf]; omega) (List.nil_sublist _) (by kernel_rfl)
    try replace hg36 := of_decide_eq_false hg36
    iterate 8 refine qs ?_
    refine qp (K.pick_f rfl) ?_
    refine qp (K.pick_f rfl) ?_
    refine sn ?_
    refine K.cond_false rfl ?_
    refine K.skip ?_
    refine K.norm_block ?_
    refine K.norm_then ?_
    refine K.region_lit ?_
    refine qm ?_
    refine qp (K.add_i64 rfl rfl (by omega)) ?_
    refine qa ?_
    refine K.seq_nil ?_
    have hok : ¬ (drp r i k > (r.getD i default).ht) ∧ ¬ (drp r k i > 9000 - (r.getD i default).ht) := by omega
    exact K.round_endW (L'' := []) [.int .i64 ((k : Int) + 1)] ⟨k + 1, rfl, rfl, by omega, K.lt_succ_case hall hok⟩ (by simp [K.nth, intOf]; omega) (List.nil_sublist _) (by kernel_rfl)
  try replace ht11 := of_decide_eq_false ht11
  refine K.exit ?_
  refine K.exit_then ?_
  refine K.exit_then ?_
  refine K.exit_here ?_
  refine K.norm_then ?_
  refine sr ?_
  refine qa ?_
  refine sn ?_
  refine K.ret ?_
  refine K.end_ret (fun w _ => K.res_tmp rfl w) ?_
  first
    | exact K.gives_b rfl (out_t hk (by omega)).symm
    | exact K.gives_b rfl (out_f (fun j hj => hall j (by omega))).symm

set_option maxRecDepth 100000 in
theorem c44 {r : List RvT} {A : Option Addr} {c : Nat} {w : World} (hR : K.Rd w A 4 eR r) (g : Good r) :
    Calls Tryd.prog 44 [.slice A r.length c].toArray w (K.Gives (.bool (reaS r)) w) := by
  have hgn := g.n
  refine K.enter (args := [.slice A r.length c]) Tryd.func44 rfl (n := 12) rfl ?_
  simp only [List.replicate, List.cons_append, List.nil_append]
  refine sr ?_
  refine qa ?_
  refine sn ?_
  refine K.seq ?_
  refine sr ?_
  refine qa ?_
  refine sn ?_
  refine K.block ?_
  refine K.loopW [3] [2, 4, 5, 6, 7, 8, 9, 10, 11, 12] (fun vi L => ∃ i : Nat, vi = [.int .i64 (i : Int)] ∧ L = [] ∧ i ≤ r.length ∧ ∀ j, j < i → outS r j = false) (fun vi => r.length - (intOf (K.nth vi 0)).toNat) ?_ ?_
  · exact ⟨0, rfl, rfl, Nat.zero_le _, fun j hj => absurd hj (Nat.not_lt_zero j)⟩
  intro vi vr L hJ
  obtain ⟨i, rfl, rfl, hin, hall⟩ := hJ
  try dsimp only [setd, setn, ev, nth, over, cl, eI, eP, eT, eR, setM, setF, List.map, List.append, List.drop, List.take]
  refine K.seq ?_
  refine sr ?_
  iterate 2 refine qm ?_
  refine qp (K.len_sl sl_22 rfl) ?_
  refine qp (K.lss rfl rfl) ?_
  refine sn ?_
  refine K.cond rfl (fun ht7 => ?_) (fun ht7 => ?_)
  · try replace ht7 := of_decide_eq_true ht7
    have hi : i < r.length := by omega
    refine K.skip ?_
    refine K.norm_then ?_
    refine K.seq ?_
    refine K.block ?_
    refine sr ?_
    iterate 2 refine qm ?_
    refine K.seq_call (K.call_g cal_80 (fun F w hF hw => c80 (hR.pass hw) g hi)) rfl ?_
    refine zN ?_
    refine sn ?_
    refine K.cond rfl (fun ht12 => ?_) (fun ht12 => ?_)
    · try replace ht12 := of_decide_eq_true ht12
      refine sr ?_
      refine qa ?_
      refine sn ?_
      refine K.ret ?_
      refine K.ret_block ?_
      refine K.ret_then ?_
      refine K.ret_then ?_
      refine K.ret_block ?_
      refine K.ret_then ?_
      refine K.end_ret (fun w _ => K.res_tmp rfl w) ?_
      first
        | exact K.gives_b rfl (rea_f hi (by simpa using ht12)).symm
        | exact K.gives_b rfl (rea_iff.2 (fun j hj => hall j (by omega))).symm
    try replace ht12 := of_decide_eq_false ht12
    refine K.skip ?_
    refine K.norm_block ?_
    refine K.norm_then ?_
    refine K.region_lit ?_
    refine qm ?_
    refine qp (K.add_i64 rfl rfl (by omega)) ?_
    refine qa ?_
    refine K.seq_nil ?_
    have hok : outS r i = false := by simpa using ht12
    exact K.round_endW (L'' := []) [.int .i64 ((i : Int) + 1)] ⟨i + 1, rfl, rfl, by omega, K.lt_succ_case hall hok⟩ (by simp [K.nth, intOf]; omega) (List.nil_sublist _) (by kernel_rfl)
  try replace ht7 := of_decide_eq_false ht7
  refine K.exit ?_
  refine K.exit_then ?_
  refine K.exit_then ?_
  refine K.exit_here ?_
  refine K.norm_then ?_
  refine sr ?_
  refine qa ?_
  refine sn ?_
  refine K.ret ?_
  refine K.end_ret (fun w _ => K.res_tmp rfl w) ?_
  first
    | exact K.gives_b rfl (rea_f hi (by simpa using ht12)).symm
    | exact K.gives_b rfl (rea_iff.2 (fun j hj => hall j (by omega))).symm

set_option maxRecDepth 100000 in
theorem e12 {r : List RvT} {A : Option Addr} {c : Nat} {b z : Int} {w : World} (hR : K.Rd w A 4 eR r) (hn : r.length ≤ 17592186043904) (hT : Tab w) (hb : 0 ≤ b ∧ b ≤ 65535) (hz : 0 ≤ z ∧ z ≤ 255) (hc : (chk r).2.2 ≠ 0) :
    Calls Tryd.prog 12 [.slice A r.length c, .int .u16 b, .int .u8 z].toArray w (K.Gives (.bool true) w) := by
  have hn4 : r.length ≤ 4611686018427387904 := by omega
  refine K.enter (args := [.slice A r.length c, .int .u16 b, .int .u8 z]) Tryd.func12 rfl (n := 226) rfl ?_
  simp only [List.replicate, List.cons_append, List.nil_append]
  refine sr ?_
  refine qa ?_
  refine sn ?_
  refine K.seq ?_
  refine sr ?_
  refine qm ?_
  refine K.seq_call (K.call_g cal_35 (fun F w hF hw => c35 (hR.pass hw) hn4)) rfl ?_
  refine zN ?_
  first | refine K.seq_pure (K.Pure.eq (K.not_d rfl) (show _ = Value.bool true from by rw [decide_eq_false hc]; rfl)) rfl ?_ | refine K.seq_pure (K.Pure.eq (K.not_ rfl) (show _ = Value.bool true from by rw [decide_eq_false hc]; rfl)) rfl ?_
  refine zN ?_
  refine sn ?_
  refine K.cond_true rfl ?_
  refine sr ?_
  refine K.seq_call (K.call_g cal_25 (fun F w hF hw => c25 (hT.pass hw))) rfl ?_
  refine zN ?_
  refine qa ?_
  refine sn ?_
  refine K.ret ?_
  refine K.ret_then ?_
  refine K.end_ret (fun w _ => K.res_tmp rfl w) ?_
  exact K.gives rfl

set_option maxRecDepth 100000 in
theorem f12 {r : List RvT} {A : Option Addr} {c : Nat} {b z : Int} {w : World} (hR : K.Rd w A 4 eR r) (hn : r.length ≤ 17592186043904) (hT : Tab w) (hb : 0 ≤ b ∧ b ≤ 65535) (hz : 0 ≤ z ∧ z ≤ 255) (hc : (chk r).2.2 = 0) (hc2 : (chk (upS r b)).2.2 ≠ 0) :
    Calls Tryd.prog 12 [.slice A r.length c, .int .u16 b, .int .u8 z].toArray w (K.Gives (.bool true) w) := by
  have hn4 : r.length ≤ 4611686018427387904 := by omega
  have g : Good r := chk_good hc
  have hgn := g.n
  have hS := up_len (r := r) (b := b)
  refine K.enter (args := [.slice A r.length c, .int .u16 b, .int .u8 z]) Tryd.func12 rfl (n := 226) rfl ?_
  simp only [List.replicate, List.cons_append, List.nil_append]
  refine sr ?_
  refine qa ?_
  refine sn ?_
  refine K.seq ?_
  refine sr ?_
  refine qm ?_
  refine K.seq_call (K.call_g cal_35 (fun F w hF hw => c35 (hR.pass hw) hn4)) rfl ?_
  refine zN ?_
  first | refine K.seq_pure (K.Pure.eq (K.not_d rfl) (show _ = Value.bool false from by rw [decide_eq_true hc]; rfl)) rfl ?_ | refine K.seq_pure (K.Pure.eq (K.not_ rfl) (show _ = Value.bool false from by rw [decide_eq_true hc]; rfl)) rfl ?_
  refine zN ?_
  refine sn ?_
  refine K.cond_false rfl ?_
  refine K.skip ?_
  refine K.norm_then ?_
  refine sr ?_
  refine K.nil_row (e := 3) (size := 1) ?_
  refine qa ?_
  refine sn ?_
  refine K.seq ?_
  refine sr ?_
  refine qa ?_
  refine sn ?_
  refine K.block ?_
  refine K.loopW [7, 8] [38, 39, 40, 41, 42, 43, 44, 45, 46, 47, 48, 49, 50, 51, 52, 53, 54] (fun vi L => ∃ (k : Nat) (QH : Option Addr) (qh : Nat), vi = [.slice QH (riseF r b k).length qh, .int .i64 (k : Int)] ∧ L = [K.row (.slice QH (riseF r b k).length qh) 3 1 (riseF r b k).length ((riseF r b k).flatMap K.eI)] ∧ k ≤ r.length) (fun vi => r.length - (intOf (K.nth vi 1)).toNat) ?_ ?_
  · exact ⟨0, none, 0, rfl, rfl, Nat.zero_le _⟩
  intro vi vr L hJ
  obtain ⟨k, QH, qh, rfl, rfl, hkn⟩ := hJ
  try dsimp only [setd, setn, ev, nth, over, cl, eI, eP, eT, eR, setM, setF, List.map, List.append, List.drop, List.take]
  refine K.seq ?_
  refine sr ?_
  iterate 2 refine qm ?_
  refine qp (K.len_sl sl_22 rfl) ?_
  refine qp (K.lss rfl rfl) ?_
  refine sn ?_
  refine K.cond rfl (fun ht41 => ?_) (fun ht41 => ?_)
  · try replace ht41 := of_decide_eq_true ht41
    have hk : k < r.length := by omega
    have hpk := g.p k hk
    have hrl := rise_len (r := r) (b := b) (k := k)
    refine K.skip ?_
    refine K.norm_then ?_
    refine K.seq ?_
    refine K.block ?_
    refine K.region_lit ?_
    iterate 3 refine qm ?_
    refine K.seq_ix (M := []) _ hR.sl sl_22 rfl rfl rfl (by omega) rfl ?_
    intro p47 hp47
    refine zN ?_
    refine qp (K.fieldAddr fo_44_3 rfl) ?_
    refine K.seq_sil (K.load1 one_3 rfl ((K.PtrL.fld hp47 (k := 3)).any)) rfl ?_
    refine zN ?_
    refine qm ?_
    refine K.seq_pure (K.Pure.eq (K.conv_int ik_40 ik_3 rfl) (show _ = Value.int .i64 b from by rw [IntWalk.i64_in _ (by omega)])) rfl ?_
    refine zN ?_
    refine qp (K.add_i64 rfl rfl (by omega)) ?_
    refine K.seq_new (K.buildSlice (bs1 _)) rfl ?_
    intro b53
    refine zN ?_
    refine K.seq_upd (K.append el_26 rfl rfl (K.PtrL.own' (K.m0)) rfl rfl (by decide) (by omega) (by omega) (fun _ _ => K.rp1)) rfl ?_
    rintro ⟨g54, c54⟩ _
    refine zN ?_
    refine qa ?_
    refine K.seq_nil ?_
    refine K.norm_block ?_
    refine K.norm_then ?_
    refine K.region_lit ?_
    refine qm ?_
    refine qp (K.add_i64 rfl rfl (by omega)) ?_
    refine qa ?_
    refine K.seq_nil ?_
    exact K.round_endW (L'' := [K.row (.slice (some ⟨g54, 0, none⟩) ((riseF r b k).length + 1) c54) 3 1 ((riseF r b k).length + 1) ((riseF r b k).flatMap K.eI ++ [.int .i64 ((r.getD k default).ht + b)])]) [.slice (some ⟨g54, 0, none⟩) ((riseF r b k).length + 1) c54, .int .i64 ((k : Int) + 1)] ⟨k + 1, some ⟨g54, 0, none⟩, c54, by rw [rise_s, List.length_append]; rfl, by rw [rise_s, List.length_append, List.flatMap_append]; rfl, by omega⟩ (by simp [K.nth, intOf]; omega) (List.Sublist.cons _ (List.Sublist.refl _)) (by kernel_rfl)
  try replace ht41 := of_decide_eq_false ht41
  have e0 : k = r.length := by omega
  subst e0
  have hrl := rise_len (r := r) (b := b) (k := r.length)
  refine K.exit ?_
  refine K.exit_then ?_
  refine K.exit_then ?_
  refine K.exit_here ?_
  refine K.norm_then ?_
  refine K.seq ?_
  refine K.use_row K.m0 (fun hqH => ?_)
  refine K.region_lit ?_
  iterate 2 refine qm ?_
  refine K.seq_loud (K.call_f cal_42 (fun F w hF hw => (by have hX := (K.Rd.own (e := K.eI) (xs := (riseF r b r.length)) hw (hF _ (K.m0)) hqH (fun _ => rfl) (by decide)); have hg := c42 (c := c) (d := qh) (hR.pass hw) hX rise_len (by omega); change Calls Tryd.prog 42 _ _ (K.RetS 44 4 eR (upS r b) _) at hg; exact hg))) rfl ?_
  rintro ⟨Q1, q1⟩ hq1
  refine zN ?_
  refine qa ?_
  refine sn ?_
  refine K.seq ?_
  refine sr ?_
  refine qm ?_
  refine K.seq_call (K.call_g cal_35 (fun F w hF hw => (by have hX := K.Rd.own (e := eR) (xs := (upS r b)) hw (hF _ (K.m0)) hq1 (fun _ => rfl) (by decide); exact c35 (c := q1) hX (by omega)))) rfl ?_
  refine zN ?_
  first | refine K.seq_pure (K.Pure.eq (K.not_d rfl) (show _ = Value.bool true from by rw [decide_eq_false hc2]; rfl)) rfl ?_ | refine K.seq_pure (K.Pure.eq (K.not_ rfl) (show _ = Value.bool true from by rw [decide_eq_false hc2]; rfl)) rfl ?_
  refine zN ?_
  refine sn ?_
  refine K.cond_true rfl ?_
  refine sr ?_
  refine K.seq_call (K.call_g cal_25 (fun F w hF hw => c25 (hT.pass hw))) rfl ?_
  refine zN ?_
  refine qa ?_
  refine sn ?_
  refine K.ret ?_
  refine K.ret_then ?_
  refine K.end_ret (fun w _ => K.res_tmp rfl w) ?_
  exact K.gives rfl

set_option maxRecDepth 100000 in
set_option maxHeartbeats 4000000 in
theorem g12 {r : List RvT} {A : Option Addr} {c : Nat} {b z : Int} {a : Nat} {w : World} (hR : K.Rd w A 4 eR r) (hn : r.length ≤ 17592186043904) (hT : Tab w) (hb : 0 ≤ b ∧ b ≤ 65535) (hz : 0 ≤ z ∧ z ≤ 255) (hc : (chk r).2.2 = 0) (hc2 : (chk (upS r b)).2.2 = 0) (ha : a < r.length) (hza : z % (r.length : Int) = (a : Int)) :
    Calls Tryd.prog 12 [.slice A r.length c, .int .u16 b, .int .u8 z].toArray w (K.Gives (.bool true) w) := by
  have hn4 : r.length ≤ 4611686018427387904 := by omega
  have g : Good r := chk_good hc
  have hgn := g.n
  have hS := up_len (r := r) (b := b)
  have g2 : Good (upS r b) := chk_good hc2
  have u : Up r (upS r b) b := up_up
  have hpo := u.pou hc hc2 ha
  have l1 := badL_9 (r := r)
  have l2 := pouL_9 (r := r) (z := (a : Int))
  refine K.enter (args := [.slice A r.length c, .int .u16 b, .int .u8 z]) Tryd.func12 rfl (n := 226) rfl ?_
  simp only [List.replicate, List.cons_append, List.nil_append]
  refine sr ?_
  refine qa ?_
  refine sn ?_
  refine K.seq ?_
  refine sr ?_
  refine qm ?_
  refine K.seq_call (K.call_g cal_35 (fun F w hF hw => c35 (hR.pass hw) hn4)) rfl ?_
  refine zN ?_
  first | refine K.seq_pure (K.Pure.eq (K.not_d rfl) (show _ = Value.bool false from by rw [decide_eq_true hc]; rfl)) rfl ?_ | refine K.seq_pure (K.Pure.eq (K.not_ rfl) (show _ = Value.bool false from by rw [decide_eq_true hc]; rfl)) rfl ?_
  refine zN ?_
  refine sn ?_
  refine K.cond_false rfl ?_
  refine K.skip ?_
  refine K.norm_then ?_
  refine sr ?_
  refine K.nil_row (e := 3) (size := 1) ?_
  refine qa ?_
  refine sn ?_
  refine K.seq ?_
  refine sr ?_
  refine qa ?_
  refine sn ?_
  refine K.block ?_
  refine K.loopW [7, 8] [38, 39, 40, 41, 42, 43, 44, 45, 46, 47, 48, 49, 50, 51, 52, 53, 54] (fun vi L => ∃ (k : Nat) (QH : Option Addr) (qh : Nat), vi = [.slice QH (riseF r b k).length qh, .int .i64 (k : Int)] ∧ L = [K.row (.slice QH (riseF r b k).length qh) 3 1 (riseF r b k).length ((riseF r b k).flatMap K.eI)] ∧ k ≤ r.length) (fun vi => r.length - (intOf (K.nth vi 1)).toNat) ?_ ?_
  · exact ⟨0, none, 0, rfl, rfl, Nat.zero_le _⟩
  intro vi vr L hJ
  obtain ⟨k, QH, qh, rfl, rfl, hkn⟩ := hJ
  try dsimp only [setd, setn, ev, nth, over, cl, eI, eP, eT, eR, setM, setF, List.map, List.append, List.drop, List.take]
  refine K.seq ?_
  refine sr ?_
  iterate 2 refine qm ?_
  refine qp (K.len_sl sl_22 rfl) ?_
  refine qp (K.lss rfl rfl) ?_
  refine sn ?_
  refine K.cond rfl (fun ht41 => ?_) (fun ht41 => ?_)
  · try replace ht41 := of_decide_eq_true ht41
    have hk : k < r.length := by omega
    have hpk := g.p k hk
    have hrl := rise_len (r := r) (b := b) (k := k)
    refine K.skip ?_
    refine K.norm_then ?_
    refine K.seq ?_
    refine K.block ?_
    refine K.region_lit ?_
    iterate 3 refine qm ?_
    refine K.seq_ix (M := []) _ hR.sl sl_22 rfl rfl rfl (by omega) rfl ?_
    intro p47 hp47
    refine zN ?_
    refine qp (K.fieldAddr fo_44_3 rfl) ?_
    refine K.seq_sil (K.load1 one_3 rfl ((K.PtrL.fld hp47 (k := 3)).any)) rfl ?_
    refine zN ?_
    refine qm ?_
    refine K.seq_pure (K.Pure.eq (K.conv_int ik_40 ik_3 rfl) (show _ = Value.int .i64 b from by rw [IntWalk.i64_in _ (by omega)])) rfl ?_
    refine zN ?_
    refine qp (K.add_i64 rfl rfl (by omega)) ?_
    refine K.seq_new (K.buildSlice (bs1 _)) rfl ?_
    intro b53
    refine zN ?_
    refine K.seq_upd (K.append el_26 rfl rfl (K.PtrL.own' (K.m0)) rfl rfl (by decide) (by omega) (by omega) (fun _ _ => K.rp1)) rfl ?_
    rintro ⟨g54, c54⟩ _
    refine zN ?_
    refine qa ?_
    refine K.seq_nil ?_
    refine K.norm_block ?_
    refine K.norm_then ?_
    refine K.region_lit ?_
    refine qm ?_
    refine qp (K.add_i64 rfl rfl (by omega)) ?_
    refine qa ?_
    refine K.seq_nil ?_
    exact K.round_endW (L'' := [K.row (.slice (some ⟨g54, 0, none⟩) ((riseF r b k).length + 1) c54) 3 1 ((riseF r b k).length + 1) ((riseF r b k).flatMap K.eI ++ [.int .i64 ((r.getD k default).ht + b)])]) [.slice (some ⟨g54, 0, none⟩) ((riseF r b k).length + 1) c54, .int .i64 ((k : Int) + 1)] ⟨k + 1, some ⟨g54, 0, none⟩, c54, by rw [rise_s, List.length_append]; rfl, by rw [rise_s, List.length_append, List.flatMap_append]; rfl, by omega⟩ (by simp [K.nth, intOf]; omega) (List.Sublist.cons _ (List.Sublist.refl _)) (by kernel_rfl)
  try replace ht41 := of_decide_eq_false ht41
  have e0 : k = r.length := by omega
  subst e0
  have hrl := rise_len (r := r) (b := b) (k := r.length)
  refine K.exit ?_
  refine K.exit_then ?_
  refine K.exit_then ?_
  refine K.exit_here ?_
  refine K.norm_then ?_
  refine K.seq ?_
  refine K.use_row K.m0 (fun hqH => ?_)
  refine K.region_lit ?_
  iterate 2 refine qm ?_
  refine K.seq_loud (K.call_f cal_42 (fun F w hF hw => (by have hX := (K.Rd.own (e := K.eI) (xs := (riseF r b r.length)) hw (hF _ (K.m0)) hqH (fun _ => rfl) (by decide)); have hg := c42 (c := c) (d := qh) (hR.pass hw) hX rise_len (by omega); change Calls Tryd.prog 42 _ _ (K.RetS 44 4 eR (upS r b) _) at hg; exact hg))) rfl ?_
  rintro ⟨Q1, q1⟩ hq1
  refine zN ?_
  refine qa ?_
  refine sn ?_
  refine K.seq ?_
  refine sr ?_
  refine qm ?_
  refine K.seq_call (K.call_g cal_35 (fun F w hF hw => (by have hX := K.Rd.own (e := eR) (xs := (upS r b)) hw (hF _ (K.m0)) hq1 (fun _ => rfl) (by decide); exact c35 (c := q1) hX (by omega)))) rfl ?_
  refine zN ?_
  first | refine K.seq_pure (K.Pure.eq (K.not_d rfl) (show _ = Value.bool false from by rw [decide_eq_true hc2]; rfl)) rfl ?_ | refine K.seq_pure (K.Pure.eq (K.not_ rfl) (show _ = Value.bool false from by rw [decide_eq_true hc2]; rfl)) rfl ?_
  refine zN ?_
  refine sn ?_
  refine K.cond_false rfl ?_
  refine K.skip ?_
  refine K.norm_then ?_
  refine sr ?_
  refine qm ?_
  refine K.seq_loud (K.call_f cal_16 (fun F w hF hw => (by have hg := c16 (c := c) (hR.pass hw) hn4; rw [hc] at hg; exact hg))) rfl ?_
  rintro ⟨Q2, q2⟩ hq2
  refine zN ?_
  refine qm ?_
  refine qx ?_
  refine qx ?_
  iterate 2 refine qa ?_
  refine sn ?_
  refine sr ?_
  refine qm ?_
  refine K.seq_loud (K.call_f cal_16 (fun F w hF hw => (by have hX := K.Rd.own (e := eR) (xs := (upS r b)) hw (hF _ (K.m1)) hq1 (fun _ => rfl) (by decide); have hg := c16 (c := q1) hX (by omega); rw [u.badL hc hc2, hc2] at hg; exact hg))) rfl ?_
  rintro ⟨Q3, q3⟩ hq3
  refine zN ?_
  refine qm ?_
  refine qx ?_
  refine qx ?_
  iterate 2 refine qa ?_
  refine sn ?_
  refine sr ?_
  iterate 2 refine qm ?_
  refine K.seq_pure (K.Pure.eq (K.conv_int ik_5 ik_3 rfl) (show _ = Value.int .i64 z from by rw [IntWalk.i64_in _ (by omega)])) rfl ?_
  refine zN ?_
  refine qm ?_
  refine qp (K.len_sl sl_22 rfl) ?_
  refine qp (K.Pure.eq (K.rem_i64 rfl rfl (by omega) (by omega)) (show _ = Value.int .i64 (a : Int) from congrArg (Value.int .i64) hza)) ?_
  refine K.seq_loud (K.call_f cal_19 (fun F w hF hw => (by have hg := c19 (c := c) (z := (a : Int)) (hR.pass hw) hn4; rw [hpo.1] at hg; exact hg))) rfl ?_
  rintro ⟨Q4, q4⟩ hq4
  refine zN ?_
  refine qm ?_
  refine qx ?_
  refine qx ?_
  iterate 2 refine qa ?_
  refine sn ?_
  refine sr ?_
  iterate 2 refine qm ?_
  refine K.seq_pure (K.Pure.eq (K.conv_int ik_5 ik_3 rfl) (show _ = Value.int .i64 z from by rw [IntWalk.i64_in _ (by omega)])) rfl ?_
  refine zN ?_
  refine qm ?_
  refine qp (K.len_sl sl_22 rfl) ?_
  refine qp (K.Pure.eq (K.rem_i64 rfl rfl (by omega) (by omega)) (show _ = Value.int .i64 (a : Int) from congrArg (Value.int .i64) hza)) ?_
  refine K.seq_loud (K.call_f cal_19 (fun F w hF hw => (by have hX := K.Rd.own (e := eR) (xs := (upS r b)) hw (hF _ (K.m3)) hq1 (fun _ => rfl) (by decide); have hg := c19 (c := q1) (z := (a : Int)) hX (by omega); rw [hpo.2.1, hpo.2.2] at hg; exact hg))) rfl ?_
  rintro ⟨Q5, q5⟩ hq5
  refine zN ?_
  refine qm ?_
  refine qx ?_
  refine qx ?_
  iterate 2 refine qa ?_
  refine sn ?_
  refine K.seq ?_
  refine sr ?_
  refine qm ?_
  refine qp (K.Pure.eq (K.neq rfl rfl) (show _ = Value.bool false from congrArg Value.bool (rfl))) ?_
  iterate 2 refine qm ?_
  refine qp (K.Pure.eq (K.neq rfl rfl) (show _ = Value.bool false from congrArg Value.bool (rfl))) ?_
  refine qp (K.pick_f rfl) ?_
  iterate 2 refine qm ?_
  refine qp (K.Pure.eq (K.neq rfl rfl) (show _ = Value.bool false from congrArg Value.bool (rfl))) ?_
  refine qp (K.pick_f rfl) ?_
  iterate 2 refine qm ?_
  refine qp (K.Pure.eq (K.neq rfl rfl) (show _ = Value.bool false from congrArg Value.bool (rfl))) ?_
  refine qp (K.pick_f rfl) ?_
  iterate 3 refine qm ?_
  refine K.seq_call (K.call_g cal_18 (fun F w hF hw => (by have hX := (K.Rd.own (e := K.eI) (xs := (badL r)) hw (hF _ (K.m3)) hq2 (fun _ => rfl) (by decide)); have hY := (K.Rd.own (e := K.eI) (xs := (badL r)) hw (hF _ (K.m2)) hq3 (fun _ => rfl) (by decide)); exact c18t (xs := (badL r)) hX hY (by omega)))) rfl ?_
  refine zN ?_
  first | refine K.seq_pure (K.Pure.eq (K.not_d rfl) (show _ = Value.bool false from rfl)) rfl ?_ | refine K.seq_pure (K.Pure.eq (K.not_ rfl) (show _ = Value.bool false from rfl)) rfl ?_
  refine zN ?_
  refine qp (K.pick_f rfl) ?_
  iterate 3 refine qm ?_
  refine K.seq_call (K.call_g cal_18 (fun F w hF hw => (by have hX := (K.Rd.own (e := K.eI) (xs := (pouL r (a : Int))) hw (hF _ (K.m1)) hq4 (fun _ => rfl) (by decide)); have hY := (K.Rd.own (e := K.eI) (xs := (pouL r (a : Int))) hw (hF _ (K.m0)) hq5 (fun _ => rfl) (by decide)); exact c18t (xs := (pouL r (a : Int))) hX hY (by omega)))) rfl ?_
  refine zN ?_
  first | refine K.seq_pure (K.Pure.eq (K.not_d rfl) (show _ = Value.bool false from rfl)) rfl ?_ | refine K.seq_pure (K.Pure.eq (K.not_ rfl) (show _ = Value.bool false from rfl)) rfl ?_
  refine zN ?_
  refine qp (K.pick_f rfl) ?_
  refine sn ?_
  refine K.cond_false rfl ?_
  refine K.skip ?_
  refine K.norm_then ?_
  refine K.seq ?_
  refine sr ?_
  refine qm ?_
  refine K.seq_call (K.call_g cal_44 (fun F w hF hw => c44 (hR.pass hw) g)) rfl ?_
  refine zN ?_
  first | refine K.seq_pure (K.not_d rfl) rfl ?_ | refine K.seq_pure (K.not_ rfl) rfl ?_
  refine zN ?_
  refine qm ?_
  refine K.split 121 rfl (fun hg121 => ?_) (fun hg121 => ?_)
  · try replace hg121 := of_decide_eq_true hg121
    iterate 3 refine qs ?_
    refine qp (K.pick_t rfl) ?_
    refine sn ?_
    refine K.cond_true rfl ?_
    refine sr ?_
    refine K.seq_call (K.call_g cal_25 (fun F w hF hw => c25 (hT.pass hw))) rfl ?_
    refine zN ?_
    refine qa ?_
    refine sn ?_
    refine K.ret ?_
    refine K.ret_then ?_
    refine K.end_ret (fun w _ => K.res_tmp rfl w) ?_
    exact K.gives rfl
  try replace hg121 := of_decide_eq_false hg121
  refine qm ?_
  refine K.seq_call (K.call_g cal_44 (fun F w hF hw => (by have hX := K.Rd.own (e := eR) (xs := (upS r b)) hw (hF _ (K.m4)) hq1 (fun _ => rfl) (by decide); exact c44 (c := q1) hX g2))) rfl ?_
  refine zN ?_
  first | refine K.seq_pure (K.not_d rfl) rfl ?_ | refine K.seq_pure (K.not_ rfl) rfl ?_
  refine zN ?_
  refine qp (K.pick_f rfl) ?_
  refine sn ?_
  refine K.cond rfl (fun ht125 => ?_) (fun ht125 => ?_)
  · try replace ht125 := of_decide_eq_true ht125
    refine sr ?_
    refine K.seq_call (K.call_g cal_25 (fun F w hF hw => c25 (hT.pass hw))) rfl ?_
    refine zN ?_
    refine qa ?_
    refine sn ?_
    refine K.ret ?_
    refine K.ret_then ?_
    refine K.end_ret (fun w _ => K.res_tmp rfl w) ?_
    exact K.gives rfl
  try replace ht125 := of_decide_eq_false ht125
  have h1 : reaS r = true := by simpa using hg121
  have h2 : reaS (upS r b) = true := by simpa using ht125
  have hfw := u.few hc hc2 h1 h2
  have hpr := u.prf hc hc2 h1 h2
  have hls := u.least hc hc2 h1 h2
  have l3 := few_9 (r := r)
  have l4 := must_9 (r := r)
  have l5 := prf_9 (r := r)
  refine K.skip ?_
  refine K.norm_then ?_
  refine sr ?_
  refine qm ?_
  refine K.seq_loud (K.call_f cal_26 (fun F w hF hw => (by have hg := c26 (c := c) (hR.pass hw) hn4 (hT.pass hw); rw [hc] at hg; exact hg))) rfl ?_
  rintro ⟨Q6, q6⟩ hq6
  refine zN ?_
  refine qm ?_
  refine qx ?_
  refine qx ?_
  iterate 2 refine qa ?_
  refine sn ?_
  refine sr ?_
  refine qm ?_
  refine K.seq_loud (K.call_f cal_26 (fun F w hF hw => (by have hX := K.Rd.own (e := eR) (xs := (upS r b)) hw (hF _ (K.m5)) hq1 (fun _ => rfl) (by decide); have hg := c26 (c := q1) hX (by omega) (hT.pass hw); rw [hfw.1, hc2] at hg; exact hg))) rfl ?_
  rintro ⟨Q7, q7⟩ hq7
  refine zN ?_
  refine qm ?_
  refine qx ?_
  refine qx ?_
  iterate 2 refine qa ?_
  refine sn ?_
  refine sr ?_
  refine qm ?_
  refine K.seq_loud (K.call_f cal_28 (fun F w hF hw => (by have hg := c28 (c := c) (hR.pass hw) hn4 (hT.pass hw); rw [hc] at hg; exact hg))) rfl ?_
  rintro ⟨⟨Q8, q8⟩, ⟨Q9, q9⟩⟩ ⟨hq8, hq9⟩
  refine zN ?_
  refine qm ?_
  refine qx ?_
  refine qx ?_
  refine qx ?_
  iterate 3 refine qa ?_
  refine sn ?_
  refine sr ?_
  refine qm ?_
  refine K.seq_loud (K.call_f cal_28 (fun F w hF hw => (by have hX := K.Rd.own (e := eR) (xs := (upS r b)) hw (hF _ (K.m8)) hq1 (fun _ => rfl) (by decide); have hg := c28 (c := q1) hX (by omega) (hT.pass hw); rw [hfw.2.1, hfw.2.2, hc2] at hg; exact hg))) rfl ?_
  rintro ⟨⟨Q10, q10⟩, ⟨Q11, q11⟩⟩ ⟨hq10, hq11⟩
  refine zN ?_
  refine qm ?_
  refine qx ?_
  refine qx ?_
  refine qx ?_
  iterate 3 refine qa ?_
  refine sn ?_
  refine sr ?_
  refine qm ?_
  refine K.seq_loud (K.call_f cal_30 (fun F w hF hw => (by have hg := c30 (c := c) (hR.pass hw) hn4 (hT.pass hw); rw [hc] at hg; exact hg))) rfl ?_
  rintro ⟨Q12, q12⟩ hq12
  refine zN ?_
  refine qm ?_
  refine qx ?_
  refine qx ?_
  iterate 2 refine qa ?_
  refine sn ?_
  refine sr ?_
  refine qm ?_
  refine K.seq_loud (K.call_f cal_30 (fun F w hF hw => (by have hX := K.Rd.own (e := eR) (xs := (upS r b)) hw (hF _ (K.m11)) hq1 (fun _ => rfl) (by decide); have hg := c30 (c := q1) hX (by omega) (hT.pass hw); rw [hpr, hc2] at hg; exact hg))) rfl ?_
  rintro ⟨Q13, q13⟩ hq13
  refine zN ?_
  refine qm ?_
  refine qx ?_
  refine qx ?_
  iterate 2 refine qa ?_
  refine sn ?_
  refine sr ?_
  refine qm ?_
  refine K.seq_loud (K.call_f cal_32 (fun F w hF hw => (by have hg := c32 (c := c) (hR.pass hw) hn4; rw [hc] at hg; exact hg))) rfl ?_
  rintro ⟨Q14, q14⟩ hq14
  refine zN ?_
  refine qm ?_
  refine qx ?_
  refine qx ?_
  refine qx ?_
  iterate 3 refine qa ?_
  refine sn ?_
  refine sr ?_
  refine qm ?_
  refine K.seq_loud (K.call_f cal_32 (fun F w hF hw => (by have hX := K.Rd.own (e := eR) (xs := (upS r b)) hw (hF _ (K.m13)) hq1 (fun _ => rfl) (by decide); have hg := c32 (c := q1) hX (by omega); rw [hls, hc2] at hg; exact hg))) rfl ?_
  rintro ⟨Q15, q15⟩ hq15
  refine zN ?_
  refine qm ?_
  refine qx ?_
  refine qx ?_
  refine qx ?_
  iterate 3 refine qa ?_
  refine sn ?_
  refine sr ?_
  refine qm ?_
  refine qp (K.Pure.eq (K.eql rfl rfl) (show _ = Value.bool true from congrArg Value.bool (rfl))) ?_
  iterate 2 refine qm ?_
  refine qp (K.Pure.eq (K.eql rfl rfl) (show _ = Value.bool true from congrArg Value.bool (rfl))) ?_
  refine qp (K.pick_t rfl) ?_
  iterate 2 refine qm ?_
  refine qp (K.Pure.eq (K.eql rfl rfl) (show _ = Value.bool true from congrArg Value.bool (rfl))) ?_
  refine qp (K.pick_t rfl) ?_
  iterate 2 refine qm ?_
  refine qp (K.Pure.eq (K.eql rfl rfl) (show _ = Value.bool true from congrArg Value.bool (rfl))) ?_
  refine qp (K.pick_t rfl) ?_
  iterate 2 refine qm ?_
  refine qp (K.Pure.eq (K.eql rfl rfl) (show _ = Value.bool true from congrArg Value.bool (rfl))) ?_
  refine qp (K.pick_t rfl) ?_
  iterate 2 refine qm ?_
  refine qp (K.Pure.eq (K.eql rfl rfl) (show _ = Value.bool true from congrArg Value.bool (rfl))) ?_
  refine qp (K.pick_t rfl) ?_
  iterate 2 refine qm ?_
  refine qp (K.Pure.eq (K.eql rfl rfl) (show _ = Value.bool true from congrArg Value.bool (rfl))) ?_
  refine qp (K.pick_t rfl) ?_
  iterate 2 refine qm ?_
  refine qp (K.Pure.eq (K.eql rfl rfl) (show _ = Value.bool true from congrArg Value.bool (rfl))) ?_
  refine qp (K.pick_t rfl) ?_
  iterate 3 refine qm ?_
  refine K.seq_call (K.call_g cal_18 (fun F w hF hw => (by have hX := (K.Rd.own (e := K.eI) (xs := (fewL r)) hw (hF _ (K.m9)) hq6 (fun _ => rfl) (by decide)); have hY := (K.Rd.own (e := K.eI) (xs := (fewL r)) hw (hF _ (K.m8)) hq7 (fun _ => rfl) (by decide)); exact c18t (xs := (fewL r)) hX hY (by omega)))) rfl ?_
  refine zN ?_
  refine qp (K.pick_t rfl) ?_
  iterate 3 refine qm ?_
  refine K.seq_call (K.call_g cal_18 (fun F w hF hw => (by have hX := (K.Rd.own (e := K.eI) (xs := (mustL r)) hw (hF _ (K.m7)) hq8 (fun _ => rfl) (by decide)); have hY := (K.Rd.own (e := K.eI) (xs := (mustL r)) hw (hF _ (K.m5)) hq10 (fun _ => rfl) (by decide)); exact c18t (xs := (mustL r)) hX hY (by omega)))) rfl ?_
  refine zN ?_
  refine qp (K.pick_t rfl) ?_
  iterate 3 refine qm ?_
  refine K.seq_call (K.call_g cal_18 (fun F w hF hw => (by have hX := (K.Rd.own (e := K.eI) (xs := (mayL r)) hw (hF _ (K.m6)) hq9 (fun _ => rfl) (by decide)); have hY := (K.Rd.own (e := K.eI) (xs := (mayL r)) hw (hF _ (K.m4)) hq11 (fun _ => rfl) (by decide)); exact c18t (xs := (mayL r)) hX hY (by omega)))) rfl ?_
  refine zN ?_
  refine qp (K.pick_t rfl) ?_
  iterate 3 refine qm ?_
  refine K.seq_call (K.call_g cal_18 (fun F w hF hw => (by have hX := (K.Rd.own (e := K.eI) (xs := (prfL r)) hw (hF _ (K.m3)) hq12 (fun _ => rfl) (by decide)); have hY := (K.Rd.own (e := K.eI) (xs := (prfL r)) hw (hF _ (K.m2)) hq13 (fun _ => rfl) (by decide)); exact c18t (xs := (prfL r)) hX hY (by omega)))) rfl ?_
  refine zN ?_
  refine qp (K.pick_t rfl) ?_
  iterate 3 refine qm ?_
  refine qp (K.Pure.eq (K.eql rfl rfl) (show _ = Value.bool true from congrArg Value.bool (decide_eq_true rfl))) ?_
  refine qp (K.pick_t rfl) ?_
  refine qm ?_
  refine K.seq_call (K.call_g cal_25 (fun F w hF hw => c25 (hT.pass hw))) rfl ?_
  refine zN ?_
  refine qp (K.pick_t rfl) ?_
  refine qa ?_
  refine sn ?_
  refine K.ret ?_
  refine K.end_ret (fun w _ => K.res_tmp rfl w) ?_
  exact K.gives rfl

theorem c12 {r : List RvT} {A : Option Addr} {c : Nat} {b z : Int} {w : World} (hR : K.Rd w A 4 eR r) (hn : r.length ≤ 17592186043904) (hT : Tab w) (hb : 0 ≤ b ∧ b ≤ 65535) (hz : 0 ≤ z ∧ z ≤ 255) : Calls Tryd.prog 12 [.slice A r.length c, .int .u16 b, .int .u8 z].toArray w (K.Gives (.bool true) w) := by
  by_cases hc : (chk r).2.2 = 0
  · by_cases hc2 : (chk (upS r b)).2.2 = 0
    · have g := (chk_good hc).n
      have h0 := Int.emod_nonneg z (show (r.length : Int) ≠ 0 by omega)
      have h1 := Int.emod_lt_of_pos z (show (0 : Int) < r.length by omega)
      exact g12 (a := (z % (r.length : Int)).toNat) hR hn hT hb hz hc hc2 (by omega) (by omega)
    · exact f12 hR hn hT hb hz hc hc2
  · exact e12 hR hn hT hb hz hc


end Go.Proofs.YtoemnobfnnjopaaDoor
