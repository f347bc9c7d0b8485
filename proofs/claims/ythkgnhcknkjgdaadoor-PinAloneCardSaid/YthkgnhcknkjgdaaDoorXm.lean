/-
  Walks of the program's functions, printed by program: what each returns.
  Conditions stand in each theorem.
-/
import Derived.WalkArith
import Derived.Laws.Closers25b
import Derived.Test.YthkgnhcknkjgdaaDoorXj
import Derived.Test.YthkgnhcknkjgdaaDoorXh
set_option linter.unusedSimpArgs false
set_option linter.unusedVariables false
namespace Go.Proofs.YthkgnhcknkjgdaaDoor
open Go.RowKit Go
open Go.K (setd setn ev nth over cl eI eP eT setM setF)
attribute [local irreducible] K.blk K.row

set_option maxRecDepth 100000 in
theorem e10a {m : Mod} {A B C : Option Addr} {c d e : Nat} {x0 x1 x2 mo : Int} {w : World} (hH : K.Rd w A 1 K.eI m.hs) (hP : K.Rd w B 5 eN m.ps) (hS : K.Rd w C 4 eS m.ss) (hn : m.hs.length ≤ 4611686018427387904) (hm : m.ps.length ≤ 4611686018427387904) (hk : m.ss.length ≤ 4611686018427387904) (hcd : m.ps.length ≤ d) (hT : Tab w) (hc : (chk m).2.2 ≠ 0) :
    Calls Tryd.prog 10 [.agg #[.int .i64 m.W, .int .i64 m.D, .slice A m.hs.length c, .slice B m.ps.length d, .slice C m.ss.length e], .agg #[.int .u8 x0, .int .u8 x1, .int .u8 x2], .int .u16 mo].toArray w (K.Gives (.bool true) w) := by
  refine K.enter (args := [.agg #[.int .i64 m.W, .int .i64 m.D, .slice A m.hs.length c, .slice B m.ps.length d, .slice C m.ss.length e], .agg #[.int .u8 x0, .int .u8 x1, .int .u8 x2], .int .u16 mo]) Tryd.func10 rfl (n := 154) rfl ?_
  simp only [List.replicate, List.cons_append, List.nil_append]
  refine sr ?_
  refine K.seq_new (K.box) rfl ?_
  intro b3
  refine zN ?_
  refine K.seq_new (K.box) rfl ?_
  intro b4
  refine zN ?_
  refine qa ?_
  refine sn ?_
  refine K.seq ?_
  refine sr ?_
  refine K.seq_sil (K.loadA_own ag_26 rfl (K.m1) rfl) rfl ?_
  refine zN ?_
  refine K.seq_call (K.call_g cal_37 (fun F w hF hw => c37 (hH.pass hw) (hP.pass hw) (hS.pass hw) hn hm hk)) rfl ?_
  refine zN ?_
  first | refine K.seq_pure (K.Pure.eq (K.not_d rfl) (show _ = Value.bool true from congrArg Value.bool (by simp [hc]))) rfl ?_ | refine K.seq_pure (K.Pure.eq (K.not_ rfl) (show _ = Value.bool true from congrArg Value.bool (by simp [hc]))) rfl ?_
  refine zN ?_
  refine qm ?_
  iterate 4 refine qs ?_
  refine qp (K.pick_t rfl) ?_
  refine qm ?_
  iterate 4 refine qs ?_
  refine qp (K.pick_t rfl) ?_
  refine sn ?_
  refine K.cond_true rfl ?_
  refine sr ?_
  refine K.seq_call (K.call_g cal_25 (fun F w hF hw => c25 (hT.pass hw))) rfl ?_
  refine zN ?_
  refine qa ?_
  refine sn ?_
  refine K.ret ?_
  refine K.ret_then ?_
  refine K.end_ret (fun w _ => K.res_tmp rfl w) ?_
  exact K.gives rfl

set_option maxRecDepth 100000 in
theorem e10b {m : Mod} {A B C : Option Addr} {c d e : Nat} {x0 x1 x2 mo : Int} {w : World} (hH : K.Rd w A 1 K.eI m.hs) (hP : K.Rd w B 5 eN m.ps) (hS : K.Rd w C 4 eS m.ss) (hn : m.hs.length ≤ 4611686018427387904) (hm : m.ps.length ≤ 4611686018427387904) (hk : m.ss.length ≤ 4611686018427387904) (hcd : m.ps.length ≤ d) (hT : Tab w) (hc : (chk m).2.2 = 0) (hz : m.ss.length = 0) :
    Calls Tryd.prog 10 [.agg #[.int .i64 m.W, .int .i64 m.D, .slice A m.hs.length c, .slice B m.ps.length d, .slice C m.ss.length e], .agg #[.int .u8 x0, .int .u8 x1, .int .u8 x2], .int .u16 mo].toArray w (K.Gives (.bool true) w) := by
  refine K.enter (args := [.agg #[.int .i64 m.W, .int .i64 m.D, .slice A m.hs.length c, .slice B m.ps.length d, .slice C m.ss.length e], .agg #[.int .u8 x0, .int .u8 x1, .int .u8 x2], .int .u16 mo]) Tryd.func10 rfl (n := 154) rfl ?_
  simp only [List.replicate, List.cons_append, List.nil_append]
  refine sr ?_
  refine K.seq_new (K.box) rfl ?_
  intro b3
  refine zN ?_
  refine K.seq_new (K.box) rfl ?_
  intro b4
  refine zN ?_
  refine qa ?_
  refine sn ?_
  refine K.seq ?_
  refine sr ?_
  refine K.seq_sil (K.loadA_own ag_26 rfl (K.m1) rfl) rfl ?_
  refine zN ?_
  refine K.seq_call (K.call_g cal_37 (fun F w hF hw => c37 (hH.pass hw) (hP.pass hw) (hS.pass hw) hn hm hk)) rfl ?_
  refine zN ?_
  first | refine K.seq_pure (K.Pure.eq (K.not_d rfl) (show _ = Value.bool false from congrArg Value.bool (by simp [hc]))) rfl ?_ | refine K.seq_pure (K.Pure.eq (K.not_ rfl) (show _ = Value.bool false from congrArg Value.bool (by simp [hc]))) rfl ?_
  refine zN ?_
  refine qm ?_
  refine qp (K.fieldAddr_lit fo_26_4 rfl) ?_
  refine K.seq_sil (K.load1_own one_24 rfl (K.m1) rfl) rfl ?_
  refine zN ?_
  refine qp (K.len_sl sl_24 rfl) ?_
  refine qp (K.Pure.eq (K.eql rfl rfl) (show _ = Value.bool true from congrArg Value.bool (decide_eq_true (by omega)))) ?_
  refine qp (K.pick_f rfl) ?_
  refine qm ?_
  iterate 4 refine qs ?_
  refine qp (K.pick_t rfl) ?_
  refine sn ?_
  refine K.cond_true rfl ?_
  refine sr ?_
  refine K.seq_call (K.call_g cal_25 (fun F w hF hw => c25 (hT.pass hw))) rfl ?_
  refine zN ?_
  refine qa ?_
  refine sn ?_
  refine K.ret ?_
  refine K.ret_then ?_
  refine K.end_ret (fun w _ => K.res_tmp rfl w) ?_
  exact K.gives rfl

set_option maxRecDepth 100000 in
theorem e10c {m : Mod} {A B C : Option Addr} {c d e : Nat} {x0 x1 x2 mo : Int} {w : World} (hH : K.Rd w A 1 K.eI m.hs) (hP : K.Rd w B 5 eN m.ps) (hS : K.Rd w C 4 eS m.ss) (hn : m.hs.length ≤ 4611686018427387904) (hm : m.ps.length ≤ 4611686018427387904) (hk : m.ss.length ≤ 4611686018427387904) (hcd : m.ps.length ≤ d) (hT : Tab w) (hc : (chk m).2.2 = 0) (hs : ¬ m.ss.length = 0) (hz : m.ps.length < 2) :
    Calls Tryd.prog 10 [.agg #[.int .i64 m.W, .int .i64 m.D, .slice A m.hs.length c, .slice B m.ps.length d, .slice C m.ss.length e], .agg #[.int .u8 x0, .int .u8 x1, .int .u8 x2], .int .u16 mo].toArray w (K.Gives (.bool true) w) := by
  refine K.enter (args := [.agg #[.int .i64 m.W, .int .i64 m.D, .slice A m.hs.length c, .slice B m.ps.length d, .slice C m.ss.length e], .agg #[.int .u8 x0, .int .u8 x1, .int .u8 x2], .int .u16 mo]) Tryd.func10 rfl (n := 154) rfl ?_
  simp only [List.replicate, List.cons_append, List.nil_append]
  refine sr ?_
  refine K.seq_new (K.box) rfl ?_
  intro b3
  refine zN ?_
  refine K.seq_new (K.box) rfl ?_
  intro b4
  refine zN ?_
  refine qa ?_
  refine sn ?_
  refine K.seq ?_
  refine sr ?_
  refine K.seq_sil (K.loadA_own ag_26 rfl (K.m1) rfl) rfl ?_
  refine zN ?_
  refine K.seq_call (K.call_g cal_37 (fun F w hF hw => c37 (hH.pass hw) (hP.pass hw) (hS.pass hw) hn hm hk)) rfl ?_
  refine zN ?_
  first | refine K.seq_pure (K.Pure.eq (K.not_d rfl) (show _ = Value.bool false from congrArg Value.bool (by simp [hc]))) rfl ?_ | refine K.seq_pure (K.Pure.eq (K.not_ rfl) (show _ = Value.bool false from congrArg Value.bool (by simp [hc]))) rfl ?_
  refine zN ?_
  refine qm ?_
  refine qp (K.fieldAddr_lit fo_26_4 rfl) ?_
  refine K.seq_sil (K.load1_own one_24 rfl (K.m1) rfl) rfl ?_
  refine zN ?_
  refine qp (K.len_sl sl_24 rfl) ?_
  refine qp (K.Pure.eq (K.eql rfl rfl) (show _ = Value.bool false from congrArg Value.bool (decide_eq_false (by omega)))) ?_
  refine qp (K.pick_f rfl) ?_
  refine qm ?_
  refine qp (K.fieldAddr_lit fo_26_3 rfl) ?_
  refine K.seq_sil (K.load1_own one_23 rfl (K.m1) rfl) rfl ?_
  refine zN ?_
  refine qp (K.len_sl sl_23 rfl) ?_
  refine qp (K.Pure.eq (K.lss rfl rfl) (show _ = Value.bool true from congrArg Value.bool (decide_eq_true (by omega)))) ?_
  refine qp (K.pick_f rfl) ?_
  refine sn ?_
  refine K.cond_true rfl ?_
  refine sr ?_
  refine K.seq_call (K.call_g cal_25 (fun F w hF hw => c25 (hT.pass hw))) rfl ?_
  refine zN ?_
  refine qa ?_
  refine sn ?_
  refine K.ret ?_
  refine K.ret_then ?_
  refine K.end_ret (fun w _ => K.res_tmp rfl w) ?_
  exact K.gives rfl

set_option maxRecDepth 100000 in
set_option maxHeartbeats 2000000 in
theorem g10 {m : Mod} {A B C : Option Addr} {c d e : Nat} {v : Int} {s p o : Nat} {x0 x1 x2 mo : Int} {w : World} (hH : K.Rd w A 1 K.eI m.hs) (hP : K.Rd w B 5 eN m.ps) (hS : K.Rd w C 4 eS m.ss) (hn : m.hs.length ≤ 4611686018427387904) (hm : m.ps.length ≤ 4611686018427387904) (hk : m.ss.length ≤ 4611686018427387904) (hcd : m.ps.length ≤ d) (hT : Tab w) (hx0 : 0 ≤ x0 ∧ x0 ≤ 255) (hx1 : 0 ≤ x1 ∧ x1 ≤ 255) (hx2 : 0 ≤ x2 ∧ x2 ≤ 255) (hmo : 0 ≤ mo ∧ mo ≤ 65535) (hse : x0 % (m.ss.length : Int) = s) (hpe : x1 % (m.ps.length : Int) = p) (hoe : x2 % (m.ps.length : Int) = o) (hs : s < m.ss.length) (hp : p < m.ps.length) (ho : o < m.ps.length) (h2 : 2 ≤ m.ps.length) (hve : (ownS m).getD p default + mo % ((m.ps.getD p default).most - (ownS m).getD p default + 1) = v) (hc : (chk m).2.2 = 0) :
    Calls Tryd.prog 10 [.agg #[.int .i64 m.W, .int .i64 m.D, .slice A m.hs.length c, .slice B m.ps.length d, .slice C m.ss.length e], .agg #[.int .u8 x0, .int .u8 x1, .int .u8 x2], .int .u16 mo].toArray w (K.Gives (.bool true) w) := by
  have g := chk_good hc
  have hgn := g.n
  have hgp := g.p p hp
  have hop : (ownS m).getD p default = (m.ps.getD p default).len := own_at hp
  have hm1 := Int.emod_nonneg mo (b := (m.ps.getD p default).most - (ownS m).getD p default + 1) (by omega)
  have hm2 := Int.emod_lt_of_pos mo (b := (m.ps.getD p default).most - (ownS m).getD p default + 1) (by omega)
  have hvb : (m.ps.getD p default).len ≤ v ∧ v ≤ (m.ps.getD p default).most := by omega
  have hol : (ownS m).length = m.ps.length := own_len
  have hll : ((ownS m).set p v).length = m.ps.length := List.length_set.trans hol
  have hcl := long_chk hc (set_in g hvb)
  have hcw : (chk (withM m [(o : Int)])).2.2 = 0 := with_chk hc
  have hse0 := seen_0 hc hs
  have hse1 : seenE (longM m ((ownS m).set p v)) s = 0 := seen_0 (m := (longM m ((ownS m).set p v))) hcl hs
  have hse2 : seenE (withM m [(o : Int)]) s = 0 := seen_0 (m := (withM m [(o : Int)])) hcw hs
  have hl3 := sure_len6 (m := m) (s := s)
  have hl6 := sure_len6 (m := (longM m ((ownS m).set p v))) (s := s)
  have hl8 := sure_len6 (m := (withM m [(o : Int)])) (s := s)
  have hwl := @with_len m [(o : Int)] m.ps.length
  have hset : K.over ((ownS m).flatMap K.eI) (0 + p * 1) [.int .i64 v] = ((ownS m).set p v).flatMap K.eI := by rw [show [Value.int .i64 v] = K.eI v from rfl, K.set_cut0 (size := 1) (fun _ => rfl) (by omega)]
  refine K.enter (args := [.agg #[.int .i64 m.W, .int .i64 m.D, .slice A m.hs.length c, .slice B m.ps.length d, .slice C m.ss.length e], .agg #[.int .u8 x0, .int .u8 x1, .int .u8 x2], .int .u16 mo]) Tryd.func10 rfl (n := 154) rfl ?_
  simp only [List.replicate, List.cons_append, List.nil_append]
  refine sr ?_
  refine K.seq_new (K.box) rfl ?_
  intro b3
  refine zN ?_
  refine K.seq_new (K.box) rfl ?_
  intro b4
  refine zN ?_
  refine qa ?_
  refine sn ?_
  refine K.seq ?_
  refine sr ?_
  refine K.seq_sil (K.loadA_own ag_26 rfl (K.m1) rfl) rfl ?_
  refine zN ?_
  refine K.seq_call (K.call_g cal_37 (fun F w hF hw => c37 (hH.pass hw) (hP.pass hw) (hS.pass hw) hn hm hk)) rfl ?_
  refine zN ?_
  first | refine K.seq_pure (K.Pure.eq (K.not_d rfl) (show _ = Value.bool false from congrArg Value.bool (by simp [hc]))) rfl ?_ | refine K.seq_pure (K.Pure.eq (K.not_ rfl) (show _ = Value.bool false from congrArg Value.bool (by simp [hc]))) rfl ?_
  refine zN ?_
  refine qm ?_
  refine qp (K.fieldAddr_lit fo_26_4 rfl) ?_
  refine K.seq_sil (K.load1_own one_24 rfl (K.m1) rfl) rfl ?_
  refine zN ?_
  refine qp (K.len_sl sl_24 rfl) ?_
  refine qp (K.Pure.eq (K.eql rfl rfl) (show _ = Value.bool false from congrArg Value.bool (decide_eq_false (by omega)))) ?_
  refine qp (K.pick_f rfl) ?_
  refine qm ?_
  refine qp (K.fieldAddr_lit fo_26_3 rfl) ?_
  refine K.seq_sil (K.load1_own one_23 rfl (K.m1) rfl) rfl ?_
  refine zN ?_
  refine qp (K.len_sl sl_23 rfl) ?_
  refine qp (K.Pure.eq (K.lss rfl rfl) (show _ = Value.bool false from congrArg Value.bool (decide_eq_false (by omega)))) ?_
  refine qp (K.pick_f rfl) ?_
  refine sn ?_
  refine K.cond_false rfl ?_
  refine K.skip ?_
  refine K.norm_then ?_
  refine K.seq ?_
  refine K.draw_L [] Tryd_mixed ?_
  refine K.d_pure 0 rfl (K.indexAddr_ar ar_67 rfl rfl (by omega) (by omega)) (by kernel_rfl) rfl ?_
  refine zN ?_
  refine K.d_mem 1 rfl (K.load1_own one_5 rfl (K.m0) rfl) (fun _ h => h) (by kernel_rfl) (by kernel_rfl) rfl ?_
  refine zN ?_
  refine K.d_pure 2 rfl (K.Pure.eq (K.conv_int ik_5 ik_3 rfl) (show _ = Value.int .i64 x0 from by rw [IntWalk.i64_in _ (by omega)])) (by kernel_rfl) rfl ?_
  refine zN ?_
  refine K.d_pure 3 rfl (K.fieldAddr_lit fo_26_4 rfl) (by kernel_rfl) rfl ?_
  refine zn ?_
  refine K.d_mem 4 rfl (K.load1_own one_24 rfl (K.m1) rfl) (fun _ h => h) (by kernel_rfl) (by kernel_rfl) rfl ?_
  refine zN ?_
  refine K.d_pure 5 rfl (K.len_sl sl_24 rfl) (by kernel_rfl) rfl ?_
  refine zn ?_
  refine K.d_pure 6 rfl (K.Pure.eq (K.rem_i64 rfl rfl (by omega) (by omega)) (show _ = Value.int .i64 (s : Int) from by rw [hse])) (by kernel_rfl) rfl ?_
  refine zn ?_
  refine K.d_pure 7 rfl (K.indexAddr_ar ar_67 rfl rfl (by omega) (by omega)) (by kernel_rfl) rfl ?_
  refine zN ?_
  refine K.d_mem 8 rfl (K.load1_own one_5 rfl (K.m0) rfl) (fun _ h => h) (by kernel_rfl) (by kernel_rfl) rfl ?_
  refine zN ?_
  refine K.d_pure 9 rfl (K.Pure.eq (K.conv_int ik_5 ik_3 rfl) (show _ = Value.int .i64 x1 from by rw [IntWalk.i64_in _ (by omega)])) (by kernel_rfl) rfl ?_
  refine zN ?_
  refine K.d_pure 10 rfl (K.fieldAddr_lit fo_26_3 rfl) (by kernel_rfl) rfl ?_
  refine zn ?_
  refine K.d_mem 11 rfl (K.load1_own one_23 rfl (K.m1) rfl) (fun _ h => h) (by kernel_rfl) (by kernel_rfl) rfl ?_
  refine zN ?_
  refine K.d_pure 12 rfl (K.len_sl sl_23 rfl) (by kernel_rfl) rfl ?_
  refine zn ?_
  refine K.d_pure 13 rfl (K.Pure.eq (K.rem_i64 rfl rfl (by omega) (by omega)) (show _ = Value.int .i64 (p : Int) from by rw [hpe])) (by kernel_rfl) rfl ?_
  refine zn ?_
  refine K.d_pure 14 rfl (K.indexAddr_ar ar_67 rfl rfl (by omega) (by omega)) (by kernel_rfl) rfl ?_
  refine zN ?_
  refine K.d_mem 15 rfl (K.load1_own one_5 rfl (K.m0) rfl) (fun _ h => h) (by kernel_rfl) (by kernel_rfl) rfl ?_
  refine zN ?_
  refine K.d_pure 16 rfl (K.Pure.eq (K.conv_int ik_5 ik_3 rfl) (show _ = Value.int .i64 x2 from by rw [IntWalk.i64_in _ (by omega)])) (by kernel_rfl) rfl ?_
  refine zN ?_
  refine K.d_pure 17 rfl (K.fieldAddr_lit fo_26_3 rfl) (by kernel_rfl) rfl ?_
  refine zn ?_
  refine K.d_mem 18 rfl (K.load1_own one_23 rfl (K.m1) rfl) (fun _ h => h) (by kernel_rfl) (by kernel_rfl) rfl ?_
  refine zN ?_
  refine K.d_pure 19 rfl (K.len_sl sl_23 rfl) (by kernel_rfl) rfl ?_
  refine zn ?_
  refine K.d_pure 20 rfl (K.Pure.eq (K.rem_i64 rfl rfl (by omega) (by omega)) (show _ = Value.int .i64 (o : Int) from by rw [hoe])) (by kernel_rfl) rfl ?_
  refine zn ?_
  refine K.d_pure 21 rfl (K.assign) (by kernel_rfl) rfl ?_
  refine zn ?_
  refine K.d_pure 22 rfl (K.assign) (by kernel_rfl) rfl ?_
  refine zn ?_
  refine K.d_pure 23 rfl (K.assign) (by kernel_rfl) rfl ?_
  refine zn ?_
  refine K.d_done (by kernel_rfl) ?_
  refine K.norm_then ?_
  refine sr ?_
  refine K.seq_sil (K.loadA_own ag_26 rfl (K.m1) rfl) rfl ?_
  refine zN ?_
  refine K.seq_loud (K.call_f cal_43 (fun F w hF hw => c43 (hP.pass hw) (by omega))) rfl ?_
  rintro ⟨A1, a1⟩ hq1
  refine zN ?_
  refine qa ?_
  refine sn ?_
  refine K.seq ?_
  refine K.use_row K.m0 (fun hA => ?_)
  obtain ⟨gb, rfl⟩ := hA.resolve_left (by omega)
  have hfit : 0 + p * 1 + 1 ≤ ((ownS m).flatMap K.eI).length := by rw [K.flat_len (size := 1) (e := K.eI) (fun _ => rfl)]; omega
  refine K.draw_L [23] Tryd_mixed ?_
  refine K.d_pure 0 rfl (K.move) (by kernel_rfl) rfl ?_
  refine zn ?_
  refine K.d_pure 1 rfl (K.move) (by kernel_rfl) rfl ?_
  refine zn ?_
  refine K.d_pure 2 rfl (K.move) (by kernel_rfl) rfl ?_
  refine zn ?_
  refine K.d_pure 3 rfl (K.move) (by kernel_rfl) rfl ?_
  refine zn ?_
  refine K.d_ix (M := [K.row (.slice (some ⟨gb, 0, none⟩) (ownS m).length a1) 3 1 (ownS m).length ((ownS m).flatMap K.eI)]) 4 p rfl (K.Sl.own (w0 := w) (t := 3) (c := a1) (e := K.eI) hA (fun _ => rfl)) sl_22 rfl rfl (by omega) (by omega) (by kernel_rfl) rfl ?_
  intro p65 hp65
  refine zN ?_
  refine K.d_mem 5 rfl (K.load1 one_3 rfl (hp65.at1 (K.m0))) (fun _ h => h) (by kernel_rfl) (by kernel_rfl) rfl ?_
  refine zN ?_
  refine K.d_pure 6 rfl (K.move) (by kernel_rfl) rfl ?_
  refine zn ?_
  refine K.d_pure 7 rfl (K.Pure.eq (K.conv_int ik_57 ik_3 rfl) (show _ = Value.int .i64 mo from by rw [IntWalk.i64_in _ (by omega)])) (by kernel_rfl) rfl ?_
  refine zN ?_
  refine K.d_pure 8 rfl (K.fieldAddr_lit fo_26_3 rfl) (by kernel_rfl) rfl ?_
  refine zn ?_
  refine K.d_mem 9 rfl (K.load1_own one_23 rfl (K.m2) rfl) (fun _ h => h) (by kernel_rfl) (by kernel_rfl) rfl ?_
  refine zN ?_
  refine K.d_pure 10 rfl (K.move) (by kernel_rfl) rfl ?_
  refine zn ?_
  refine K.d_ix (M := []) 11 p rfl hP.sl sl_23 rfl rfl (by omega) (by omega) (by kernel_rfl) rfl ?_
  intro p72 hp72
  refine zN ?_
  refine K.d_pure 12 rfl (K.fieldAddr fo_54_4 rfl) (by kernel_rfl) rfl ?_
  refine zn ?_
  refine K.d_mem 13 rfl (K.load1 one_3 rfl ((K.PtrL.fld hp72 (k := 4)).any)) (fun _ h => h) (by kernel_rfl) (by kernel_rfl) rfl ?_
  refine zN ?_
  refine K.d_pure 14 rfl (K.move) (by kernel_rfl) rfl ?_
  refine zn ?_
  refine K.d_pure 15 rfl (K.move) (by kernel_rfl) rfl ?_
  refine zn ?_
  refine K.d_ix (M := [K.row (.slice (some ⟨gb, 0, none⟩) (ownS m).length a1) 3 1 (ownS m).length ((ownS m).flatMap K.eI)]) 16 p rfl (K.Sl.own (w0 := w) (t := 3) (c := a1) (e := K.eI) hA (fun _ => rfl)) sl_22 rfl rfl (by omega) (by omega) (by kernel_rfl) rfl ?_
  intro p77 hp77
  refine zN ?_
  refine K.d_mem 17 rfl (K.load1 one_3 rfl (hp77.at1 (K.m0))) (fun _ h => h) (by kernel_rfl) (by kernel_rfl) rfl ?_
  refine zN ?_
  refine K.d_pure 18 rfl (K.sub_i64 rfl rfl (by omega)) (by kernel_rfl) rfl ?_
  refine zn ?_
  refine K.d_pure 19 rfl (K.add_i64 rfl rfl (by omega)) (by kernel_rfl) rfl ?_
  refine zn ?_
  refine K.d_pure 20 rfl (K.rem_i64 rfl rfl (by omega) (by omega)) (by kernel_rfl) rfl ?_
  refine zn ?_
  refine K.d_pure 21 rfl (K.Pure.eq (K.add_i64 rfl rfl (by omega)) (show _ = Value.int .i64 v from by rw [hve])) (by kernel_rfl) rfl ?_
  refine zn ?_
  refine K.d_pure 22 rfl (K.Pure.eq (K.indexAddr_sl sl_22 rfl rfl (by omega) (by omega)) (show _ = Value.pointer (some ⟨gb, 0 + p * 1, none⟩) from by rw [K.add_lit, Int.toNat_natCast])) (by kernel_rfl) rfl ?_
  refine zN ?_
  refine zN ?_
  refine K.d_last 23 rfl (K.store_row (xs := (ownS m).flatMap K.eI) (j := 0 + p * 1) sz_3 rfl rfl hfit rfl (K.rpe K.rp0 (show K.row (.slice (some ⟨gb, 0, none⟩) ((ownS m).set p v).length a1) 3 1 ((ownS m).set p v).length (((ownS m).set p v).flatMap K.eI) = K.row (.slice (some ⟨gb, 0, none⟩) (ownS m).length a1) 3 1 (ownS m).length (K.over ((ownS m).flatMap K.eI) (0 + p * 1) [.int .i64 v]) from by rw [List.length_set, hset]))) rfl (by kernel_rfl) rfl ?_
  intro _ _
  refine zN ?_
  refine zN ?_
  refine K.d_done (by kernel_rfl) ?_
  refine K.norm_then ?_
  refine sr ?_
  refine K.seq_sil (K.loadA_own ag_26 rfl (K.m2) rfl) rfl ?_
  refine zN ?_
  refine qm ?_
  refine K.seq_loud (K.call_f cal_21 (fun F w hF hw => c21 (hH.pass hw) (hP.pass hw) (hS.pass hw) hn hm hk hcd (hT.pass hw))) rfl ?_
  rintro ⟨⟨A3, a3⟩, ⟨A4, a4⟩⟩ ⟨hq3, hq4⟩
  refine zN ?_
  refine qm ?_
  refine qx ?_
  refine qx ?_
  refine qx ?_
  iterate 3 refine qa ?_
  refine sn ?_
  refine sr ?_
  refine K.seq_sil (K.loadA_own ag_26 rfl (K.m4) rfl) rfl ?_
  refine zN ?_
  refine qm ?_
  refine K.seq_loud (K.call_f cal_40 (fun F w hF hw => (by have hh := (K.Rd.own (e := K.eI) (xs := ((ownS m).set p v)) hw (hF _ (K.m2)) (.inr ⟨gb, rfl⟩) (fun _ => rfl) (by decide)); have hg := c40 (A := A) (B := B) (C := C) (c := c) (d := d) (e := e) (q := a1) (l := ((ownS m).set p v)) (hP.pass hw) hh hll hgn; rw [List.length_set] at hg; exact hg))) rfl ?_
  rintro ⟨A5, a5⟩ ⟨hq5, ho5⟩
  refine zN ?_
  refine qm ?_
  refine K.seq_loud (K.call_f cal_21 (fun F w hF hw => c21 (s := (s : Int)) (m := longM m ((ownS m).set p v)) (A := A) (B := A5) (C := C) (c := c) (d := a5) (e := e) (hH.pass hw) (K.Rd.own (e := eN) (xs := (longM m ((ownS m).set p v)).ps) hw (hF _ (K.m0)) hq5 (fun _ => rfl) (by decide)) (hS.pass hw) hn (by rw [long_n]; omega) hk ho5 (hT.pass hw))) rfl ?_
  rintro ⟨⟨A6, a6⟩, ⟨A7, a7⟩⟩ ⟨hq6, hq7⟩
  refine zN ?_
  refine qm ?_
  refine qx ?_
  refine qx ?_
  refine qx ?_
  iterate 3 refine qa ?_
  refine sn ?_
  refine K.seq ?_
  refine sr ?_
  refine qm ?_
  refine qp (K.Pure.eq (K.neq rfl rfl) (show _ = Value.bool false from congrArg Value.bool (by simp [hse0]))) ?_
  iterate 2 refine qm ?_
  refine qp (K.Pure.eq (K.neq rfl rfl) (show _ = Value.bool false from congrArg Value.bool (by simp [hse1]))) ?_
  refine qp (K.pick_f rfl) ?_
  iterate 3 refine qm ?_
  refine K.seq_call (K.call_g cal_42 (fun F w hF hw => (by have hh := (K.Rd.own (e := K.eI) (xs := (sureL m s)) hw (hF _ (K.m4)) hq3 (fun _ => rfl) (by decide)); exact c42 (c := a3) (xs := (sureL m s)) hh hl3))) rfl ?_
  refine zN ?_
  refine qm ?_
  refine K.split 110 rfl (fun hg110 => ?_) (fun hg110 => ?_)
  · try replace hg110 := of_decide_eq_true hg110
    have hml := alone_long hc hs hp hvb hg110
    iterate 2 refine qm ?_
    refine K.seq_call (K.call_g cal_42 (fun F w hF hw => (by have hh := (K.Rd.own (e := K.eI) (xs := (sureL (longM m ((ownS m).set p v)) s)) hw (hF _ (K.m1)) hq6 (fun _ => rfl) (by decide)); exact c42 (c := a6) (xs := (sureL (longM m ((ownS m).set p v)) s)) hh hl6))) rfl ?_
    refine zN ?_
    first | refine K.seq_pure (K.Pure.eq (K.not_d rfl) (show _ = Value.bool false from by rw [decide_eq_true hml]; rfl)) rfl ?_ | refine K.seq_pure (K.Pure.eq (K.not_ rfl) (show _ = Value.bool false from by rw [decide_eq_true hml]; rfl)) rfl ?_
    refine zN ?_
    refine qp (K.pick_t rfl) ?_
    refine qp (K.pick_f rfl) ?_
    refine sn ?_
    refine K.cond_false rfl ?_
    refine K.skip ?_
    refine K.norm_then ?_
    refine sr ?_
    refine K.seq_sil (K.loadA_own ag_26 rfl (K.m7) rfl) rfl ?_
    refine zN ?_
    refine qm ?_
    refine K.seq_new (K.buildSlice (bsI1 _)) rfl ?_
    intro b120
    refine zN ?_
    refine K.seq_loud (K.call_f cal_45 (fun F w hF hw => c45 (pins := [(o : Int)]) (hP.pass hw) (K.Rd.lit (e := K.eI) (size := 1) (xs := [(o : Int)]) hw (hF _ (K.m0)) (fun _ => rfl) (by decide) rfl) (Nat.le_of_ble_eq_true rfl) hgn)) rfl ?_
    rintro ⟨AW, aW⟩ hqW_
    refine zN ?_
    refine qm ?_
    refine K.use_rowc K.m0 fun hqW hoW => ?_
    refine K.seq_loud (K.call_f cal_21 (fun F w hF hw => c21 (s := (s : Int)) (m := (withM m [(o : Int)])) (A := A) (B := AW) (C := C) (c := c) (d := aW) (e := e) (hH.pass hw) (K.Rd.own (e := eN) (xs := withP m [(o : Int)] m.ps.length) hw (hF _ (K.m0)) hqW (fun _ => rfl) (by decide)) (hS.pass hw) hn (show (withP m [(o : Int)] m.ps.length).length ≤ _ by omega) hk hoW (hT.pass hw))) rfl ?_
    rintro ⟨⟨A8, a8⟩, ⟨A9, a9⟩⟩ ⟨hq8, hq9⟩
    refine zN ?_
    refine qm ?_
    refine qx ?_
    refine qx ?_
    refine qx ?_
    iterate 3 refine qa ?_
    refine sn ?_
    refine K.seq ?_
    refine sr ?_
    refine qm ?_
    refine qp (K.Pure.eq (K.neq rfl rfl) (show _ = Value.bool false from congrArg Value.bool (by simp [hse2]))) ?_
    refine sn ?_
    refine K.cond_false rfl ?_
    refine K.skip ?_
    refine K.norm_then ?_
    refine K.seq ?_
    refine K.seq ?_
    refine K.weak (List.Sublist.cons _ (List.Sublist.cons_cons _ (List.Sublist.cons _ (List.Sublist.cons _ (List.Sublist.cons _ (List.Sublist.cons _ (List.Sublist.cons _ (List.Sublist.cons _ (List.Sublist.cons_cons _ (List.Sublist.cons _ (List.Sublist.cons _ (List.Sublist.cons_cons _ (List.Sublist.slnil))))))))))))) ?_
    refine K.region_lit ?_
    refine qa ?_
    refine sn ?_
    refine K.block ?_
    refine K.loopW [20] [6, 21, 129, 130, 131, 132, 133, 134, 135, 136, 137, 138, 139, 140, 141, 142, 143, 144, 145, 146, 147, 148, 149, 150, 151, 152, 153, 154, 155] (fun vi L => ∃ k : Nat, vi = [.int .i64 (k : Int)] ∧ L = [K.row (.slice A8 (sureL (withM m [(o : Int)]) s).length a8) 3 1 (sureL (withM m [(o : Int)]) s).length ((sureL (withM m [(o : Int)]) s).flatMap K.eI), K.row (.slice A3 (sureL m s).length a3) 3 1 (sureL m s).length ((sureL m s).flatMap K.eI), K.blk b3 26 [.int .i64 m.W, .int .i64 m.D, .slice A m.hs.length c, .slice B m.ps.length d, .slice C m.ss.length e]] ∧ k ≤ m.ps.length) (fun vi => m.ps.length - (intOf (K.nth vi 0)).toNat) ?_ ?_
    · exact ⟨0, rfl, rfl, Nat.zero_le _⟩
    intro vi vr L hJ
    obtain ⟨k, rfl, rfl, hkn⟩ := hJ
    try dsimp only [setd, setn, ev, nth, over, cl, eI, eP, eT, eN, eS, setM, setF, List.map, List.append, List.drop, List.take]
    refine K.seq ?_
    refine sr ?_
    refine qm ?_
    refine qp (K.fieldAddr_lit fo_26_3 rfl) ?_
    refine K.seq_sil (K.load1_own one_23 rfl (K.m2) rfl) rfl ?_
    refine zN ?_
    refine qp (K.len_sl sl_23 rfl) ?_
    refine qp (K.lss rfl rfl) ?_
    refine sn ?_
    refine K.cond rfl (fun ht133 => ?_) (fun ht133 => ?_)
    · try replace ht133 := of_decide_eq_true ht133
      have hkn2 : k < m.ps.length := by omega
      refine K.skip ?_
      refine K.norm_then ?_
      refine K.seq ?_
      refine K.block ?_
      refine sr ?_
      refine qm ?_
      refine qa ?_
      refine sn ?_
      refine K.seq ?_
      refine sr ?_
      iterate 2 refine qm ?_
      refine qp (K.gtr rfl rfl) ?_
      refine sn ?_
      refine K.cond rfl (fun ht139 => ?_) (fun ht139 => ?_)
      · try replace ht139 := of_decide_eq_true ht139
        have hnow : ((nowI o k : Nat) : Int) = (k : Int) - 1 := by unfold nowI; rw [if_pos (by omega)]; omega
        refine K.region_lit ?_
        refine qm ?_
        refine qp (K.sub_i64 rfl rfl (by omega)) ?_
        refine qa ?_
        refine sn ?_
        refine sr ?_
        iterate 2 refine qm ?_
        refine qp (K.neq rfl rfl) ?_
        refine qm ?_
        refine K.split 145 rfl (fun hg145 => ?_) (fun hg145 => ?_)
        · try replace hg145 := of_decide_eq_true hg145
          iterate 2 refine qm ?_
          refine K.seq_call (K.call_g cal_42 (fun F w hF hw => (by have hh := (K.Rd.own (e := K.eI) (xs := (sureL m s)) hw (hF _ (K.m1)) hq3 (fun _ => rfl) (by decide)); exact c42 (c := a3) (xs := (sureL m s)) hh hl3))) rfl ?_
          refine zN ?_
          refine qp (K.pick_t rfl) ?_
          refine qm ?_
          refine K.split 150 rfl (fun hg150 => ?_) (fun hg150 => ?_)
          · try replace hg150 := of_decide_eq_true hg150
            have hal := alone_less hc hs ho hkn2 (by omega) hg150
            rw [hnow] at hal
            iterate 2 refine qm ?_
            refine K.seq_call (K.call_g cal_42 (fun F w hF hw => (by have hh := (K.Rd.own (e := K.eI) (xs := (sureL (withM m [(o : Int)]) s)) hw (hF _ (K.m0)) hq8 (fun _ => rfl) (by decide)); exact c42 (c := a8) (xs := (sureL (withM m [(o : Int)]) s)) hh hl8))) rfl ?_
            refine zN ?_
            first | refine K.seq_pure (K.Pure.eq (K.not_d rfl) (show _ = Value.bool false from by rw [decide_eq_true hal]; rfl)) rfl ?_ | refine K.seq_pure (K.Pure.eq (K.not_ rfl) (show _ = Value.bool false from by rw [decide_eq_true hal]; rfl)) rfl ?_
            refine zN ?_
            refine qp (K.pick_t rfl) ?_
            refine sn ?_
            refine K.cond_false rfl ?_
            refine K.skip ?_
            refine K.norm_block ?_
            refine K.norm_then ?_
            refine K.region_lit ?_
            refine qm ?_
            refine qp (K.add_i64 rfl rfl (by omega)) ?_
            refine qa ?_
            refine K.seq_nil ?_
            exact K.round_endW (L'' := [K.row (.slice A8 (sureL (withM m [(o : Int)]) s).length a8) 3 1 (sureL (withM m [(o : Int)]) s).length ((sureL (withM m [(o : Int)]) s).flatMap K.eI), K.row (.slice A3 (sureL m s).length a3) 3 1 (sureL m s).length ((sureL m s).flatMap K.eI), K.blk b3 26 [.int .i64 m.W, .int .i64 m.D, .slice A m.hs.length c, .slice B m.ps.length d, .slice C m.ss.length e]]) [.int .i64 ((k : Int) + 1)] ⟨k + 1, rfl, rfl, by omega⟩ (by simp [K.nth, intOf]; omega) (List.Sublist.refl _) (by kernel_rfl)
          try replace hg150 := of_decide_eq_false hg150
          iterate 4 refine qs ?_
          refine qp (K.pick_f rfl) ?_
          refine sn ?_
          refine K.cond_false rfl ?_
          refine K.skip ?_
          refine K.norm_block ?_
          refine K.norm_then ?_
          refine K.region_lit ?_
          refine qm ?_
          refine qp (K.add_i64 rfl rfl (by omega)) ?_
          refine qa ?_
          refine K.seq_nil ?_
          exact K.round_endW (L'' := [K.row (.slice A8 (sureL (withM m [(o : Int)]) s).length a8) 3 1 (sureL (withM m [(o : Int)]) s).length ((sureL (withM m [(o : Int)]) s).flatMap K.eI), K.row (.slice A3 (sureL m s).length a3) 3 1 (sureL m s).length ((sureL m s).flatMap K.eI), K.blk b3 26 [.int .i64 m.W, .int .i64 m.D, .slice A m.hs.length c, .slice B m.ps.length d, .slice C m.ss.length e]]) [.int .i64 ((k : Int) + 1)] ⟨k + 1, rfl, rfl, by omega⟩ (by simp [K.nth, intOf]; omega) (List.Sublist.refl _) (by kernel_rfl)
        try replace hg145 := of_decide_eq_false hg145
        iterate 3 refine qs ?_
        refine qp (K.pick_f rfl) ?_
        refine qm ?_
        iterate 4 refine qs ?_
        refine qp (K.pick_f rfl) ?_
        refine sn ?_
        refine K.cond_false rfl ?_
        refine K.skip ?_
        refine K.norm_block ?_
        refine K.norm_then ?_
        refine K.region_lit ?_
        refine qm ?_
        refine qp (K.add_i64 rfl rfl (by omega)) ?_
        refine qa ?_
        refine K.seq_nil ?_
        exact K.round_endW (L'' := [K.row (.slice A8 (sureL (withM m [(o : Int)]) s).length a8) 3 1 (sureL (withM m [(o : Int)]) s).length ((sureL (withM m [(o : Int)]) s).flatMap K.eI), K.row (.slice A3 (sureL m s).length a3) 3 1 (sureL m s).length ((sureL m s).flatMap K.eI), K.blk b3 26 [.int .i64 m.W, .int .i64 m.D, .slice A m.hs.length c, .slice B m.ps.length d, .slice C m.ss.length e]]) [.int .i64 ((k : Int) + 1)] ⟨k + 1, rfl, rfl, by omega⟩ (by simp [K.nth, intOf]; omega) (List.Sublist.refl _) (by kernel_rfl)
      try replace ht139 := of_decide_eq_false ht139
      have hnow : ((nowI o k : Nat) : Int) = (k : Int) := by unfold nowI; rw [if_neg (by omega)]
      refine K.skip ?_
      refine K.norm_then ?_
      refine sr ?_
      iterate 2 refine qm ?_
      refine qp (K.neq rfl rfl) ?_
      refine qm ?_
      refine K.split 145 rfl (fun hg145 => ?_) (fun hg145 => ?_)
      · try replace hg145 := of_decide_eq_true hg145
        iterate 2 refine qm ?_
        refine K.seq_call (K.call_g cal_42 (fun F w hF hw => (by have hh := (K.Rd.own (e := K.eI) (xs := (sureL m s)) hw (hF _ (K.m1)) hq3 (fun _ => rfl) (by decide)); exact c42 (c := a3) (xs := (sureL m s)) hh hl3))) rfl ?_
        refine zN ?_
        refine qp (K.pick_t rfl) ?_
        refine qm ?_
        refine K.split 150 rfl (fun hg150 => ?_) (fun hg150 => ?_)
        · try replace hg150 := of_decide_eq_true hg150
          have hal := alone_less hc hs ho hkn2 (by omega) hg150
          rw [hnow] at hal
          iterate 2 refine qm ?_
          refine K.seq_call (K.call_g cal_42 (fun F w hF hw => (by have hh := (K.Rd.own (e := K.eI) (xs := (sureL (withM m [(o : Int)]) s)) hw (hF _ (K.m0)) hq8 (fun _ => rfl) (by decide)); exact c42 (c := a8) (xs := (sureL (withM m [(o : Int)]) s)) hh hl8))) rfl ?_
          refine zN ?_
          first | refine K.seq_pure (K.Pure.eq (K.not_d rfl) (show _ = Value.bool false from by rw [decide_eq_true hal]; rfl)) rfl ?_ | refine K.seq_pure (K.Pure.eq (K.not_ rfl) (show _ = Value.bool false from by rw [decide_eq_true hal]; rfl)) rfl ?_
          refine zN ?_
          refine qp (K.pick_t rfl) ?_
          refine sn ?_
          refine K.cond_false rfl ?_
          refine K.skip ?_
          refine K.norm_block ?_
          refine K.norm_then ?_
          refine K.region_lit ?_
          refine qm ?_
          refine qp (K.add_i64 rfl rfl (by omega)) ?_
          refine qa ?_
          refine K.seq_nil ?_
          exact K.round_endW (L'' := [K.row (.slice A8 (sureL (withM m [(o : Int)]) s).length a8) 3 1 (sureL (withM m [(o : Int)]) s).length ((sureL (withM m [(o : Int)]) s).flatMap K.eI), K.row (.slice A3 (sureL m s).length a3) 3 1 (sureL m s).length ((sureL m s).flatMap K.eI), K.blk b3 26 [.int .i64 m.W, .int .i64 m.D, .slice A m.hs.length c, .slice B m.ps.length d, .slice C m.ss.length e]]) [.int .i64 ((k : Int) + 1)] ⟨k + 1, rfl, rfl, by omega⟩ (by simp [K.nth, intOf]; omega) (List.Sublist.refl _) (by kernel_rfl)
        try replace hg150 := of_decide_eq_false hg150
        iterate 4 refine qs ?_
        refine qp (K.pick_f rfl) ?_
        refine sn ?_
        refine K.cond_false rfl ?_
        refine K.skip ?_
        refine K.norm_block ?_
        refine K.norm_then ?_
        refine K.region_lit ?_
        refine qm ?_
        refine qp (K.add_i64 rfl rfl (by omega)) ?_
        refine qa ?_
        refine K.seq_nil ?_
        exact K.round_endW (L'' := [K.row (.slice A8 (sureL (withM m [(o : Int)]) s).length a8) 3 1 (sureL (withM m [(o : Int)]) s).length ((sureL (withM m [(o : Int)]) s).flatMap K.eI), K.row (.slice A3 (sureL m s).length a3) 3 1 (sureL m s).length ((sureL m s).flatMap K.eI), K.blk b3 26 [.int .i64 m.W, .int .i64 m.D, .slice A m.hs.length c, .slice B m.ps.length d, .slice C m.ss.length e]]) [.int .i64 ((k : Int) + 1)] ⟨k + 1, rfl, rfl, by omega⟩ (by simp [K.nth, intOf]; omega) (List.Sublist.refl _) (by kernel_rfl)
      try replace hg145 := of_decide_eq_false hg145
      iterate 3 refine qs ?_
      refine qp (K.pick_f rfl) ?_
      refine qm ?_
      iterate 4 refine qs ?_
      refine qp (K.pick_f rfl) ?_
      refine sn ?_
      refine K.cond_false rfl ?_
      refine K.skip ?_
      refine K.norm_block ?_
      refine K.norm_then ?_
      refine K.region_lit ?_
      refine qm ?_
      refine qp (K.add_i64 rfl rfl (by omega)) ?_
      refine qa ?_
      refine K.seq_nil ?_
      exact K.round_endW (L'' := [K.row (.slice A8 (sureL (withM m [(o : Int)]) s).length a8) 3 1 (sureL (withM m [(o : Int)]) s).length ((sureL (withM m [(o : Int)]) s).flatMap K.eI), K.row (.slice A3 (sureL m s).length a3) 3 1 (sureL m s).length ((sureL m s).flatMap K.eI), K.blk b3 26 [.int .i64 m.W, .int .i64 m.D, .slice A m.hs.length c, .slice B m.ps.length d, .slice C m.ss.length e]]) [.int .i64 ((k : Int) + 1)] ⟨k + 1, rfl, rfl, by omega⟩ (by simp [K.nth, intOf]; omega) (List.Sublist.refl _) (by kernel_rfl)
    try replace ht133 := of_decide_eq_false ht133
    refine K.exit ?_
    refine K.exit_then ?_
    refine K.exit_then ?_
    refine K.exit_here ?_
    refine K.norm_then ?_
    refine sr ?_
    refine K.seq_call (K.call_g cal_25 (fun F w hF hw => c25 (hT.pass hw))) rfl ?_
    refine zN ?_
    refine qa ?_
    refine sn ?_
    refine K.ret ?_
    refine K.end_ret (fun w _ => K.res_tmp rfl w) ?_
    exact K.gives rfl
  try replace hg110 := of_decide_eq_false hg110
  iterate 4 refine qs ?_
  refine qp (K.pick_f rfl) ?_
  refine qp (K.pick_f rfl) ?_
  refine sn ?_
  refine K.cond_false rfl ?_
  refine K.skip ?_
  refine K.norm_then ?_
  refine sr ?_
  refine K.seq_sil (K.loadA_own ag_26 rfl (K.m7) rfl) rfl ?_
  refine zN ?_
  refine qm ?_
  refine K.seq_new (K.buildSlice (bsI1 _)) rfl ?_
  intro b120
  refine zN ?_
  refine K.seq_loud (K.call_f cal_45 (fun F w hF hw => c45 (pins := [(o : Int)]) (hP.pass hw) (K.Rd.lit (e := K.eI) (size := 1) (xs := [(o : Int)]) hw (hF _ (K.m0)) (fun _ => rfl) (by decide) rfl) (Nat.le_of_ble_eq_true rfl) hgn)) rfl ?_
  rintro ⟨AW, aW⟩ hqW_
  refine zN ?_
  refine qm ?_
  refine K.use_rowc K.m0 fun hqW hoW => ?_
  refine K.seq_loud (K.call_f cal_21 (fun F w hF hw => c21 (s := (s : Int)) (m := (withM m [(o : Int)])) (A := A) (B := AW) (C := C) (c := c) (d := aW) (e := e) (hH.pass hw) (K.Rd.own (e := eN) (xs := withP m [(o : Int)] m.ps.length) hw (hF _ (K.m0)) hqW (fun _ => rfl) (by decide)) (hS.pass hw) hn (show (withP m [(o : Int)] m.ps.length).length ≤ _ by omega) hk hoW (hT.pass hw))) rfl ?_
  rintro ⟨⟨A8, a8⟩, ⟨A9, a9⟩⟩ ⟨hq8, hq9⟩
  refine zN ?_
  refine qm ?_
  refine qx ?_
  refine qx ?_
  refine qx ?_
  iterate 3 refine qa ?_
  refine sn ?_
  refine K.seq ?_
  refine sr ?_
  refine qm ?_
  refine qp (K.Pure.eq (K.neq rfl rfl) (show _ = Value.bool false from congrArg Value.bool (by simp [hse2]))) ?_
  refine sn ?_
  refine K.cond_false rfl ?_
  refine K.skip ?_
  refine K.norm_then ?_
  refine K.seq ?_
  refine K.seq ?_
  refine K.weak (List.Sublist.cons _ (List.Sublist.cons_cons _ (List.Sublist.cons _ (List.Sublist.cons _ (List.Sublist.cons _ (List.Sublist.cons _ (List.Sublist.cons _ (List.Sublist.cons _ (List.Sublist.cons_cons _ (List.Sublist.cons _ (List.Sublist.cons _ (List.Sublist.cons_cons _ (List.Sublist.slnil))))))))))))) ?_
  refine K.region_lit ?_
  refine qa ?_
  refine sn ?_
  refine K.block ?_
  refine K.loopW [20] [6, 21, 129, 130, 131, 132, 133, 134, 135, 136, 137, 138, 139, 140, 141, 142, 143, 144, 145, 146, 147, 148, 149, 150, 151, 152, 153, 154, 155] (fun vi L => ∃ k : Nat, vi = [.int .i64 (k : Int)] ∧ L = [K.row (.slice A8 (sureL (withM m [(o : Int)]) s).length a8) 3 1 (sureL (withM m [(o : Int)]) s).length ((sureL (withM m [(o : Int)]) s).flatMap K.eI), K.row (.slice A3 (sureL m s).length a3) 3 1 (sureL m s).length ((sureL m s).flatMap K.eI), K.blk b3 26 [.int .i64 m.W, .int .i64 m.D, .slice A m.hs.length c, .slice B m.ps.length d, .slice C m.ss.length e]] ∧ k ≤ m.ps.length) (fun vi => m.ps.length - (intOf (K.nth vi 0)).toNat) ?_ ?_
  · exact ⟨0, rfl, rfl, Nat.zero_le _⟩
  intro vi vr L hJ
  obtain ⟨k, rfl, rfl, hkn⟩ := hJ
  try dsimp only [setd, setn, ev, nth, over, cl, eI, eP, eT, eN, eS, setM, setF, List.map, List.append, List.drop, List.take]
  refine K.seq ?_
  refine sr ?_
  refine qm ?_
  refine qp (K.fieldAddr_lit fo_26_3 rfl) ?_
  refine K.seq_sil (K.load1_own one_23 rfl (K.m2) rfl) rfl ?_
  refine zN ?_
  refine qp (K.len_sl sl_23 rfl) ?_
  refine qp (K.lss rfl rfl) ?_
  refine sn ?_
  refine K.cond rfl (fun ht133 => ?_) (fun ht133 => ?_)
  · try replace ht133 := of_decide_eq_true ht133
    have hkn2 : k < m.ps.length := by omega
    refine K.skip ?_
    refine K.norm_then ?_
    refine K.seq ?_
    refine K.block ?_
    refine sr ?_
    refine qm ?_
    refine qa ?_
    refine sn ?_
    refine K.seq ?_
    refine sr ?_
    iterate 2 refine qm ?_
    refine qp (K.gtr rfl rfl) ?_
    refine sn ?_
    refine K.cond rfl (fun ht139 => ?_) (fun ht139 => ?_)
    · try replace ht139 := of_decide_eq_true ht139
      have hnow : ((nowI o k : Nat) : Int) = (k : Int) - 1 := by unfold nowI; rw [if_pos (by omega)]; omega
      refine K.region_lit ?_
      refine qm ?_
      refine qp (K.sub_i64 rfl rfl (by omega)) ?_
      refine qa ?_
      refine sn ?_
      refine sr ?_
      iterate 2 refine qm ?_
      refine qp (K.neq rfl rfl) ?_
      refine qm ?_
      refine K.split 145 rfl (fun hg145 => ?_) (fun hg145 => ?_)
      · try replace hg145 := of_decide_eq_true hg145
        iterate 2 refine qm ?_
        refine K.seq_call (K.call_g cal_42 (fun F w hF hw => (by have hh := (K.Rd.own (e := K.eI) (xs := (sureL m s)) hw (hF _ (K.m1)) hq3 (fun _ => rfl) (by decide)); exact c42 (c := a3) (xs := (sureL m s)) hh hl3))) rfl ?_
        refine zN ?_
        refine qp (K.pick_t rfl) ?_
        refine qm ?_
        refine K.split 150 rfl (fun hg150 => ?_) (fun hg150 => ?_)
        · try replace hg150 := of_decide_eq_true hg150
          have hal := alone_less hc hs ho hkn2 (by omega) hg150
          rw [hnow] at hal
          iterate 2 refine qm ?_
          refine K.seq_call (K.call_g cal_42 (fun F w hF hw => (by have hh := (K.Rd.own (e := K.eI) (xs := (sureL (withM m [(o : Int)]) s)) hw (hF _ (K.m0)) hq8 (fun _ => rfl) (by decide)); exact c42 (c := a8) (xs := (sureL (withM m [(o : Int)]) s)) hh hl8))) rfl ?_
          refine zN ?_
          first | refine K.seq_pure (K.Pure.eq (K.not_d rfl) (show _ = Value.bool false from by rw [decide_eq_true hal]; rfl)) rfl ?_ | refine K.seq_pure (K.Pure.eq (K.not_ rfl) (show _ = Value.bool false from by rw [decide_eq_true hal]; rfl)) rfl ?_
          refine zN ?_
          refine qp (K.pick_t rfl) ?_
          refine sn ?_
          refine K.cond_false rfl ?_
          refine K.skip ?_
          refine K.norm_block ?_
          refine K.norm_then ?_
          refine K.region_lit ?_
          refine qm ?_
          refine qp (K.add_i64 rfl rfl (by omega)) ?_
          refine qa ?_
          refine K.seq_nil ?_
          exact K.round_endW (L'' := [K.row (.slice A8 (sureL (withM m [(o : Int)]) s).length a8) 3 1 (sureL (withM m [(o : Int)]) s).length ((sureL (withM m [(o : Int)]) s).flatMap K.eI), K.row (.slice A3 (sureL m s).length a3) 3 1 (sureL m s).length ((sureL m s).flatMap K.eI), K.blk b3 26 [.int .i64 m.W, .int .i64 m.D, .slice A m.hs.length c, .slice B m.ps.length d, .slice C m.ss.length e]]) [.int .i64 ((k : Int) + 1)] ⟨k + 1, rfl, rfl, by omega⟩ (by simp [K.nth, intOf]; omega) (List.Sublist.refl _) (by kernel_rfl)
        try replace hg150 := of_decide_eq_false hg150
        iterate 4 refine qs ?_
        refine qp (K.pick_f rfl) ?_
        refine sn ?_
        refine K.cond_false rfl ?_
        refine K.skip ?_
        refine K.norm_block ?_
        refine K.norm_then ?_
        refine K.region_lit ?_
        refine qm ?_
        refine qp (K.add_i64 rfl rfl (by omega)) ?_
        refine qa ?_
        refine K.seq_nil ?_
        exact K.round_endW (L'' := [K.row (.slice A8 (sureL (withM m [(o : Int)]) s).length a8) 3 1 (sureL (withM m [(o : Int)]) s).length ((sureL (withM m [(o : Int)]) s).flatMap K.eI), K.row (.slice A3 (sureL m s).length a3) 3 1 (sureL m s).length ((sureL m s).flatMap K.eI), K.blk b3 26 [.int .i64 m.W, .int .i64 m.D, .slice A m.hs.length c, .slice B m.ps.length d, .slice C m.ss.length e]]) [.int .i64 ((k : Int) + 1)] ⟨k + 1, rfl, rfl, by omega⟩ (by simp [K.nth, intOf]; omega) (List.Sublist.refl _) (by kernel_rfl)
      try replace hg145 := of_decide_eq_false hg145
      iterate 3 refine qs ?_
      refine qp (K.pick_f rfl) ?_
      refine qm ?_
      iterate 4 refine qs ?_
      refine qp (K.pick_f rfl) ?_
      refine sn ?_
      refine K.cond_false rfl ?_
      refine K.skip ?_
      refine K.norm_block ?_
      refine K.norm_then ?_
      refine K.region_lit ?_
      refine qm ?_
      refine qp (K.add_i64 rfl rfl (by omega)) ?_
      refine qa ?_
      refine K.seq_nil ?_
      exact K.round_endW (L'' := [K.row (.slice A8 (sureL (withM m [(o : Int)]) s).length a8) 3 1 (sureL (withM m [(o : Int)]) s).length ((sureL (withM m [(o : Int)]) s).flatMap K.eI), K.row (.slice A3 (sureL m s).length a3) 3 1 (sureL m s).length ((sureL m s).flatMap K.eI), K.blk b3 26 [.int .i64 m.W, .int .i64 m.D, .slice A m.hs.length c, .slice B m.ps.length d, .slice C m.ss.length e]]) [.int .i64 ((k : Int) + 1)] ⟨k + 1, rfl, rfl, by omega⟩ (by simp [K.nth, intOf]; omega) (List.Sublist.refl _) (by kernel_rfl)
    try replace ht139 := of_decide_eq_false ht139
    have hnow : ((nowI o k : Nat) : Int) = (k : Int) := by unfold nowI; rw [if_neg (by omega)]
    refine K.skip ?_
    refine K.norm_then ?_
    refine sr ?_
    iterate 2 refine qm ?_
    refine qp (K.neq rfl rfl) ?_
    refine qm ?_
    refine K.split 145 rfl (fun hg145 => ?_) (fun hg145 => ?_)
    · try replace hg145 := of_decide_eq_true hg145
      iterate 2 refine qm ?_
      refine K.seq_call (K.call_g cal_42 (fun F w hF hw => (by have hh := (K.Rd.own (e := K.eI) (xs := (sureL m s)) hw (hF _ (K.m1)) hq3 (fun _ => rfl) (by decide)); exact c42 (c := a3) (xs := (sureL m s)) hh hl3))) rfl ?_
      refine zN ?_
      refine qp (K.pick_t rfl) ?_
      refine qm ?_
      refine K.split 150 rfl (fun hg150 => ?_) (fun hg150 => ?_)
      · try replace hg150 := of_decide_eq_true hg150
        have hal := alone_less hc hs ho hkn2 (by omega) hg150
        rw [hnow] at hal
        iterate 2 refine qm ?_
        refine K.seq_call (K.call_g cal_42 (fun F w hF hw => (by have hh := (K.Rd.own (e := K.eI) (xs := (sureL (withM m [(o : Int)]) s)) hw (hF _ (K.m0)) hq8 (fun _ => rfl) (by decide)); exact c42 (c := a8) (xs := (sureL (withM m [(o : Int)]) s)) hh hl8))) rfl ?_
        refine zN ?_
        first | refine K.seq_pure (K.Pure.eq (K.not_d rfl) (show _ = Value.bool false from by rw [decide_eq_true hal]; rfl)) rfl ?_ | refine K.seq_pure (K.Pure.eq (K.not_ rfl) (show _ = Value.bool false from by rw [decide_eq_true hal]; rfl)) rfl ?_
        refine zN ?_
        refine qp (K.pick_t rfl) ?_
        refine sn ?_
        refine K.cond_false rfl ?_
        refine K.skip ?_
        refine K.norm_block ?_
        refine K.norm_then ?_
        refine K.region_lit ?_
        refine qm ?_
        refine qp (K.add_i64 rfl rfl (by omega)) ?_
        refine qa ?_
        refine K.seq_nil ?_
        exact K.round_endW (L'' := [K.row (.slice A8 (sureL (withM m [(o : Int)]) s).length a8) 3 1 (sureL (withM m [(o : Int)]) s).length ((sureL (withM m [(o : Int)]) s).flatMap K.eI), K.row (.slice A3 (sureL m s).length a3) 3 1 (sureL m s).length ((sureL m s).flatMap K.eI), K.blk b3 26 [.int .i64 m.W, .int .i64 m.D, .slice A m.hs.length c, .slice B m.ps.length d, .slice C m.ss.length e]]) [.int .i64 ((k : Int) + 1)] ⟨k + 1, rfl, rfl, by omega⟩ (by simp [K.nth, intOf]; omega) (List.Sublist.refl _) (by kernel_rfl)
      try replace hg150 := of_decide_eq_false hg150
      iterate 4 refine qs ?_
      refine qp (K.pick_f rfl) ?_
      refine sn ?_
      refine K.cond_false rfl ?_
      refine K.skip ?_
      refine K.norm_block ?_
      refine K.norm_then ?_
      refine K.region_lit ?_
      refine qm ?_
      refine qp (K.add_i64 rfl rfl (by omega)) ?_
      refine qa ?_
      refine K.seq_nil ?_
      exact K.round_endW (L'' := [K.row (.slice A8 (sureL (withM m [(o : Int)]) s).length a8) 3 1 (sureL (withM m [(o : Int)]) s).length ((sureL (withM m [(o : Int)]) s).flatMap K.eI), K.row (.slice A3 (sureL m s).length a3) 3 1 (sureL m s).length ((sureL m s).flatMap K.eI), K.blk b3 26 [.int .i64 m.W, .int .i64 m.D, .slice A m.hs.length c, .slice B m.ps.length d, .slice C m.ss.length e]]) [.int .i64 ((k : Int) + 1)] ⟨k + 1, rfl, rfl, by omega⟩ (by simp [K.nth, intOf]; omega) (List.Sublist.refl _) (by kernel_rfl)
    try replace hg145 := of_decide_eq_false hg145
    iterate 3 refine qs ?_
    refine qp (K.pick_f rfl) ?_
    refine qm ?_
    iterate 4 refine qs ?_
    refine qp (K.pick_f rfl) ?_
    refine sn ?_
    refine K.cond_false rfl ?_
    refine K.skip ?_
    refine K.norm_block ?_
    refine K.norm_then ?_
    refine K.region_lit ?_
    refine qm ?_
    refine qp (K.add_i64 rfl rfl (by omega)) ?_
    refine qa ?_
    refine K.seq_nil ?_
    exact K.round_endW (L'' := [K.row (.slice A8 (sureL (withM m [(o : Int)]) s).length a8) 3 1 (sureL (withM m [(o : Int)]) s).length ((sureL (withM m [(o : Int)]) s).flatMap K.eI), K.row (.slice A3 (sureL m s).length a3) 3 1 (sureL m s).length ((sureL m s).flatMap K.eI), K.blk b3 26 [.int .i64 m.W, .int .i64 m.D, .slice A m.hs.length c, .slice B m.ps.length d, .slice C m.ss.length e]]) [.int .i64 ((k : Int) + 1)] ⟨k + 1, rfl, rfl, by omega⟩ (by simp [K.nth, intOf]; omega) (List.Sublist.refl _) (by kernel_rfl)
  try replace ht133 := of_decide_eq_false ht133
  refine K.exit ?_
  refine K.exit_then ?_
  refine K.exit_then ?_
  refine K.exit_here ?_
  refine K.norm_then ?_
  refine sr ?_
  refine K.seq_call (K.call_g cal_25 (fun F w hF hw => c25 (hT.pass hw))) rfl ?_
  refine zN ?_
  refine qa ?_
  refine sn ?_
  refine K.ret ?_
  refine K.end_ret (fun w _ => K.res_tmp rfl w) ?_
  exact K.gives rfl

theorem c10 {m : Mod} {A B C : Option Addr} {c d e : Nat} {x0 x1 x2 mo : Int} {w : World} (hH : K.Rd w A 1 K.eI m.hs) (hP : K.Rd w B 5 eN m.ps) (hS : K.Rd w C 4 eS m.ss) (hn : m.hs.length ≤ 4611686018427387904) (hm : m.ps.length ≤ 4611686018427387904) (hk : m.ss.length ≤ 4611686018427387904) (hcd : m.ps.length ≤ d) (hT : Tab w) (hx0 : 0 ≤ x0 ∧ x0 ≤ 255) (hx1 : 0 ≤ x1 ∧ x1 ≤ 255) (hx2 : 0 ≤ x2 ∧ x2 ≤ 255) (hmo : 0 ≤ mo ∧ mo ≤ 65535) : Calls Tryd.prog 10 [.agg #[.int .i64 m.W, .int .i64 m.D, .slice A m.hs.length c, .slice B m.ps.length d, .slice C m.ss.length e], .agg #[.int .u8 x0, .int .u8 x1, .int .u8 x2], .int .u16 mo].toArray w (K.Gives (.bool true) w) := by
  by_cases hc : (chk m).2.2 = 0
  · by_cases hs : m.ss.length = 0
    · exact e10b hH hP hS hn hm hk hcd hT hc hs
    · by_cases hp : m.ps.length < 2
      · exact e10c hH hP hS hn hm hk hcd hT hc hs hp
      · obtain ⟨s, hse⟩ := Int.eq_ofNat_of_zero_le (Int.emod_nonneg x0 (b := (m.ss.length : Int)) (by omega))
        obtain ⟨p, hpe⟩ := Int.eq_ofNat_of_zero_le (Int.emod_nonneg x1 (b := (m.ps.length : Int)) (by omega))
        obtain ⟨o, hoe⟩ := Int.eq_ofNat_of_zero_le (Int.emod_nonneg x2 (b := (m.ps.length : Int)) (by omega))
        have hsl := Int.emod_lt_of_pos x0 (b := (m.ss.length : Int)) (by omega)
        have hpl := Int.emod_lt_of_pos x1 (b := (m.ps.length : Int)) (by omega)
        have hol := Int.emod_lt_of_pos x2 (b := (m.ps.length : Int)) (by omega)
        exact g10 hH hP hS hn hm hk hcd hT hx0 hx1 hx2 hmo hse hpe hoe (by omega) (by omega) (by omega) (by omega) rfl hc
  · exact e10a hH hP hS hn hm hk hcd hT hc


end Go.Proofs.YthkgnhcknkjgdaaDoor
