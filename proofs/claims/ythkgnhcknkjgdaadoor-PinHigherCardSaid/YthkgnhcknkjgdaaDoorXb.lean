/-
  Walks of the program's functions, printed by program: what each returns.
  Conditions stand in each theorem.
-/
import Derived.WalkArith
import Derived.Laws.Closers25b
import Derived.Test.YthkgnhcknkjgdaaDoorS7
import Derived.Test.YthkgnhcknkjgdaaDoorK9
import Derived.Test.YthkgnhcknkjgdaaDoorWx
set_option linter.unusedSimpArgs false
set_option linter.unusedVariables false
namespace Go.Proofs.YthkgnhcknkjgdaaDoor
open Go.RowKit Go
open Go.K (setd setn ev nth over cl eI eP eT setM setF)
attribute [local irreducible] K.blk K.row

theorem bo_4 : K.boT Tryd.prog 4 = true := by kernel_rfl

set_option maxRecDepth 100000 in
theorem c42 {A : Option Addr} {c : Nat} {xs : List Int} {n : Int} {w : World} (hX : K.Rd w A 1 K.eI xs) (hn : xs.length ≤ 1000000) :
    Calls Tryd.prog 42 [.slice A xs.length c, .int .i64 n].toArray w (K.Gives (.bool (decide (n ∈ xs))) w) := by
  refine K.enter (args := [.slice A xs.length c, .int .i64 n]) Tryd.func42 rfl (n := 16) rfl ?_
  simp only [List.replicate, List.cons_append, List.nil_append]
  refine sr ?_
  refine qa ?_
  refine sn ?_
  refine K.seq ?_
  refine sr ?_
  refine qa ?_
  refine sn ?_
  refine K.block ?_
  refine K.loopW [5] [4, 6, 7, 8, 9, 10, 11, 12, 13, 14, 15, 16, 17] (fun vi L => ∃ k : Nat, vi = [.int .i64 (k : Int)] ∧ L = [] ∧ k ≤ xs.length ∧ ∀ j, j < k → xs.getD j default ≠ n) (fun vi => xs.length - (intOf (K.nth vi 0)).toNat) ?_ ?_
  · exact ⟨0, rfl, rfl, Nat.zero_le _, fun j hj => absurd hj (Nat.not_lt_zero j)⟩
  intro vi vr L hJ
  obtain ⟨k, rfl, rfl, hkn, hall⟩ := hJ
  try dsimp only [setd, setn, ev, nth, over, cl, eI, eP, eT, eN, eS, setM, setF, List.map, List.append, List.drop, List.take]
  refine K.seq ?_
  refine sr ?_
  iterate 2 refine qm ?_
  refine qp (K.len_sl sl_22 rfl) ?_
  refine qp (K.lss rfl rfl) ?_
  refine sn ?_
  refine K.cond rfl (fun ht9 => ?_) (fun ht9 => ?_)
  · try replace ht9 := of_decide_eq_true ht9
    have hk : k < xs.length := by omega
    refine K.skip ?_
    refine K.norm_then ?_
    refine K.seq ?_
    refine K.block ?_
    refine sr ?_
    iterate 2 refine qm ?_
    refine K.seq_ix (M := []) _ hX.sl sl_22 rfl rfl rfl (by omega) rfl ?_
    intro p14 hp14
    refine zN ?_
    refine K.seq_sil (K.load1 one_3 rfl (hp14.any)) rfl ?_
    refine zN ?_
    refine qm ?_
    refine qp (K.eql rfl rfl) ?_
    refine sn ?_
    refine K.cond rfl (fun ht17 => ?_) (fun ht17 => ?_)
    · try replace ht17 := of_decide_eq_true ht17
      refine sr ?_
      refine qa ?_
      refine sn ?_
      refine K.ret ?_
      refine K.ret_block ?_
      refine K.ret_then ?_
      refine K.ret_then ?_
      refine K.ret_block ?_
      refine K.ret_then ?_
      refine K.end_ret (fun w _ => K.res_tmp rfl w) ?_
      have hin : n ∈ xs := by rw [← ht17]; exact K.gt_mem hk
      exact K.gives (by rw [decide_eq_true hin]; rfl)
    try replace ht17 := of_decide_eq_false ht17
    refine K.skip ?_
    refine K.norm_block ?_
    refine K.norm_then ?_
    refine K.region_lit ?_
    refine qm ?_
    refine qp (K.add_i64 rfl rfl (by omega)) ?_
    refine qa ?_
    refine K.seq_nil ?_
    exact K.round_endW (L'' := []) [.int .i64 ((k : Int) + 1)] ⟨k + 1, rfl, rfl, hk, fun j hj => by rcases Nat.lt_or_ge j k with h | h; exact hall j h; rw [show j = k by omega]; exact ht17⟩ (by simp [K.nth, intOf]; omega) (by repeat (first | exact List.Sublist.refl _ | apply List.Sublist.cons)) (by kernel_rfl)
  try replace ht9 := of_decide_eq_false ht9
  refine K.exit ?_
  refine K.exit_then ?_
  refine K.exit_then ?_
  refine K.exit_here ?_
  refine K.norm_then ?_
  refine sr ?_
  refine qa ?_
  refine sn ?_
  refine K.ret ?_
  refine K.end_ret (fun w _ => K.res_tmp rfl w) ?_
  have hno : n ∉ xs := mem_of_none (fun j hj => hall j (by omega))
  exact K.gives (by rw [decide_eq_false hno]; rfl)

set_option maxRecDepth 100000 in
set_option maxHeartbeats 2000000 in
theorem g8a {m : Mod} {A B C : Option Addr} {c d e : Nat} {x0 x1 e0 e1 a b : Int} {s p : Nat} {w : World} (hH : K.Rd w A 1 K.eI m.hs) (hP : K.Rd w B 5 eN m.ps) (hS : K.Rd w C 4 eS m.ss) (hn : m.hs.length ≤ 4611686018427387904) (hm : m.ps.length ≤ 4611686018427387904) (hk : m.ss.length ≤ 4611686018427387904) (hcd : m.ps.length ≤ d) (hT : Tab w) (hx0 : 0 ≤ x0 ∧ x0 ≤ 255) (hx1 : 0 ≤ x1 ∧ x1 ≤ 255) (he0 : 0 ≤ e0 ∧ e0 ≤ 65535) (he1 : 0 ≤ e1 ∧ e1 ≤ 65535) (hse : x0 % (m.ss.length : Int) = s) (hpe : x1 % (m.ps.length : Int) = p) (hae : e0 % 2001 = a) (hbe : e1 % 2001 = b) (K8 : SP m s p) (hE : (EYE m s p) ≤ 2000) :
    Calls Tryd.prog 8 [.agg #[.int .i64 m.W, .int .i64 m.D, .slice A m.hs.length c, .slice B m.ps.length d, .slice C m.ss.length e], .agg #[.int .u8 x0, .int .u8 x1], .agg #[.int .u16 e0, .int .u16 e1]].toArray w (K.Gives (.bool true) w) := by
  have hv : (chk m).2.2 = 0 := K8.c
  have hsl := K8.s
  have hpl := K8.p
  have ha : 0 ≤ a ∧ a ≤ 2000 := by omega
  have hb : 0 ≤ b ∧ b ≤ 2000 := by omega
  have hh1 : hidE m s (min a b) p = 0 := K8.hid (by omega)
  have hh2 : hidE m s (max a b) p = 0 := K8.hid (by omega)
  have hln := K8.hid_len (lo := (min a b)) (hi := (max a b)) (by omega) (by omega) (by omega)
  have hR := K8.eye
  rw [if_neg (by omega)] at hR
  have hR1 : (eyeR m s p).1 = (EYE m s p) := by rw [hR]
  have hR2 : (eyeR m s p).2 = 0 := by rw [hR]
  have hse0 := K8.seenE
  have hlo := K8.lo
  have hw1 : decide ((p : Int) ∈ sureL m s) = decide ((m.ss.getD s default).lo ≥ (EYE m s p)) := decide_eq_decide.2 (K8.sure.trans (by omega))
  have hw2 : decide ((p : Int) ∈ mayL m s) = decide ((m.ss.getD s default).hi ≥ (EYE m s p)) := decide_eq_decide.2 (K8.may.trans (by omega))
  have hq1 : decide (((hidL m s (min a b) p).length : Int) = 0) = decide ((min a b) ≥ (EYE m s p)) := decide_eq_decide.2 (by rw [show (((hidL m s (min a b) p).length : Int) = 0) ↔ (hidL m s (min a b) p) = [] by rw [← List.length_eq_zero_iff, Int.natCast_eq_zero], K8.hid_nil (by omega)])
  have hq2 : decide (((hidL m s (max a b) p).length : Int) = 0) = decide ((max a b) ≥ (EYE m s p)) := decide_eq_decide.2 (by rw [show (((hidL m s (max a b) p).length : Int) = 0) ↔ (hidL m s (max a b) p) = [] by rw [← List.length_eq_zero_iff, Int.natCast_eq_zero], K8.hid_nil (by omega)])
  have hl2 := sure_len6 (m := m) (s := s)
  have hl3 := may_len6 (m := m) (s := s)
  refine K.enter (args := [.agg #[.int .i64 m.W, .int .i64 m.D, .slice A m.hs.length c, .slice B m.ps.length d, .slice C m.ss.length e], .agg #[.int .u8 x0, .int .u8 x1], .agg #[.int .u16 e0, .int .u16 e1]]) Tryd.func8 rfl (n := 179) rfl ?_
  simp only [List.replicate, List.cons_append, List.nil_append]
  refine sr ?_
  refine K.seq_new (K.box) rfl ?_
  intro b3
  refine zN ?_
  refine K.seq_new (K.box) rfl ?_
  intro b4
  refine zN ?_
  refine K.seq_new (K.box) rfl ?_
  intro b5
  refine zN ?_
  refine qa ?_
  refine sn ?_
  refine K.seq ?_
  refine sr ?_
  refine K.seq_sil (K.loadA_own ag_26 rfl (K.m2) rfl) rfl ?_
  refine zN ?_
  refine K.seq_call (K.call_g cal_37 (fun F w hF hw => c37 (hH.pass hw) (hP.pass hw) (hS.pass hw) hn hm hk)) rfl ?_
  refine zN ?_
  first | refine K.seq_pure (K.Pure.eq (K.not_d rfl) (show _ = Value.bool false from congrArg Value.bool (by simp [hv]))) rfl ?_ | refine K.seq_pure (K.Pure.eq (K.not_ rfl) (show _ = Value.bool false from congrArg Value.bool (by simp [hv]))) rfl ?_
  refine zN ?_
  refine qm ?_
  refine qp (K.fieldAddr_lit fo_26_4 rfl) ?_
  refine K.seq_sil (K.load1_own one_24 rfl (K.m2) rfl) rfl ?_
  refine zN ?_
  refine qp (K.len_sl sl_24 rfl) ?_
  refine qp (K.Pure.eq (K.eql rfl rfl) (show _ = Value.bool false from congrArg Value.bool (decide_eq_false (by omega)))) ?_
  refine qp (K.pick_f rfl) ?_
  refine qm ?_
  refine qp (K.fieldAddr_lit fo_26_3 rfl) ?_
  refine K.seq_sil (K.load1_own one_23 rfl (K.m2) rfl) rfl ?_
  refine zN ?_
  refine qp (K.len_sl sl_23 rfl) ?_
  refine qp (K.Pure.eq (K.eql rfl rfl) (show _ = Value.bool false from congrArg Value.bool (decide_eq_false (by omega)))) ?_
  refine qp (K.pick_f rfl) ?_
  refine sn ?_
  refine K.cond_false rfl ?_
  refine K.skip ?_
  refine K.norm_then ?_
  refine K.seq ?_
  refine K.draw_L [] Tryd_mixed ?_
  refine K.d_pure 0 rfl (K.indexAddr_ar ar_56 rfl rfl (by omega) (by omega)) (by kernel_rfl) rfl ?_
  refine zN ?_
  refine K.d_mem 1 rfl (K.load1_own one_5 rfl (K.m1) rfl) (fun _ h => h) (by kernel_rfl) (by kernel_rfl) rfl ?_
  refine zN ?_
  refine K.d_pure 2 rfl (K.Pure.eq (K.conv_int ik_5 ik_3 rfl) (show _ = Value.int .i64 x0 from by rw [IntWalk.i64_in _ (by omega)])) (by kernel_rfl) rfl ?_
  refine zN ?_
  refine K.d_pure 3 rfl (K.fieldAddr_lit fo_26_4 rfl) (by kernel_rfl) rfl ?_
  refine zn ?_
  refine K.d_mem 4 rfl (K.load1_own one_24 rfl (K.m2) rfl) (fun _ h => h) (by kernel_rfl) (by kernel_rfl) rfl ?_
  refine zN ?_
  refine K.d_pure 5 rfl (K.len_sl sl_24 rfl) (by kernel_rfl) rfl ?_
  refine zn ?_
  refine K.d_pure 6 rfl (K.Pure.eq (K.rem_i64 rfl rfl (by omega) (by omega)) (show _ = Value.int .i64 (s : Int) from by rw [hse])) (by kernel_rfl) rfl ?_
  refine zn ?_
  refine K.d_pure 7 rfl (K.indexAddr_ar ar_56 rfl rfl (by omega) (by omega)) (by kernel_rfl) rfl ?_
  refine zN ?_
  refine K.d_mem 8 rfl (K.load1_own one_5 rfl (K.m1) rfl) (fun _ h => h) (by kernel_rfl) (by kernel_rfl) rfl ?_
  refine zN ?_
  refine K.d_pure 9 rfl (K.Pure.eq (K.conv_int ik_5 ik_3 rfl) (show _ = Value.int .i64 x1 from by rw [IntWalk.i64_in _ (by omega)])) (by kernel_rfl) rfl ?_
  refine zN ?_
  refine K.d_pure 10 rfl (K.fieldAddr_lit fo_26_3 rfl) (by kernel_rfl) rfl ?_
  refine zn ?_
  refine K.d_mem 11 rfl (K.load1_own one_23 rfl (K.m2) rfl) (fun _ h => h) (by kernel_rfl) (by kernel_rfl) rfl ?_
  refine zN ?_
  refine K.d_pure 12 rfl (K.len_sl sl_23 rfl) (by kernel_rfl) rfl ?_
  refine zn ?_
  refine K.d_pure 13 rfl (K.Pure.eq (K.rem_i64 rfl rfl (by omega) (by omega)) (show _ = Value.int .i64 (p : Int) from by rw [hpe])) (by kernel_rfl) rfl ?_
  refine zn ?_
  refine K.d_pure 14 rfl (K.assign) (by kernel_rfl) rfl ?_
  refine zn ?_
  refine K.d_pure 15 rfl (K.assign) (by kernel_rfl) rfl ?_
  refine zn ?_
  refine K.d_done (by kernel_rfl) ?_
  refine K.norm_then ?_
  refine K.seq ?_
  refine K.draw_L [] Tryd_mixed ?_
  refine K.d_pure 0 rfl (K.indexAddr_ar ar_58 rfl rfl (by omega) (by omega)) (by kernel_rfl) rfl ?_
  refine zN ?_
  refine K.d_mem 1 rfl (K.load1_own one_57 rfl (K.m0) rfl) (fun _ h => h) (by kernel_rfl) (by kernel_rfl) rfl ?_
  refine zN ?_
  refine K.d_pure 2 rfl (K.Pure.eq (K.conv_int ik_57 ik_3 rfl) (show _ = Value.int .i64 e0 from by rw [IntWalk.i64_in _ (by omega)])) (by kernel_rfl) rfl ?_
  refine zN ?_
  refine K.d_pure 3 rfl (K.Pure.eq (K.rem_i64 rfl rfl (by omega) (by omega)) (show _ = Value.int .i64 a from by rw [hae])) (by kernel_rfl) rfl ?_
  refine zn ?_
  refine K.d_pure 4 rfl (K.indexAddr_ar ar_58 rfl rfl (by omega) (by omega)) (by kernel_rfl) rfl ?_
  refine zN ?_
  refine K.d_mem 5 rfl (K.load1_own one_57 rfl (K.m0) rfl) (fun _ h => h) (by kernel_rfl) (by kernel_rfl) rfl ?_
  refine zN ?_
  refine K.d_pure 6 rfl (K.Pure.eq (K.conv_int ik_57 ik_3 rfl) (show _ = Value.int .i64 e1 from by rw [IntWalk.i64_in _ (by omega)])) (by kernel_rfl) rfl ?_
  refine zN ?_
  refine K.d_pure 7 rfl (K.Pure.eq (K.rem_i64 rfl rfl (by omega) (by omega)) (show _ = Value.int .i64 b from by rw [hbe])) (by kernel_rfl) rfl ?_
  refine zn ?_
  refine K.d_pure 8 rfl (K.assign) (by kernel_rfl) rfl ?_
  refine zn ?_
  refine K.d_pure 9 rfl (K.assign) (by kernel_rfl) rfl ?_
  refine zn ?_
  refine K.d_done (by kernel_rfl) ?_
  refine K.norm_then ?_
  refine sr ?_
  iterate 2 refine qm ?_
  refine qp (K.min_int rfl rfl) ?_
  iterate 2 refine qm ?_
  refine qp (K.max_int rfl rfl) ?_
  iterate 2 refine qa ?_
  refine sn ?_
  refine sr ?_
  refine K.seq_sil (K.loadA_own ag_26 rfl (K.m2) rfl) rfl ?_
  refine zN ?_
  iterate 3 refine qm ?_
  refine K.seq_loud (K.call_f cal_18 (fun F w hF hw => c18 (hH.pass hw) (hP.pass hw) (hS.pass hw) hn hm hk hcd)) rfl ?_
  rintro ⟨A1, a1⟩ hq1_
  refine zN ?_
  refine qm ?_
  refine qx ?_
  refine qx ?_
  iterate 2 refine qa ?_
  refine sn ?_
  refine sr ?_
  refine K.seq_sil (K.loadA_own ag_26 rfl (K.m3) rfl) rfl ?_
  refine zN ?_
  iterate 3 refine qm ?_
  refine K.seq_loud (K.call_f cal_18 (fun F w hF hw => c18 (hH.pass hw) (hP.pass hw) (hS.pass hw) hn hm hk hcd)) rfl ?_
  rintro ⟨A2, a2⟩ hq2_
  refine zN ?_
  refine qm ?_
  refine qx ?_
  refine qx ?_
  iterate 2 refine qa ?_
  refine sn ?_
  refine sr ?_
  refine K.seq_sil (K.loadA_own ag_26 rfl (K.m4) rfl) rfl ?_
  refine zN ?_
  iterate 2 refine qm ?_
  refine K.seq_call (K.call_g cal_23 (fun F w hF hw => c23 (hH.pass hw) (hP.pass hw) (hS.pass hw) hn hm hk hcd)) rfl ?_
  refine zN ?_
  refine qm ?_
  refine qx ?_
  refine qx ?_
  iterate 2 refine qa ?_
  refine sn ?_
  refine K.seq ?_
  refine sr ?_
  refine qm ?_
  refine qp (K.Pure.eq (K.neq rfl rfl) (show _ = Value.bool false from congrArg Value.bool (by simp [hh1]))) ?_
  iterate 2 refine qm ?_
  refine qp (K.Pure.eq (K.neq rfl rfl) (show _ = Value.bool false from congrArg Value.bool (by simp [hh2]))) ?_
  refine qp (K.pick_f rfl) ?_
  iterate 2 refine qm ?_
  refine qp (K.Pure.eq (K.neq rfl rfl) (show _ = Value.bool false from congrArg Value.bool (by simp [hR2]))) ?_
  refine qm ?_
  iterate 2 refine qs ?_
  refine qp (K.pick_f rfl) ?_
  refine qp (K.pick_f rfl) ?_
  iterate 2 refine qm ?_
  refine qp (K.len_sl sl_22 rfl) ?_
  refine qm ?_
  refine qp (K.len_sl sl_22 rfl) ?_
  refine qp (K.Pure.eq (K.lss rfl rfl) (show _ = Value.bool false from congrArg Value.bool (decide_eq_false (by omega)))) ?_
  refine qp (K.pick_f rfl) ?_
  refine sn ?_
  refine K.cond_false rfl ?_
  refine K.skip ?_
  refine K.norm_then ?_
  refine K.seq ?_
  refine sr ?_
  refine qm ?_
  refine qp (K.Pure.eq (K.eql rfl rfl) (show _ = Value.bool false from congrArg Value.bool (by simp [hR2]))) ?_
  refine sn ?_
  refine K.cond_false rfl ?_
  refine K.skip ?_
  refine K.norm_then ?_
  refine sr ?_
  refine K.seq_sil (K.loadA_own ag_26 rfl (K.m4) rfl) rfl ?_
  refine zN ?_
  refine qm ?_
  refine K.seq_loud (K.call_f cal_21 (fun F w hF hw => c21 (hH.pass hw) (hP.pass hw) (hS.pass hw) hn hm hk hcd (hT.pass hw))) rfl ?_
  rintro ⟨⟨A3, a3⟩, ⟨A4, a4⟩⟩ ⟨hq3, hq4⟩
  refine zN ?_
  refine qm ?_
  refine qx ?_
  refine qx ?_
  refine qx ?_
  iterate 3 refine qa ?_
  refine sn ?_
  refine K.seq ?_
  refine K.seq ?_
  refine K.draw_L [] Tryd_mixed ?_
  refine K.d_pure 0 rfl (K.move) (by kernel_rfl) rfl ?_
  refine zn ?_
  refine K.d_pure 1 rfl (K.Pure.eq (K.neq rfl rfl) (show _ = Value.bool false from congrArg Value.bool (by simp [hse0]))) (by kernel_rfl) rfl ?_
  refine zn ?_
  refine K.d_pure 2 rfl (K.move) (by kernel_rfl) rfl ?_
  refine zn ?_
  refine K.d_pure 3 rfl (K.move) (by kernel_rfl) rfl ?_
  refine zn ?_
  refine K.d_pure 4 rfl (K.move) (by kernel_rfl) rfl ?_
  refine zn ?_
  refine K.d_pure 6 rfl (K.fieldAddr_lit fo_26_4 rfl) (by kernel_rfl) rfl ?_
  refine zn ?_
  refine K.d_mem 7 rfl (K.load1_own one_24 rfl (K.m6) rfl) (fun _ h => h) (by kernel_rfl) (by kernel_rfl) rfl ?_
  refine zN ?_
  refine K.d_pure 8 rfl (K.move) (by kernel_rfl) rfl ?_
  refine zn ?_
  refine K.d_ix (M := []) 9 _ rfl hS.sl sl_24 rfl rfl rfl (by omega) (by kernel_rfl) rfl ?_
  intro p127 hp127
  refine zN ?_
  refine K.d_pure 10 rfl (K.fieldAddr fo_63_2 rfl) (by kernel_rfl) rfl ?_
  refine zn ?_
  refine K.d_pure 11 rfl (K.fieldAddr fo_61_0 rfl) (by kernel_rfl) rfl ?_
  refine zn ?_
  refine K.d_mem 12 rfl (K.load1 one_3 rfl ((K.PtrL.fld (K.PtrL.fld hp127 (k := 2)) (k := 0)).any)) (fun _ h => h) (by kernel_rfl) (by kernel_rfl) rfl ?_
  refine zN ?_
  refine K.d_pure 13 rfl (K.move) (by kernel_rfl) rfl ?_
  refine zn ?_
  refine K.d_pure 14 rfl (K.Pure.eq (K.geq rfl rfl) (show _ = Value.bool (decide ((m.ss.getD s default).lo ≥ (EYE m s p))) from by first | rfl | (simp only [hR1]))) (by kernel_rfl) rfl ?_
  refine zn ?_
  refine K.d_call 5 rfl (K.call_g cal_42 (fun F w hF hw => (by have hA := (K.Rd.own (e := K.eI) hw (hF _ (K.m1)) hq3 (fun _ => rfl) (by decide)); exact c42 (xs := (sureL m s)) hA hl2))) (fun _ h => h) (by kernel_rfl) rfl ?_
  refine zN ?_
  refine K.d_pure 15 rfl (K.Pure.eq (K.neq_bb bo_4 rfl rfl) (show _ = Value.bool false from congrArg Value.bool (by rw [hw1]; exact bne_self_eq_false _))) (by kernel_rfl) rfl ?_
  refine zn ?_
  refine K.d_pure 16 rfl (K.pick_f rfl) (by kernel_rfl) rfl ?_
  refine zn ?_
  refine K.d_pure 17 rfl (K.move) (by kernel_rfl) rfl ?_
  refine zn ?_
  refine K.d_pure 18 rfl (K.move) (by kernel_rfl) rfl ?_
  refine zn ?_
  refine K.d_pure 19 rfl (K.move) (by kernel_rfl) rfl ?_
  refine zn ?_
  refine K.d_pure 21 rfl (K.fieldAddr_lit fo_26_4 rfl) (by kernel_rfl) rfl ?_
  refine zn ?_
  refine K.d_mem 22 rfl (K.load1_own one_24 rfl (K.m6) rfl) (fun _ h => h) (by kernel_rfl) (by kernel_rfl) rfl ?_
  refine zN ?_
  refine K.d_pure 23 rfl (K.move) (by kernel_rfl) rfl ?_
  refine zn ?_
  refine K.d_ix (M := []) 24 _ rfl hS.sl sl_24 rfl rfl rfl (by omega) (by kernel_rfl) rfl ?_
  intro p142 hp142
  refine zN ?_
  refine K.d_pure 25 rfl (K.fieldAddr fo_63_2 rfl) (by kernel_rfl) rfl ?_
  refine zn ?_
  refine K.d_pure 26 rfl (K.fieldAddr fo_61_1 rfl) (by kernel_rfl) rfl ?_
  refine zn ?_
  refine K.d_mem 27 rfl (K.load1 one_3 rfl ((K.PtrL.fld (K.PtrL.fld hp142 (k := 2)) (k := 1)).any)) (fun _ h => h) (by kernel_rfl) (by kernel_rfl) rfl ?_
  refine zN ?_
  refine K.d_pure 28 rfl (K.move) (by kernel_rfl) rfl ?_
  refine zn ?_
  refine K.d_pure 29 rfl (K.Pure.eq (K.geq rfl rfl) (show _ = Value.bool (decide ((m.ss.getD s default).hi ≥ (EYE m s p))) from by first | rfl | (simp only [hR1]))) (by kernel_rfl) rfl ?_
  refine zn ?_
  refine K.d_call 20 rfl (K.call_g cal_42 (fun F w hF hw => (by have hA := (K.Rd.own (e := K.eI) hw (hF _ (K.m0)) hq4 (fun _ => rfl) (by decide)); exact c42 (xs := (mayL m s)) hA hl3))) (fun _ h => h) (by kernel_rfl) rfl ?_
  refine zN ?_
  refine K.d_pure 30 rfl (K.Pure.eq (K.neq_bb bo_4 rfl rfl) (show _ = Value.bool false from congrArg Value.bool (by rw [hw2]; exact bne_self_eq_false _))) (by kernel_rfl) rfl ?_
  refine zn ?_
  refine K.d_pure 31 rfl (K.pick_f rfl) (by kernel_rfl) rfl ?_
  refine zn ?_
  refine K.d_done (by kernel_rfl) ?_
  refine K.norm_then ?_
  refine K.cond_false rfl ?_
  refine K.skip ?_
  refine K.norm_then ?_
  refine K.seq ?_
  refine sr ?_
  refine qa ?_
  refine sn ?_
  refine K.block ?_
  refine K.loopW [20] [6, 150, 151, 152, 153, 154, 155, 156, 157, 158, 159, 160, 161, 162] (fun vi L => ∃ k : Nat, vi = [.int .i64 (k : Int)] ∧ L = [K.row (.slice A4 (mayL m s).length a4) 3 1 (mayL m s).length ((mayL m s).flatMap K.eI), K.row (.slice A3 (sureL m s).length a3) 3 1 (sureL m s).length ((sureL m s).flatMap K.eI), K.row (.slice A2 (hidL m s (max a b) p).length a2) 3 1 (hidL m s (max a b) p).length ((hidL m s (max a b) p).flatMap K.eI), K.row (.slice A1 (hidL m s (min a b) p).length a1) 3 1 (hidL m s (min a b) p).length ((hidL m s (min a b) p).flatMap K.eI), K.blk b5 58 [.int .u16 e0, .int .u16 e1], K.blk b4 56 [.int .u8 x0, .int .u8 x1], K.blk b3 26 [.int .i64 m.W, .int .i64 m.D, .slice A m.hs.length c, .slice B m.ps.length d, .slice C m.ss.length e]] ∧ k ≤ (sureL m s).length) (fun vi => (sureL m s).length - (intOf (K.nth vi 0)).toNat) ?_ ?_
  · exact ⟨0, rfl, rfl, Nat.zero_le _⟩
  intro vi vr L hJ
  obtain ⟨k, rfl, rfl, hkn⟩ := hJ
  try dsimp only [setd, setn, ev, nth, over, cl, eI, eP, eT, eN, eS, setM, setF, List.map, List.append, List.drop, List.take]
  refine K.seq ?_
  refine sr ?_
  iterate 2 refine qm ?_
  refine qp (K.len_sl sl_22 rfl) ?_
  refine qp (K.lss rfl rfl) ?_
  refine sn ?_
  refine K.cond rfl (fun ht153 => ?_) (fun ht153 => ?_)
  · try replace ht153 := of_decide_eq_true ht153
    have hk2 : k < (sureL m s).length := by omega
    refine K.skip ?_
    refine K.norm_then ?_
    refine K.seq ?_
    refine K.block ?_
    refine sr ?_
    iterate 3 refine qm ?_
    refine K.seq_ix (M := [K.row (.slice A3 (sureL m s).length a3) 3 1 (sureL m s).length ((sureL m s).flatMap K.eI)]) _ (K.Sl.own (w0 := w) (t := 3) (c := a3) (e := K.eI) hq3 (fun _ => rfl)) sl_22 rfl rfl rfl (by omega) rfl ?_
    intro p159 hp159
    refine zN ?_
    refine K.seq_sil (K.load1 one_3 rfl (hp159.at1 (K.m1))) rfl ?_
    refine zN ?_
    refine K.seq_call (K.call_g cal_42 (fun F w hF hw => (by have hA := (K.Rd.own (e := K.eI) hw (hF _ (K.m0)) hq4 (fun _ => rfl) (by decide)); exact c42 (xs := (mayL m s)) hA hl3))) rfl ?_
    refine zN ?_
    first | refine K.seq_pure (K.Pure.eq (K.not_d rfl) (show _ = Value.bool false from by rw [decide_eq_true (sure_in hv hsl (K.gt_mem hk2))]; rfl)) rfl ?_ | refine K.seq_pure (K.Pure.eq (K.not_ rfl) (show _ = Value.bool false from by rw [decide_eq_true (sure_in hv hsl (K.gt_mem hk2))]; rfl)) rfl ?_
    refine zN ?_
    refine sn ?_
    refine K.cond_false rfl ?_
    refine K.skip ?_
    refine K.norm_block ?_
    refine K.norm_then ?_
    refine K.region_lit ?_
    refine qm ?_
    refine qp (K.add_i64 rfl rfl (by omega)) ?_
    refine qa ?_
    refine K.seq_nil ?_
    exact K.round_endW (L'' := [K.row (.slice A4 (mayL m s).length a4) 3 1 (mayL m s).length ((mayL m s).flatMap K.eI), K.row (.slice A3 (sureL m s).length a3) 3 1 (sureL m s).length ((sureL m s).flatMap K.eI), K.row (.slice A2 (hidL m s (max a b) p).length a2) 3 1 (hidL m s (max a b) p).length ((hidL m s (max a b) p).flatMap K.eI), K.row (.slice A1 (hidL m s (min a b) p).length a1) 3 1 (hidL m s (min a b) p).length ((hidL m s (min a b) p).flatMap K.eI), K.blk b5 58 [.int .u16 e0, .int .u16 e1], K.blk b4 56 [.int .u8 x0, .int .u8 x1], K.blk b3 26 [.int .i64 m.W, .int .i64 m.D, .slice A m.hs.length c, .slice B m.ps.length d, .slice C m.ss.length e]]) [.int .i64 ((k : Int) + 1)] ⟨k + 1, rfl, rfl, hk2⟩ (by simp [K.nth, intOf]; omega) (by repeat (first | exact List.Sublist.refl _ | apply List.Sublist.cons)) (by kernel_rfl)
  try replace ht153 := of_decide_eq_false ht153
  refine K.exit ?_
  refine K.exit_then ?_
  refine K.exit_then ?_
  refine K.exit_here ?_
  refine K.norm_then ?_
  refine sr ?_
  refine qm ?_
  refine qp (K.len_sl sl_22 rfl) ?_
  refine qp (K.eql rfl rfl) ?_
  iterate 2 refine qm ?_
  refine qp (K.geq rfl rfl) ?_
  refine qp (K.Pure.eq (K.eql_bb bo_4 rfl rfl) (show _ = Value.bool true from congrArg Value.bool (by first | (rw [hq1]; exact beq_self_eq_true _) | (simp only [hR1]; rw [hq1]; exact beq_self_eq_true _)))) ?_
  iterate 2 refine qm ?_
  refine qp (K.len_sl sl_22 rfl) ?_
  refine qp (K.eql rfl rfl) ?_
  iterate 2 refine qm ?_
  refine qp (K.geq rfl rfl) ?_
  refine qp (K.Pure.eq (K.eql_bb bo_4 rfl rfl) (show _ = Value.bool true from congrArg Value.bool (by first | (rw [hq2]; exact beq_self_eq_true _) | (simp only [hR1]; rw [hq2]; exact beq_self_eq_true _)))) ?_
  refine qp (K.pick_t rfl) ?_
  refine qm ?_
  refine K.seq_call (K.call_g cal_25 (fun F w hF hw => c25 (hT.pass hw))) rfl ?_
  refine zN ?_
  refine qp (K.pick_t rfl) ?_
  refine qa ?_
  refine sn ?_
  refine K.ret ?_
  refine K.end_ret (fun w _ => K.res_tmp rfl w) ?_
  exact K.gives rfl

set_option maxRecDepth 100000 in
set_option maxHeartbeats 2000000 in
theorem g8b {m : Mod} {A B C : Option Addr} {c d e : Nat} {x0 x1 e0 e1 a b : Int} {s p : Nat} {w : World} (hH : K.Rd w A 1 K.eI m.hs) (hP : K.Rd w B 5 eN m.ps) (hS : K.Rd w C 4 eS m.ss) (hn : m.hs.length ≤ 4611686018427387904) (hm : m.ps.length ≤ 4611686018427387904) (hk : m.ss.length ≤ 4611686018427387904) (hcd : m.ps.length ≤ d) (hT : Tab w) (hx0 : 0 ≤ x0 ∧ x0 ≤ 255) (hx1 : 0 ≤ x1 ∧ x1 ≤ 255) (he0 : 0 ≤ e0 ∧ e0 ≤ 65535) (he1 : 0 ≤ e1 ∧ e1 ≤ 65535) (hse : x0 % (m.ss.length : Int) = s) (hpe : x1 % (m.ps.length : Int) = p) (hae : e0 % 2001 = a) (hbe : e1 % 2001 = b) (K8 : SP m s p) (hE : (EYE m s p) > 2000) :
    Calls Tryd.prog 8 [.agg #[.int .i64 m.W, .int .i64 m.D, .slice A m.hs.length c, .slice B m.ps.length d, .slice C m.ss.length e], .agg #[.int .u8 x0, .int .u8 x1], .agg #[.int .u16 e0, .int .u16 e1]].toArray w (K.Gives (.bool true) w) := by
  have hv : (chk m).2.2 = 0 := K8.c
  have hsl := K8.s
  have hpl := K8.p
  have ha : 0 ≤ a ∧ a ≤ 2000 := by omega
  have hb : 0 ≤ b ∧ b ≤ 2000 := by omega
  have hh1 : hidE m s (min a b) p = 0 := K8.hid (by omega)
  have hh2 : hidE m s (max a b) p = 0 := K8.hid (by omega)
  have hln := K8.hid_len (lo := (min a b)) (hi := (max a b)) (by omega) (by omega) (by omega)
  have hR := K8.eye
  rw [if_pos (by omega)] at hR
  have hR1 : (eyeR m s p).1 = 0 := by rw [hR]
  have hR2 : (eyeR m s p).2 = 9 := by rw [hR]
  have hse0 := K8.seenE
  have hlo := K8.lo
  have hw1 : decide ((p : Int) ∈ sureL m s) = decide ((m.ss.getD s default).lo ≥ 2001) := decide_eq_decide.2 (K8.sure.trans (by omega))
  have hw2 : decide ((p : Int) ∈ mayL m s) = decide ((m.ss.getD s default).hi ≥ 2001) := decide_eq_decide.2 (K8.may.trans (by omega))
  have hq1 : decide (((hidL m s (min a b) p).length : Int) = 0) = decide ((min a b) ≥ 2001) := decide_eq_decide.2 (by rw [show (((hidL m s (min a b) p).length : Int) = 0) ↔ (hidL m s (min a b) p) = [] by rw [← List.length_eq_zero_iff, Int.natCast_eq_zero], K8.hid_nil (by omega)]; omega)
  have hq2 : decide (((hidL m s (max a b) p).length : Int) = 0) = decide ((max a b) ≥ 2001) := decide_eq_decide.2 (by rw [show (((hidL m s (max a b) p).length : Int) = 0) ↔ (hidL m s (max a b) p) = [] by rw [← List.length_eq_zero_iff, Int.natCast_eq_zero], K8.hid_nil (by omega)]; omega)
  have hl2 := sure_len6 (m := m) (s := s)
  have hl3 := may_len6 (m := m) (s := s)
  refine K.enter (args := [.agg #[.int .i64 m.W, .int .i64 m.D, .slice A m.hs.length c, .slice B m.ps.length d, .slice C m.ss.length e], .agg #[.int .u8 x0, .int .u8 x1], .agg #[.int .u16 e0, .int .u16 e1]]) Tryd.func8 rfl (n := 179) rfl ?_
  simp only [List.replicate, List.cons_append, List.nil_append]
  refine sr ?_
  refine K.seq_new (K.box) rfl ?_
  intro b3
  refine zN ?_
  refine K.seq_new (K.box) rfl ?_
  intro b4
  refine zN ?_
  refine K.seq_new (K.box) rfl ?_
  intro b5
  refine zN ?_
  refine qa ?_
  refine sn ?_
  refine K.seq ?_
  refine sr ?_
  refine K.seq_sil (K.loadA_own ag_26 rfl (K.m2) rfl) rfl ?_
  refine zN ?_
  refine K.seq_call (K.call_g cal_37 (fun F w hF hw => c37 (hH.pass hw) (hP.pass hw) (hS.pass hw) hn hm hk)) rfl ?_
  refine zN ?_
  first | refine K.seq_pure (K.Pure.eq (K.not_d rfl) (show _ = Value.bool false from congrArg Value.bool (by simp [hv]))) rfl ?_ | refine K.seq_pure (K.Pure.eq (K.not_ rfl) (show _ = Value.bool false from congrArg Value.bool (by simp [hv]))) rfl ?_
  refine zN ?_
  refine qm ?_
  refine qp (K.fieldAddr_lit fo_26_4 rfl) ?_
  refine K.seq_sil (K.load1_own one_24 rfl (K.m2) rfl) rfl ?_
  refine zN ?_
  refine qp (K.len_sl sl_24 rfl) ?_
  refine qp (K.Pure.eq (K.eql rfl rfl) (show _ = Value.bool false from congrArg Value.bool (decide_eq_false (by omega)))) ?_
  refine qp (K.pick_f rfl) ?_
  refine qm ?_
  refine qp (K.fieldAddr_lit fo_26_3 rfl) ?_
  refine K.seq_sil (K.load1_own one_23 rfl (K.m2) rfl) rfl ?_
  refine zN ?_
  refine qp (K.len_sl sl_23 rfl) ?_
  refine qp (K.Pure.eq (K.eql rfl rfl) (show _ = Value.bool false from congrArg Value.bool (decide_eq_false (by omega)))) ?_
  refine qp (K.pick_f rfl) ?_
  refine sn ?_
  refine K.cond_false rfl ?_
  refine K.skip ?_
  refine K.norm_then ?_
  refine K.seq ?_
  refine K.draw_L [] Tryd_mixed ?_
  refine K.d_pure 0 rfl (K.indexAddr_ar ar_56 rfl rfl (by omega) (by omega)) (by kernel_rfl) rfl ?_
  refine zN ?_
  refine K.d_mem 1 rfl (K.load1_own one_5 rfl (K.m1) rfl) (fun _ h => h) (by kernel_rfl) (by kernel_rfl) rfl ?_
  refine zN ?_
  refine K.d_pure 2 rfl (K.Pure.eq (K.conv_int ik_5 ik_3 rfl) (show _ = Value.int .i64 x0 from by rw [IntWalk.i64_in _ (by omega)])) (by kernel_rfl) rfl ?_
  refine zN ?_
  refine K.d_pure 3 rfl (K.fieldAddr_lit fo_26_4 rfl) (by kernel_rfl) rfl ?_
  refine zn ?_
  refine K.d_mem 4 rfl (K.load1_own one_24 rfl (K.m2) rfl) (fun _ h => h) (by kernel_rfl) (by kernel_rfl) rfl ?_
  refine zN ?_
  refine K.d_pure 5 rfl (K.len_sl sl_24 rfl) (by kernel_rfl) rfl ?_
  refine zn ?_
  refine K.d_pure 6 rfl (K.Pure.eq (K.rem_i64 rfl rfl (by omega) (by omega)) (show _ = Value.int .i64 (s : Int) from by rw [hse])) (by kernel_rfl) rfl ?_
  refine zn ?_
  refine K.d_pure 7 rfl (K.indexAddr_ar ar_56 rfl rfl (by omega) (by omega)) (by kernel_rfl) rfl ?_
  refine zN ?_
  refine K.d_mem 8 rfl (K.load1_own one_5 rfl (K.m1) rfl) (fun _ h => h) (by kernel_rfl) (by kernel_rfl) rfl ?_
  refine zN ?_
  refine K.d_pure 9 rfl (K.Pure.eq (K.conv_int ik_5 ik_3 rfl) (show _ = Value.int .i64 x1 from by rw [IntWalk.i64_in _ (by omega)])) (by kernel_rfl) rfl ?_
  refine zN ?_
  refine K.d_pure 10 rfl (K.fieldAddr_lit fo_26_3 rfl) (by kernel_rfl) rfl ?_
  refine zn ?_
  refine K.d_mem 11 rfl (K.load1_own one_23 rfl (K.m2) rfl) (fun _ h => h) (by kernel_rfl) (by kernel_rfl) rfl ?_
  refine zN ?_
  refine K.d_pure 12 rfl (K.len_sl sl_23 rfl) (by kernel_rfl) rfl ?_
  refine zn ?_
  refine K.d_pure 13 rfl (K.Pure.eq (K.rem_i64 rfl rfl (by omega) (by omega)) (show _ = Value.int .i64 (p : Int) from by rw [hpe])) (by kernel_rfl) rfl ?_
  refine zn ?_
  refine K.d_pure 14 rfl (K.assign) (by kernel_rfl) rfl ?_
  refine zn ?_
  refine K.d_pure 15 rfl (K.assign) (by kernel_rfl) rfl ?_
  refine zn ?_
  refine K.d_done (by kernel_rfl) ?_
  refine K.norm_then ?_
  refine K.seq ?_
  refine K.draw_L [] Tryd_mixed ?_
  refine K.d_pure 0 rfl (K.indexAddr_ar ar_58 rfl rfl (by omega) (by omega)) (by kernel_rfl) rfl ?_
  refine zN ?_
  refine K.d_mem 1 rfl (K.load1_own one_57 rfl (K.m0) rfl) (fun _ h => h) (by kernel_rfl) (by kernel_rfl) rfl ?_
  refine zN ?_
  refine K.d_pure 2 rfl (K.Pure.eq (K.conv_int ik_57 ik_3 rfl) (show _ = Value.int .i64 e0 from by rw [IntWalk.i64_in _ (by omega)])) (by kernel_rfl) rfl ?_
  refine zN ?_
  refine K.d_pure 3 rfl (K.Pure.eq (K.rem_i64 rfl rfl (by omega) (by omega)) (show _ = Value.int .i64 a from by rw [hae])) (by kernel_rfl) rfl ?_
  refine zn ?_
  refine K.d_pure 4 rfl (K.indexAddr_ar ar_58 rfl rfl (by omega) (by omega)) (by kernel_rfl) rfl ?_
  refine zN ?_
  refine K.d_mem 5 rfl (K.load1_own one_57 rfl (K.m0) rfl) (fun _ h => h) (by kernel_rfl) (by kernel_rfl) rfl ?_
  refine zN ?_
  refine K.d_pure 6 rfl (K.Pure.eq (K.conv_int ik_57 ik_3 rfl) (show _ = Value.int .i64 e1 from by rw [IntWalk.i64_in _ (by omega)])) (by kernel_rfl) rfl ?_
  refine zN ?_
  refine K.d_pure 7 rfl (K.Pure.eq (K.rem_i64 rfl rfl (by omega) (by omega)) (show _ = Value.int .i64 b from by rw [hbe])) (by kernel_rfl) rfl ?_
  refine zn ?_
  refine K.d_pure 8 rfl (K.assign) (by kernel_rfl) rfl ?_
  refine zn ?_
  refine K.d_pure 9 rfl (K.assign) (by kernel_rfl) rfl ?_
  refine zn ?_
  refine K.d_done (by kernel_rfl) ?_
  refine K.norm_then ?_
  refine sr ?_
  iterate 2 refine qm ?_
  refine qp (K.min_int rfl rfl) ?_
  iterate 2 refine qm ?_
  refine qp (K.max_int rfl rfl) ?_
  iterate 2 refine qa ?_
  refine sn ?_
  refine sr ?_
  refine K.seq_sil (K.loadA_own ag_26 rfl (K.m2) rfl) rfl ?_
  refine zN ?_
  iterate 3 refine qm ?_
  refine K.seq_loud (K.call_f cal_18 (fun F w hF hw => c18 (hH.pass hw) (hP.pass hw) (hS.pass hw) hn hm hk hcd)) rfl ?_
  rintro ⟨A1, a1⟩ hq1_
  refine zN ?_
  refine qm ?_
  refine qx ?_
  refine qx ?_
  iterate 2 refine qa ?_
  refine sn ?_
  refine sr ?_
  refine K.seq_sil (K.loadA_own ag_26 rfl (K.m3) rfl) rfl ?_
  refine zN ?_
  iterate 3 refine qm ?_
  refine K.seq_loud (K.call_f cal_18 (fun F w hF hw => c18 (hH.pass hw) (hP.pass hw) (hS.pass hw) hn hm hk hcd)) rfl ?_
  rintro ⟨A2, a2⟩ hq2_
  refine zN ?_
  refine qm ?_
  refine qx ?_
  refine qx ?_
  iterate 2 refine qa ?_
  refine sn ?_
  refine sr ?_
  refine K.seq_sil (K.loadA_own ag_26 rfl (K.m4) rfl) rfl ?_
  refine zN ?_
  iterate 2 refine qm ?_
  refine K.seq_call (K.call_g cal_23 (fun F w hF hw => c23 (hH.pass hw) (hP.pass hw) (hS.pass hw) hn hm hk hcd)) rfl ?_
  refine zN ?_
  refine qm ?_
  refine qx ?_
  refine qx ?_
  iterate 2 refine qa ?_
  refine sn ?_
  refine K.seq ?_
  refine sr ?_
  refine qm ?_
  refine qp (K.Pure.eq (K.neq rfl rfl) (show _ = Value.bool false from congrArg Value.bool (by simp [hh1]))) ?_
  iterate 2 refine qm ?_
  refine qp (K.Pure.eq (K.neq rfl rfl) (show _ = Value.bool false from congrArg Value.bool (by simp [hh2]))) ?_
  refine qp (K.pick_f rfl) ?_
  iterate 2 refine qm ?_
  refine qp (K.Pure.eq (K.neq rfl rfl) (show _ = Value.bool true from congrArg Value.bool (by simp [hR2]))) ?_
  iterate 2 refine qm ?_
  refine qp (K.Pure.eq (K.neq rfl rfl) (show _ = Value.bool false from congrArg Value.bool (by simp [hR2]))) ?_
  refine qp (K.pick_t rfl) ?_
  refine qp (K.pick_f rfl) ?_
  iterate 2 refine qm ?_
  refine qp (K.len_sl sl_22 rfl) ?_
  refine qm ?_
  refine qp (K.len_sl sl_22 rfl) ?_
  refine qp (K.Pure.eq (K.lss rfl rfl) (show _ = Value.bool false from congrArg Value.bool (decide_eq_false (by omega)))) ?_
  refine qp (K.pick_f rfl) ?_
  refine sn ?_
  refine K.cond_false rfl ?_
  refine K.skip ?_
  refine K.norm_then ?_
  refine K.seq ?_
  refine sr ?_
  refine qm ?_
  refine qp (K.Pure.eq (K.eql rfl rfl) (show _ = Value.bool true from congrArg Value.bool (by simp [hR2]))) ?_
  refine sn ?_
  refine K.cond_true rfl ?_
  refine K.region_lit ?_
  refine qa ?_
  refine sn ?_
  refine sr ?_
  refine K.seq_sil (K.loadA_own ag_26 rfl (K.m4) rfl) rfl ?_
  refine zN ?_
  refine qm ?_
  refine K.seq_loud (K.call_f cal_21 (fun F w hF hw => c21 (hH.pass hw) (hP.pass hw) (hS.pass hw) hn hm hk hcd (hT.pass hw))) rfl ?_
  rintro ⟨⟨A3, a3⟩, ⟨A4, a4⟩⟩ ⟨hq3, hq4⟩
  refine zN ?_
  refine qm ?_
  refine qx ?_
  refine qx ?_
  refine qx ?_
  iterate 3 refine qa ?_
  refine sn ?_
  refine K.seq ?_
  refine K.seq ?_
  refine K.draw_L [] Tryd_mixed ?_
  refine K.d_pure 0 rfl (K.move) (by kernel_rfl) rfl ?_
  refine zn ?_
  refine K.d_pure 1 rfl (K.Pure.eq (K.neq rfl rfl) (show _ = Value.bool false from congrArg Value.bool (by simp [hse0]))) (by kernel_rfl) rfl ?_
  refine zn ?_
  refine K.d_pure 2 rfl (K.move) (by kernel_rfl) rfl ?_
  refine zn ?_
  refine K.d_pure 3 rfl (K.move) (by kernel_rfl) rfl ?_
  refine zn ?_
  refine K.d_pure 4 rfl (K.move) (by kernel_rfl) rfl ?_
  refine zn ?_
  refine K.d_pure 6 rfl (K.fieldAddr_lit fo_26_4 rfl) (by kernel_rfl) rfl ?_
  refine zn ?_
  refine K.d_mem 7 rfl (K.load1_own one_24 rfl (K.m6) rfl) (fun _ h => h) (by kernel_rfl) (by kernel_rfl) rfl ?_
  refine zN ?_
  refine K.d_pure 8 rfl (K.move) (by kernel_rfl) rfl ?_
  refine zn ?_
  refine K.d_ix (M := []) 9 _ rfl hS.sl sl_24 rfl rfl rfl (by omega) (by kernel_rfl) rfl ?_
  intro p127 hp127
  refine zN ?_
  refine K.d_pure 10 rfl (K.fieldAddr fo_63_2 rfl) (by kernel_rfl) rfl ?_
  refine zn ?_
  refine K.d_pure 11 rfl (K.fieldAddr fo_61_0 rfl) (by kernel_rfl) rfl ?_
  refine zn ?_
  refine K.d_mem 12 rfl (K.load1 one_3 rfl ((K.PtrL.fld (K.PtrL.fld hp127 (k := 2)) (k := 0)).any)) (fun _ h => h) (by kernel_rfl) (by kernel_rfl) rfl ?_
  refine zN ?_
  refine K.d_pure 13 rfl (K.move) (by kernel_rfl) rfl ?_
  refine zn ?_
  refine K.d_pure 14 rfl (K.Pure.eq (K.geq rfl rfl) (show _ = Value.bool (decide ((m.ss.getD s default).lo ≥ 2001)) from by first | rfl | (simp only [hR1]))) (by kernel_rfl) rfl ?_
  refine zn ?_
  refine K.d_call 5 rfl (K.call_g cal_42 (fun F w hF hw => (by have hA := (K.Rd.own (e := K.eI) hw (hF _ (K.m1)) hq3 (fun _ => rfl) (by decide)); exact c42 (xs := (sureL m s)) hA hl2))) (fun _ h => h) (by kernel_rfl) rfl ?_
  refine zN ?_
  refine K.d_pure 15 rfl (K.Pure.eq (K.neq_bb bo_4 rfl rfl) (show _ = Value.bool false from congrArg Value.bool (by rw [hw1]; exact bne_self_eq_false _))) (by kernel_rfl) rfl ?_
  refine zn ?_
  refine K.d_pure 16 rfl (K.pick_f rfl) (by kernel_rfl) rfl ?_
  refine zn ?_
  refine K.d_pure 17 rfl (K.move) (by kernel_rfl) rfl ?_
  refine zn ?_
  refine K.d_pure 18 rfl (K.move) (by kernel_rfl) rfl ?_
  refine zn ?_
  refine K.d_pure 19 rfl (K.move) (by kernel_rfl) rfl ?_
  refine zn ?_
  refine K.d_pure 21 rfl (K.fieldAddr_lit fo_26_4 rfl) (by kernel_rfl) rfl ?_
  refine zn ?_
  refine K.d_mem 22 rfl (K.load1_own one_24 rfl (K.m6) rfl) (fun _ h => h) (by kernel_rfl) (by kernel_rfl) rfl ?_
  refine zN ?_
  refine K.d_pure 23 rfl (K.move) (by kernel_rfl) rfl ?_
  refine zn ?_
  refine K.d_ix (M := []) 24 _ rfl hS.sl sl_24 rfl rfl rfl (by omega) (by kernel_rfl) rfl ?_
  intro p142 hp142
  refine zN ?_
  refine K.d_pure 25 rfl (K.fieldAddr fo_63_2 rfl) (by kernel_rfl) rfl ?_
  refine zn ?_
  refine K.d_pure 26 rfl (K.fieldAddr fo_61_1 rfl) (by kernel_rfl) rfl ?_
  refine zn ?_
  refine K.d_mem 27 rfl (K.load1 one_3 rfl ((K.PtrL.fld (K.PtrL.fld hp142 (k := 2)) (k := 1)).any)) (fun _ h => h) (by kernel_rfl) (by kernel_rfl) rfl ?_
  refine zN ?_
  refine K.d_pure 28 rfl (K.move) (by kernel_rfl) rfl ?_
  refine zn ?_
  refine K.d_pure 29 rfl (K.Pure.eq (K.geq rfl rfl) (show _ = Value.bool (decide ((m.ss.getD s default).hi ≥ 2001)) from by first | rfl | (simp only [hR1]))) (by kernel_rfl) rfl ?_
  refine zn ?_
  refine K.d_call 20 rfl (K.call_g cal_42 (fun F w hF hw => (by have hA := (K.Rd.own (e := K.eI) hw (hF _ (K.m0)) hq4 (fun _ => rfl) (by decide)); exact c42 (xs := (mayL m s)) hA hl3))) (fun _ h => h) (by kernel_rfl) rfl ?_
  refine zN ?_
  refine K.d_pure 30 rfl (K.Pure.eq (K.neq_bb bo_4 rfl rfl) (show _ = Value.bool false from congrArg Value.bool (by rw [hw2]; exact bne_self_eq_false _))) (by kernel_rfl) rfl ?_
  refine zn ?_
  refine K.d_pure 31 rfl (K.pick_f rfl) (by kernel_rfl) rfl ?_
  refine zn ?_
  refine K.d_done (by kernel_rfl) ?_
  refine K.norm_then ?_
  refine K.cond_false rfl ?_
  refine K.skip ?_
  refine K.norm_then ?_
  refine K.seq ?_
  refine sr ?_
  refine qa ?_
  refine sn ?_
  refine K.block ?_
  refine K.loopW [20] [6, 150, 151, 152, 153, 154, 155, 156, 157, 158, 159, 160, 161, 162] (fun vi L => ∃ k : Nat, vi = [.int .i64 (k : Int)] ∧ L = [K.row (.slice A4 (mayL m s).length a4) 3 1 (mayL m s).length ((mayL m s).flatMap K.eI), K.row (.slice A3 (sureL m s).length a3) 3 1 (sureL m s).length ((sureL m s).flatMap K.eI), K.row (.slice A2 (hidL m s (max a b) p).length a2) 3 1 (hidL m s (max a b) p).length ((hidL m s (max a b) p).flatMap K.eI), K.row (.slice A1 (hidL m s (min a b) p).length a1) 3 1 (hidL m s (min a b) p).length ((hidL m s (min a b) p).flatMap K.eI), K.blk b5 58 [.int .u16 e0, .int .u16 e1], K.blk b4 56 [.int .u8 x0, .int .u8 x1], K.blk b3 26 [.int .i64 m.W, .int .i64 m.D, .slice A m.hs.length c, .slice B m.ps.length d, .slice C m.ss.length e]] ∧ k ≤ (sureL m s).length) (fun vi => (sureL m s).length - (intOf (K.nth vi 0)).toNat) ?_ ?_
  · exact ⟨0, rfl, rfl, Nat.zero_le _⟩
  intro vi vr L hJ
  obtain ⟨k, rfl, rfl, hkn⟩ := hJ
  try dsimp only [setd, setn, ev, nth, over, cl, eI, eP, eT, eN, eS, setM, setF, List.map, List.append, List.drop, List.take]
  refine K.seq ?_
  refine sr ?_
  iterate 2 refine qm ?_
  refine qp (K.len_sl sl_22 rfl) ?_
  refine qp (K.lss rfl rfl) ?_
  refine sn ?_
  refine K.cond rfl (fun ht153 => ?_) (fun ht153 => ?_)
  · try replace ht153 := of_decide_eq_true ht153
    have hk2 : k < (sureL m s).length := by omega
    refine K.skip ?_
    refine K.norm_then ?_
    refine K.seq ?_
    refine K.block ?_
    refine sr ?_
    iterate 3 refine qm ?_
    refine K.seq_ix (M := [K.row (.slice A3 (sureL m s).length a3) 3 1 (sureL m s).length ((sureL m s).flatMap K.eI)]) _ (K.Sl.own (w0 := w) (t := 3) (c := a3) (e := K.eI) hq3 (fun _ => rfl)) sl_22 rfl rfl rfl (by omega) rfl ?_
    intro p159 hp159
    refine zN ?_
    refine K.seq_sil (K.load1 one_3 rfl (hp159.at1 (K.m1))) rfl ?_
    refine zN ?_
    refine K.seq_call (K.call_g cal_42 (fun F w hF hw => (by have hA := (K.Rd.own (e := K.eI) hw (hF _ (K.m0)) hq4 (fun _ => rfl) (by decide)); exact c42 (xs := (mayL m s)) hA hl3))) rfl ?_
    refine zN ?_
    first | refine K.seq_pure (K.Pure.eq (K.not_d rfl) (show _ = Value.bool false from by rw [decide_eq_true (sure_in hv hsl (K.gt_mem hk2))]; rfl)) rfl ?_ | refine K.seq_pure (K.Pure.eq (K.not_ rfl) (show _ = Value.bool false from by rw [decide_eq_true (sure_in hv hsl (K.gt_mem hk2))]; rfl)) rfl ?_
    refine zN ?_
    refine sn ?_
    refine K.cond_false rfl ?_
    refine K.skip ?_
    refine K.norm_block ?_
    refine K.norm_then ?_
    refine K.region_lit ?_
    refine qm ?_
    refine qp (K.add_i64 rfl rfl (by omega)) ?_
    refine qa ?_
    refine K.seq_nil ?_
    exact K.round_endW (L'' := [K.row (.slice A4 (mayL m s).length a4) 3 1 (mayL m s).length ((mayL m s).flatMap K.eI), K.row (.slice A3 (sureL m s).length a3) 3 1 (sureL m s).length ((sureL m s).flatMap K.eI), K.row (.slice A2 (hidL m s (max a b) p).length a2) 3 1 (hidL m s (max a b) p).length ((hidL m s (max a b) p).flatMap K.eI), K.row (.slice A1 (hidL m s (min a b) p).length a1) 3 1 (hidL m s (min a b) p).length ((hidL m s (min a b) p).flatMap K.eI), K.blk b5 58 [.int .u16 e0, .int .u16 e1], K.blk b4 56 [.int .u8 x0, .int .u8 x1], K.blk b3 26 [.int .i64 m.W, .int .i64 m.D, .slice A m.hs.length c, .slice B m.ps.length d, .slice C m.ss.length e]]) [.int .i64 ((k : Int) + 1)] ⟨k + 1, rfl, rfl, hk2⟩ (by simp [K.nth, intOf]; omega) (by repeat (first | exact List.Sublist.refl _ | apply List.Sublist.cons)) (by kernel_rfl)
  try replace ht153 := of_decide_eq_false ht153
  refine K.exit ?_
  refine K.exit_then ?_
  refine K.exit_then ?_
  refine K.exit_here ?_
  refine K.norm_then ?_
  refine sr ?_
  refine qm ?_
  refine qp (K.len_sl sl_22 rfl) ?_
  refine qp (K.eql rfl rfl) ?_
  iterate 2 refine qm ?_
  refine qp (K.geq rfl rfl) ?_
  refine qp (K.Pure.eq (K.eql_bb bo_4 rfl rfl) (show _ = Value.bool true from congrArg Value.bool (by first | (rw [hq1]; exact beq_self_eq_true _) | (simp only [hR1]; rw [hq1]; exact beq_self_eq_true _)))) ?_
  iterate 2 refine qm ?_
  refine qp (K.len_sl sl_22 rfl) ?_
  refine qp (K.eql rfl rfl) ?_
  iterate 2 refine qm ?_
  refine qp (K.geq rfl rfl) ?_
  refine qp (K.Pure.eq (K.eql_bb bo_4 rfl rfl) (show _ = Value.bool true from congrArg Value.bool (by first | (rw [hq2]; exact beq_self_eq_true _) | (simp only [hR1]; rw [hq2]; exact beq_self_eq_true _)))) ?_
  refine qp (K.pick_t rfl) ?_
  refine qm ?_
  refine K.seq_call (K.call_g cal_25 (fun F w hF hw => c25 (hT.pass hw))) rfl ?_
  refine zN ?_
  refine qp (K.pick_t rfl) ?_
  refine qa ?_
  refine sn ?_
  refine K.ret ?_
  refine K.end_ret (fun w _ => K.res_tmp rfl w) ?_
  exact K.gives rfl

set_option maxRecDepth 100000 in
theorem e8a {m : Mod} {A B C : Option Addr} {c d e : Nat} {x0 x1 e0 e1 : Int} {w : World} (hH : K.Rd w A 1 K.eI m.hs) (hP : K.Rd w B 5 eN m.ps) (hS : K.Rd w C 4 eS m.ss) (hn : m.hs.length ≤ 4611686018427387904) (hm : m.ps.length ≤ 4611686018427387904) (hk : m.ss.length ≤ 4611686018427387904) (hcd : m.ps.length ≤ d) (hT : Tab w) (hc : (chk m).2.2 ≠ 0) :
    Calls Tryd.prog 8 [.agg #[.int .i64 m.W, .int .i64 m.D, .slice A m.hs.length c, .slice B m.ps.length d, .slice C m.ss.length e], .agg #[.int .u8 x0, .int .u8 x1], .agg #[.int .u16 e0, .int .u16 e1]].toArray w (K.Gives (.bool true) w) := by
  refine K.enter (args := [.agg #[.int .i64 m.W, .int .i64 m.D, .slice A m.hs.length c, .slice B m.ps.length d, .slice C m.ss.length e], .agg #[.int .u8 x0, .int .u8 x1], .agg #[.int .u16 e0, .int .u16 e1]]) Tryd.func8 rfl (n := 179) rfl ?_
  simp only [List.replicate, List.cons_append, List.nil_append]
  refine sr ?_
  refine K.seq_new (K.box) rfl ?_
  intro b3
  refine zN ?_
  refine K.seq_new (K.box) rfl ?_
  intro b4
  refine zN ?_
  refine K.seq_new (K.box) rfl ?_
  intro b5
  refine zN ?_
  refine qa ?_
  refine sn ?_
  refine K.seq ?_
  refine sr ?_
  refine K.seq_sil (K.loadA_own ag_26 rfl (K.m2) rfl) rfl ?_
  refine zN ?_
  refine K.seq_call (K.call_g cal_37 (fun F w hF hw => c37 (hH.pass hw) (hP.pass hw) (hS.pass hw) hn hm hk)) rfl ?_
  refine zN ?_
  first | refine K.seq_pure (K.Pure.eq (K.not_d rfl) (show _ = Value.bool true from congrArg Value.bool (by simp [hc]))) rfl ?_ | refine K.seq_pure (K.Pure.eq (K.not_ rfl) (show _ = Value.bool true from congrArg Value.bool (by simp [hc]))) rfl ?_
  refine zN ?_
  refine qm ?_
  iterate 4 refine qs ?_
  refine qp (K.pick_t rfl) ?_
  refine qm ?_
  iterate 4 refine qs ?_
  refine qp (K.pick_t rfl) ?_
  refine sn ?_
  refine K.cond_true rfl ?_
  refine sr ?_
  refine K.seq_call (K.call_g cal_25 (fun F w hF hw => c25 (hT.pass hw))) rfl ?_
  refine zN ?_
  refine qa ?_
  refine sn ?_
  refine K.ret ?_
  refine K.ret_then ?_
  refine K.end_ret (fun w _ => K.res_tmp rfl w) ?_
  exact K.gives rfl

set_option maxRecDepth 100000 in
theorem e8b {m : Mod} {A B C : Option Addr} {c d e : Nat} {x0 x1 e0 e1 : Int} {w : World} (hH : K.Rd w A 1 K.eI m.hs) (hP : K.Rd w B 5 eN m.ps) (hS : K.Rd w C 4 eS m.ss) (hn : m.hs.length ≤ 4611686018427387904) (hm : m.ps.length ≤ 4611686018427387904) (hk : m.ss.length ≤ 4611686018427387904) (hcd : m.ps.length ≤ d) (hT : Tab w) (hc : (chk m).2.2 = 0) (hz : m.ss.length = 0) :
    Calls Tryd.prog 8 [.agg #[.int .i64 m.W, .int .i64 m.D, .slice A m.hs.length c, .slice B m.ps.length d, .slice C m.ss.length e], .agg #[.int .u8 x0, .int .u8 x1], .agg #[.int .u16 e0, .int .u16 e1]].toArray w (K.Gives (.bool true) w) := by
  refine K.enter (args := [.agg #[.int .i64 m.W, .int .i64 m.D, .slice A m.hs.length c, .slice B m.ps.length d, .slice C m.ss.length e], .agg #[.int .u8 x0, .int .u8 x1], .agg #[.int .u16 e0, .int .u16 e1]]) Tryd.func8 rfl (n := 179) rfl ?_
  simp only [List.replicate, List.cons_append, List.nil_append]
  refine sr ?_
  refine K.seq_new (K.box) rfl ?_
  intro b3
  refine zN ?_
  refine K.seq_new (K.box) rfl ?_
  intro b4
  refine zN ?_
  refine K.seq_new (K.box) rfl ?_
  intro b5
  refine zN ?_
  refine qa ?_
  refine sn ?_
  refine K.seq ?_
  refine sr ?_
  refine K.seq_sil (K.loadA_own ag_26 rfl (K.m2) rfl) rfl ?_
  refine zN ?_
  refine K.seq_call (K.call_g cal_37 (fun F w hF hw => c37 (hH.pass hw) (hP.pass hw) (hS.pass hw) hn hm hk)) rfl ?_
  refine zN ?_
  first | refine K.seq_pure (K.Pure.eq (K.not_d rfl) (show _ = Value.bool false from congrArg Value.bool (by simp [hc]))) rfl ?_ | refine K.seq_pure (K.Pure.eq (K.not_ rfl) (show _ = Value.bool false from congrArg Value.bool (by simp [hc]))) rfl ?_
  refine zN ?_
  refine qm ?_
  refine qp (K.fieldAddr_lit fo_26_4 rfl) ?_
  refine K.seq_sil (K.load1_own one_24 rfl (K.m2) rfl) rfl ?_
  refine zN ?_
  refine qp (K.len_sl sl_24 rfl) ?_
  refine qp (K.Pure.eq (K.eql rfl rfl) (show _ = Value.bool true from congrArg Value.bool (decide_eq_true (by omega)))) ?_
  refine qp (K.pick_f rfl) ?_
  refine qm ?_
  iterate 4 refine qs ?_
  refine qp (K.pick_t rfl) ?_
  refine sn ?_
  refine K.cond_true rfl ?_
  refine sr ?_
  refine K.seq_call (K.call_g cal_25 (fun F w hF hw => c25 (hT.pass hw))) rfl ?_
  refine zN ?_
  refine qa ?_
  refine sn ?_
  refine K.ret ?_
  refine K.ret_then ?_
  refine K.end_ret (fun w _ => K.res_tmp rfl w) ?_
  exact K.gives rfl

set_option maxRecDepth 100000 in
theorem e8c {m : Mod} {A B C : Option Addr} {c d e : Nat} {x0 x1 e0 e1 : Int} {w : World} (hH : K.Rd w A 1 K.eI m.hs) (hP : K.Rd w B 5 eN m.ps) (hS : K.Rd w C 4 eS m.ss) (hn : m.hs.length ≤ 4611686018427387904) (hm : m.ps.length ≤ 4611686018427387904) (hk : m.ss.length ≤ 4611686018427387904) (hcd : m.ps.length ≤ d) (hT : Tab w) (hc : (chk m).2.2 = 0) (hs : ¬ m.ss.length = 0) (hz : m.ps.length = 0) :
    Calls Tryd.prog 8 [.agg #[.int .i64 m.W, .int .i64 m.D, .slice A m.hs.length c, .slice B m.ps.length d, .slice C m.ss.length e], .agg #[.int .u8 x0, .int .u8 x1], .agg #[.int .u16 e0, .int .u16 e1]].toArray w (K.Gives (.bool true) w) := by
  refine K.enter (args := [.agg #[.int .i64 m.W, .int .i64 m.D, .slice A m.hs.length c, .slice B m.ps.length d, .slice C m.ss.length e], .agg #[.int .u8 x0, .int .u8 x1], .agg #[.int .u16 e0, .int .u16 e1]]) Tryd.func8 rfl (n := 179) rfl ?_
  simp only [List.replicate, List.cons_append, List.nil_append]
  refine sr ?_
  refine K.seq_new (K.box) rfl ?_
  intro b3
  refine zN ?_
  refine K.seq_new (K.box) rfl ?_
  intro b4
  refine zN ?_
  refine K.seq_new (K.box) rfl ?_
  intro b5
  refine zN ?_
  refine qa ?_
  refine sn ?_
  refine K.seq ?_
  refine sr ?_
  refine K.seq_sil (K.loadA_own ag_26 rfl (K.m2) rfl) rfl ?_
  refine zN ?_
  refine K.seq_call (K.call_g cal_37 (fun F w hF hw => c37 (hH.pass hw) (hP.pass hw) (hS.pass hw) hn hm hk)) rfl ?_
  refine zN ?_
  first | refine K.seq_pure (K.Pure.eq (K.not_d rfl) (show _ = Value.bool false from congrArg Value.bool (by simp [hc]))) rfl ?_ | refine K.seq_pure (K.Pure.eq (K.not_ rfl) (show _ = Value.bool false from congrArg Value.bool (by simp [hc]))) rfl ?_
  refine zN ?_
  refine qm ?_
  refine qp (K.fieldAddr_lit fo_26_4 rfl) ?_
  refine K.seq_sil (K.load1_own one_24 rfl (K.m2) rfl) rfl ?_
  refine zN ?_
  refine qp (K.len_sl sl_24 rfl) ?_
  refine qp (K.Pure.eq (K.eql rfl rfl) (show _ = Value.bool false from congrArg Value.bool (decide_eq_false (by omega)))) ?_
  refine qp (K.pick_f rfl) ?_
  refine qm ?_
  refine qp (K.fieldAddr_lit fo_26_3 rfl) ?_
  refine K.seq_sil (K.load1_own one_23 rfl (K.m2) rfl) rfl ?_
  refine zN ?_
  refine qp (K.len_sl sl_23 rfl) ?_
  refine qp (K.Pure.eq (K.eql rfl rfl) (show _ = Value.bool true from congrArg Value.bool (decide_eq_true (by omega)))) ?_
  refine qp (K.pick_f rfl) ?_
  refine sn ?_
  refine K.cond_true rfl ?_
  refine sr ?_
  refine K.seq_call (K.call_g cal_25 (fun F w hF hw => c25 (hT.pass hw))) rfl ?_
  refine zN ?_
  refine qa ?_
  refine sn ?_
  refine K.ret ?_
  refine K.ret_then ?_
  refine K.end_ret (fun w _ => K.res_tmp rfl w) ?_
  exact K.gives rfl

theorem c8 {m : Mod} {A B C : Option Addr} {c d e : Nat} {x0 x1 e0 e1 : Int} {w : World} (hH : K.Rd w A 1 K.eI m.hs) (hP : K.Rd w B 5 eN m.ps) (hS : K.Rd w C 4 eS m.ss) (hn : m.hs.length ≤ 4611686018427387904) (hm : m.ps.length ≤ 4611686018427387904) (hk : m.ss.length ≤ 4611686018427387904) (hcd : m.ps.length ≤ d) (hT : Tab w) (hx0 : 0 ≤ x0 ∧ x0 ≤ 255) (hx1 : 0 ≤ x1 ∧ x1 ≤ 255) (he0 : 0 ≤ e0 ∧ e0 ≤ 65535) (he1 : 0 ≤ e1 ∧ e1 ≤ 65535) : Calls Tryd.prog 8 [.agg #[.int .i64 m.W, .int .i64 m.D, .slice A m.hs.length c, .slice B m.ps.length d, .slice C m.ss.length e], .agg #[.int .u8 x0, .int .u8 x1], .agg #[.int .u16 e0, .int .u16 e1]].toArray w (K.Gives (.bool true) w) := by
  by_cases hc : (chk m).2.2 = 0
  · by_cases hs : m.ss.length = 0
    · exact e8b hH hP hS hn hm hk hcd hT hc hs
    · by_cases hp : m.ps.length = 0
      · exact e8c hH hP hS hn hm hk hcd hT hc hs hp
      · obtain ⟨s, hse⟩ := Int.eq_ofNat_of_zero_le (Int.emod_nonneg x0 (b := (m.ss.length : Int)) (by omega))
        obtain ⟨p, hpe⟩ := Int.eq_ofNat_of_zero_le (Int.emod_nonneg x1 (b := (m.ps.length : Int)) (by omega))
        have hsl := Int.emod_lt_of_pos x0 (b := (m.ss.length : Int)) (by omega)
        have hpl := Int.emod_lt_of_pos x1 (b := (m.ps.length : Int)) (by omega)
        have k : SP m s p := ⟨hc, by omega, by omega⟩
        by_cases hE : EYE m s p ≤ 2000
        · exact g8a hH hP hS hn hm hk hcd hT hx0 hx1 he0 he1 hse hpe rfl rfl k hE
        · exact g8b hH hP hS hn hm hk hcd hT hx0 hx1 he0 he1 hse hpe rfl rfl k (by omega)
  · exact e8a hH hP hS hn hm hk hcd hT hc


end Go.Proofs.YthkgnhcknkjgdaaDoor
