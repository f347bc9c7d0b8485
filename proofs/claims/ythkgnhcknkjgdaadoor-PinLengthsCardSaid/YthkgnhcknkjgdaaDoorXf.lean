/-
  Walks of the program's functions, printed by program: what each returns.
  Conditions stand in each theorem.
-/
import Derived.Test.YthkgnhcknkjgdaaDoorKf
import Derived.Test.YthkgnhcknkjgdaaDoorK2
import Derived.WalkArith
import Derived.Laws.Closers25b
import Derived.Test.YthkgnhcknkjgdaaDoorS1
import Derived.Test.YthkgnhcknkjgdaaDoorS2
import Derived.Test.YthkgnhcknkjgdaaDoorS3
import Derived.Test.YthkgnhcknkjgdaaDoorS7
import Derived.Test.YthkgnhcknkjgdaaDoorS8
import Derived.Test.YthkgnhcknkjgdaaDoorS9
import Derived.Test.YthkgnhcknkjgdaaDoorK7
import Derived.Test.YthkgnhcknkjgdaaDoorK8
import Derived.Test.YthkgnhcknkjgdaaDoorK9
import Derived.Test.YthkgnhcknkjgdaaDoorKA
import Derived.Test.YthkgnhcknkjgdaaDoorWa
import Derived.Test.YthkgnhcknkjgdaaDoorWd
import Derived.Test.YthkgnhcknkjgdaaDoorWk
import Derived.Test.YthkgnhcknkjgdaaDoorWm
import Derived.Test.YthkgnhcknkjgdaaDoorWn
import Derived.Test.YthkgnhcknkjgdaaDoorWo
import Derived.Test.YthkgnhcknkjgdaaDoorWl
import Derived.Test.YthkgnhcknkjgdaaDoorWq
import Derived.Test.YthkgnhcknkjgdaaDoorWr
import Derived.Test.YthkgnhcknkjgdaaDoorWw
import Derived.Test.YthkgnhcknkjgdaaDoorWx
import Derived.Test.YthkgnhcknkjgdaaDoorXd
import Derived.Test.YthkgnhcknkjgdaaDoorXe
import Derived.Test.YthkgnhcknkjgdaaDoorK3
import Derived.Test.YthkgnhcknkjgdaaDoorK4
set_option linter.unusedSimpArgs false
set_option linter.unusedVariables false
namespace Go.Proofs.YthkgnhcknkjgdaaDoor
open Go.RowKit Go
open Go.K (setd setn ev nth over cl eI eP eT setM setF)
attribute [local irreducible] K.blk K.row

set_option maxRecDepth 100000 in
set_option maxHeartbeats 1000000 in
theorem c29 {m : Mod} {A B C : Option Addr} {c d e : Nat} {w : World} (hH : K.Rd w A 1 K.eI m.hs) (hP : K.Rd w B 5 eN m.ps) (hS : K.Rd w C 4 eS m.ss) (hn : m.hs.length ≤ 4611686018427387904) (hm : m.ps.length ≤ 4611686018427387904) (hk : m.ss.length ≤ 4611686018427387904) :
    Calls Tryd.prog 29 [.agg #[.int .i64 m.W, .int .i64 m.D, .slice A m.hs.length c, .slice B m.ps.length d, .slice C m.ss.length e]].toArray w (K.Gives (.tuple #[.int .i64 (stuckS m).1, .int .i64 (stuckS m).2.1, .int .i64 (stuckS m).2.2.1, .int .i64 (stuckS m).2.2.2.1, .int .i64 (stuckS m).2.2.2.2]) w) := by
  refine K.enter (args := [.agg #[.int .i64 m.W, .int .i64 m.D, .slice A m.hs.length c, .slice B m.ps.length d, .slice C m.ss.length e]]) Tryd.func29 rfl (n := 77) rfl ?_
  simp only [List.replicate, List.cons_append, List.nil_append]
  refine K.seq ?_
  refine K.region_lit ?_
  refine K.seq_new (K.box) rfl ?_
  intro b1
  refine zN ?_
  refine K.seq_pure (K.assign) rfl ?_
  refine zn ?_
  refine K.seq_pure (K.assign) rfl ?_
  refine zn ?_
  refine K.seq_pure (K.assign) rfl ?_
  refine zn ?_
  refine K.seq_pure (K.assign) rfl ?_
  refine zn ?_
  refine K.seq_pure (K.assign) rfl ?_
  refine zn ?_
  refine K.seq_nil ?_
  refine K.norm_then ?_
  refine K.seq ?_
  refine K.region_lit ?_
  refine K.seq_sil (K.loadA_own ag_26 rfl (K.m0) rfl) rfl ?_
  refine zN ?_
  refine K.seq_call (K.call_g cal_17 (fun F w hF hw => c17 (hH.pass hw) (hP.pass hw) (hS.pass hw) hn hm hk)) rfl ?_
  refine zN ?_
  refine K.seq_pure (K.move) rfl ?_
  refine zn ?_
  refine K.seq_pure (K.extract rfl rfl) rfl ?_
  refine zn ?_
  refine K.seq_pure (K.extract rfl rfl) rfl ?_
  refine zn ?_
  refine K.seq_pure (K.extract rfl rfl) rfl ?_
  refine zn ?_
  refine K.seq_pure (K.assign) rfl ?_
  refine zn ?_
  refine K.seq_pure (K.assign) rfl ?_
  refine zn ?_
  refine K.seq_pure (K.assign) rfl ?_
  refine zn ?_
  refine K.seq_nil ?_
  refine K.norm_then ?_
  refine K.seq ?_
  refine K.seq ?_
  refine K.region_lit ?_
  refine K.seq_pure (K.move) rfl ?_
  refine zn ?_
  refine K.seq_pure (K.neq rfl rfl) rfl ?_
  refine zn ?_
  refine K.seq_nil ?_
  refine K.norm_then ?_
  refine K.cond rfl (fun ht23 => ?_) (fun ht23 => ?_)
  · try replace ht23 := of_decide_eq_true ht23
    refine K.seq ?_
    refine K.region_lit ?_
    refine K.seq_pure (K.move) rfl ?_
    refine zn ?_
    refine K.seq_pure (K.assign) rfl ?_
    refine zn ?_
    refine K.seq_pure (K.assign) rfl ?_
    refine zn ?_
    refine K.seq_pure (K.assign) rfl ?_
    refine zn ?_
    refine K.seq_pure (K.assign) rfl ?_
    refine zn ?_
    refine K.seq_pure (K.assign) rfl ?_
    refine zn ?_
    refine K.seq_nil ?_
    refine K.norm_then ?_
    refine K.ret ?_
    refine K.ret_then ?_
    refine K.end_ret (fun w _ => K.res_t5 rfl w) ?_
    exact K.gives (by unfold stuckS; rw [if_pos ht23]; rfl)
  try replace ht23 := of_decide_eq_false ht23
  refine K.skip ?_
  refine K.norm_then ?_
  refine K.seq ?_
  have hcz : (chk m).2.2 = 0 := Decidable.not_not.1 ht23
  have g := chk_good hcz
  have hgn := g.n
  have hgk := g.k
  have hsg := @rounds_sign m
  have h6 := @rounds_len m
  have hlb := rounds_lb g
  have hlm := rounds_lm g
  refine K.region_lit ?_
  refine K.seq_sil (K.loadA_own ag_26 rfl (K.m0) rfl) rfl ?_
  refine zN ?_
  refine K.seq_loud (K.call_f cal_77 (fun F w hF hw => c77 (hH.pass hw) (hP.pass hw) (hS.pass hw) g)) rfl ?_
  rintro ⟨Q1, q1⟩ hq1
  refine zN ?_
  refine K.seq_pure (K.move) rfl ?_
  refine zn ?_
  refine K.seq_pure (K.extract rfl rfl) rfl ?_
  refine zn ?_
  refine K.seq_pure (K.extract rfl rfl) rfl ?_
  refine zn ?_
  refine K.seq_pure (K.assign) rfl ?_
  refine zn ?_
  refine K.seq_pure (K.assign) rfl ?_
  refine zn ?_
  refine K.seq_nil ?_
  refine K.norm_then ?_
  refine K.seq ?_
  refine K.seq ?_
  refine K.region_lit ?_
  refine K.seq_pure (K.move) rfl ?_
  refine zn ?_
  refine K.seq_pure (K.eql rfl rfl) rfl ?_
  refine zn ?_
  refine K.seq_nil ?_
  refine K.norm_then ?_
  refine K.cond rfl (fun ht31 => ?_) (fun ht31 => ?_)
  · try replace ht31 := of_decide_eq_true ht31
    refine K.seq ?_
    refine K.region_lit ?_
    refine K.seq_pure (K.assign) rfl ?_
    refine zn ?_
    refine K.seq_pure (K.assign) rfl ?_
    refine zn ?_
    refine K.seq_pure (K.assign) rfl ?_
    refine zn ?_
    refine K.seq_pure (K.assign) rfl ?_
    refine zn ?_
    refine K.seq_pure (K.assign) rfl ?_
    refine zn ?_
    refine K.seq_nil ?_
    refine K.norm_then ?_
    refine K.ret ?_
    refine K.ret_then ?_
    refine K.end_ret (fun w _ => K.res_t5 rfl w) ?_
    exact K.gives (by unfold stuckS; rw [if_neg ht23, if_pos (by omega)]; rfl)
  try replace ht31 := of_decide_eq_false ht31
  refine K.skip ?_
  refine K.norm_then ?_
  refine K.seq ?_
  have hpne : (roundsS m).2.2 ≠ -1 := by omega
  obtain ⟨p, htf, hpv⟩ := rounds_too hpne
  have hpn : p < m.ps.length := by
    rcases rounds_pin (m := m) with h | ⟨j, hj, h⟩
    · exact absurd h hpne
    · omega
  have htl := tk_len hgn h6
  have hag : Agree m ((roundsS m).1.take m.ps.length) (roundsS m).1 := fun i hi => agree_take h6 hgn i hi
  have htr : tooR m (roundR m ((roundsS m).1.take m.ps.length) m.ps.length) = some p := (tooR_eq hgn hag).trans htf
  have hrl := @roundR_len m ((roundsS m).1.take m.ps.length) m.ps.length
  have hgp := g.p p hpn
  refine K.draw_L [] Tryd_mixed ?_
  refine K.d_mem 0 rfl (K.loadA_own ag_26 rfl (K.m1) rfl) (fun _ h => h) (by kernel_rfl) (by kernel_rfl) rfl ?_
  refine zN ?_
  refine K.d_mem 1 rfl (K.loadA_own ag_26 rfl (K.m1) rfl) (fun _ h => h) (by kernel_rfl) (by kernel_rfl) rfl ?_
  refine zN ?_
  refine K.d_pure 2 rfl (K.move) (by kernel_rfl) rfl ?_
  refine zn ?_
  refine K.d_loud 3 rfl (K.call_f cal_44 (fun F w hF hw => (by have hh := (K.Rd.own (e := K.eI) (xs := ((roundsS m).1.take m.ps.length)) hw (hF _ (K.m0)) hq1 (fun _ => rfl) (by decide)); exact c44 (l := ((roundsS m).1.take m.ps.length)) (hH.pass hw) (hP.pass hw) (hS.pass hw) hh htl (lb_take hlb) g (lm_take hgn h6 hlm)))) (fun _ h => h) (by kernel_rfl) rfl ?_
  rintro ⟨Q2, q2⟩ hq2
  refine zN ?_
  refine K.d_call 4 rfl (K.call_g cal_78 (fun F w hF hw => (by have hh := (K.Rd.own (e := K.eI) (xs := (roundR m ((roundsS m).1.take m.ps.length) m.ps.length)) hw (hF _ (K.m0)) hq2 (fun _ => rfl) (by decide)); have hg := c78 (A := A) (B := B) (C := C) (c := c) (d := d) (e := e) (q := q2) (l := (roundR m ((roundsS m).1.take m.ps.length) m.ps.length)) (hP.pass hw) hh hrl hgn; rw [htr] at hg; exact hg))) (fun _ h => K.tl h) (by kernel_rfl) rfl ?_
  refine zN ?_
  refine K.d_pure 5 rfl (K.assign) (by kernel_rfl) rfl ?_
  refine zn ?_
  refine K.d_done (by kernel_rfl) ?_
  refine K.norm_then ?_
  refine K.seq ?_
  refine K.region_lit ?_
  refine K.seq_pure (K.move) rfl ?_
  refine zn ?_
  refine K.seq_pure (K.move) rfl ?_
  refine zn ?_
  refine K.seq_pure (K.fieldAddr_lit fo_26_3 rfl) rfl ?_
  refine zn ?_
  refine K.seq_sil (K.load1_own one_23 rfl (K.m2) rfl) rfl ?_
  refine zN ?_
  refine K.seq_pure (K.move) rfl ?_
  refine zn ?_
  refine K.seq_ix (M := []) _ hP.sl sl_23 rfl rfl rfl (by omega) rfl ?_
  intro p42 hp42
  refine zN ?_
  refine K.seq_pure (K.fieldAddr fo_54_4 rfl) rfl ?_
  refine zn ?_
  refine K.seq_sil (K.load1 one_3 rfl ((K.PtrL.fld hp42 (k := 4)).any)) rfl ?_
  refine zN ?_
  refine K.seq_loud (K.call_f cal_79 (fun F w hF hw => (by have hh := (K.Rd.own (e := K.eI) (xs := ((roundsS m).1.take m.ps.length)) hw (hF _ (K.m1)) hq1 (fun _ => rfl) (by decide)); exact c79 (l := ((roundsS m).1.take m.ps.length)) (i := p) (v := (m.ps.getD p default).most) hh (by omega) (by omega)))) rfl ?_
  rintro ⟨gb, rest, cb⟩ _
  refine zN ?_
  refine K.seq_pure (K.assign) rfl ?_
  refine zn ?_
  refine K.seq_nil ?_
  refine K.norm_then ?_
  refine K.seq ?_
  refine K.seq ?_
  refine K.region_lit ?_
  refine K.seq_pure (K.assign) rfl ?_
  refine zn ?_
  refine K.seq_nil ?_
  refine K.norm_then ?_
  refine K.block ?_
  refine K.loopW [13] [2, 3, 4, 5, 6, 14, 15, 46, 47, 48, 49, 50, 51, 52, 53, 54, 55, 56, 57, 58, 59, 60, 61, 62, 63, 64, 65, 66, 67, 68, 69, 70, 71, 72, 73, 74, 75, 76, 77] (fun vi L => ∃ k : Nat, vi = [.int .i64 (k : Int)] ∧ L = [K.blk gb 3 ((((roundsS m).1.take m.ps.length).set p (m.ps.getD p default).most).flatMap K.eI ++ rest), K.row (.slice Q2 (roundR m ((roundsS m).1.take m.ps.length) m.ps.length).length q2) 3 1 (roundR m ((roundsS m).1.take m.ps.length) m.ps.length).length ((roundR m ((roundsS m).1.take m.ps.length) m.ps.length).flatMap K.eI), K.row (.slice Q1 ((roundsS m).1.take m.ps.length).length q1) 3 1 ((roundsS m).1.take m.ps.length).length (((roundsS m).1.take m.ps.length).flatMap K.eI), K.blk b1 26 [.int .i64 m.W, .int .i64 m.D, .slice A m.hs.length c, .slice B m.ps.length d, .slice C m.ss.length e]] ∧ k ≤ m.ss.length ∧ ∀ j, j < k → stkB m p j = true) (fun vi => m.ss.length - (intOf (K.nth vi 0)).toNat) ?_ ?_
  · exact ⟨0, rfl, rfl, Nat.zero_le _, fun j hj => absurd hj (Nat.not_lt_zero j)⟩
  intro vi vr L hJ
  obtain ⟨k, rfl, rfl, hkn, hall⟩ := hJ
  try dsimp only [setd, setn, ev, nth, over, cl, eI, eP, eT, eN, eS, setM, setF, List.map, List.append, List.drop, List.take]
  refine K.seq ?_
  refine K.seq ?_
  refine K.region_lit ?_
  refine K.seq_pure (K.move) rfl ?_
  refine zn ?_
  refine K.seq_pure (K.fieldAddr_lit fo_26_4 rfl) rfl ?_
  refine zn ?_
  refine K.seq_sil (K.load1_own one_24 rfl (K.m3) rfl) rfl ?_
  refine zN ?_
  refine K.seq_pure (K.len_sl sl_24 rfl) rfl ?_
  refine zn ?_
  refine K.seq_pure (K.lss rfl rfl) rfl ?_
  refine zn ?_
  refine K.seq_nil ?_
  refine K.norm_then ?_
  refine K.cond rfl (fun ht50 => ?_) (fun ht50 => ?_)
  · try replace ht50 := of_decide_eq_true ht50
    have hk2 : k < m.ss.length := by omega
    have hst := g.st hk2
    have hides_eq : hidesS m (((roundsS m).1.take m.ps.length).set p (m.ps.getD p default).most) (m.ss.getD k default).x (m.ss.getD k default).y (m.ss.getD k default).lo p = (hidesS m (stkL m p) (m.ss.getD k default).x (m.ss.getD k default).y (m.ss.getD k default).lo p) := (stk_take g hpn).hides hpn
    refine K.skip ?_
    refine K.norm_then ?_
    refine K.seq ?_
    refine K.block ?_
    refine K.seq ?_
    refine K.region_lit ?_
    refine K.seq_pure (K.fieldAddr_lit fo_26_4 rfl) rfl ?_
    refine zn ?_
    refine K.seq_sil (K.load1_own one_24 rfl (K.m3) rfl) rfl ?_
    refine zN ?_
    refine K.seq_pure (K.move) rfl ?_
    refine zn ?_
    refine K.seq_ix (M := []) _ hS.sl sl_24 rfl rfl rfl (by omega) rfl ?_
    intro p56 hp56
    refine zN ?_
    refine K.seq_sil (K.loadA_p ag_63 rfl (hp56.any) rfl) rfl ?_
    refine zN ?_
    refine K.seq_new (K.alloc zr_63) rfl ?_
    intro b14
    refine zN ?_
    refine K.seq_st (K.store_all sz_63 rfl rfl rfl rfl (K.rp0)) rfl ?_
    refine zN ?_
    refine K.seq_nil ?_
    refine K.norm_then ?_
    refine K.seq ?_
    refine K.region_lit ?_
    refine K.seq_sil (K.loadA_own ag_26 rfl (K.m4) rfl) rfl ?_
    refine zN ?_
    refine K.seq_pure (K.move) rfl ?_
    refine zn ?_
    refine K.seq_pure (K.fieldAddr_lit fo_63_0 rfl) rfl ?_
    refine zn ?_
    refine K.seq_sil (K.load1_own one_3 rfl (K.m0) rfl) rfl ?_
    refine zN ?_
    refine K.seq_pure (K.fieldAddr_lit fo_63_1 rfl) rfl ?_
    refine zn ?_
    refine K.seq_sil (K.load1_own one_3 rfl (K.m0) rfl) rfl ?_
    refine zN ?_
    refine K.seq_pure (K.fieldAddr_lit fo_63_2 rfl) rfl ?_
    refine zn ?_
    refine K.seq_pure (K.fieldAddr_lit fo_61_0 rfl) rfl ?_
    refine zn ?_
    refine K.seq_sil (K.load1_own one_3 rfl (K.m0) rfl) rfl ?_
    refine zN ?_
    refine K.seq_pure (K.move) rfl ?_
    refine zn ?_
    refine K.seq_loud (K.call_f cal_66 (fun F w hF hw => (by have hh := (K.Rd.litp (e := K.eI) (xs := (((roundsS m).1.take m.ps.length).set p (m.ps.getD p default).most)) hw (hF _ (K.m1)) (fun _ => rfl) (by decide) rfl); have hz : (((roundsS m).1.take m.ps.length).set p (m.ps.getD p default).most).length = m.ps.length := List.length_set.trans htl; have hg := c66 (A := A) (B := B) (C := C) (c := c) (d := d) (e := e) (q := cb) (l := (((roundsS m).1.take m.ps.length).set p (m.ps.getD p default).most)) (x := (m.ss.getD k default).x) (y := (m.ss.getD k default).y) (eye := (m.ss.getD k default).lo) (hH.pass hw) (hP.pass hw) hh hz (lb_set (lb_take hlb) (by omega)) ⟨g, hpn, by omega, by omega⟩ (by omega); rw [hides_eq] at hg; exact hg))) rfl ?_
    rintro ⟨Q3, q3⟩ hq3
    refine zN ?_
    refine K.seq_pure (K.assign) rfl ?_
    refine zn ?_
    refine K.seq_nil ?_
    refine K.norm_then ?_
    refine K.seq ?_
    refine K.region_lit ?_
    refine K.seq_pure (K.move) rfl ?_
    refine zn ?_
    refine K.seq_pure (K.len_sl sl_22 rfl) rfl ?_
    refine zn ?_
    refine K.seq_pure (K.Pure.eq (K.gtr rfl rfl) (show _ = Value.bool (!stkB m p k) from congrArg Value.bool hides_pos)) rfl ?_
    refine zn ?_
    refine K.seq_nil ?_
    refine K.norm_then ?_
    refine K.cond rfl (fun ht71 => ?_) (fun ht71 => ?_)
    · try replace ht71 := of_decide_eq_true ht71
      have hsb : stkB m p k = false := by simpa using ht71
      have hne : (hidesS m (stkL m p) (m.ss.getD k default).x (m.ss.getD k default).y (m.ss.getD k default).lo p) ≠ [] := by
        intro h0
        unfold stkB seesB at hsb
        rw [h0] at hsb; cases hsb
      have hpos := List.length_pos_iff.2 hne
      refine K.seq ?_
      refine K.draw_L [] Tryd_mixed ?_
      refine K.d_pure 0 rfl (K.move) (by kernel_rfl) rfl ?_
      refine zn ?_
      refine K.d_pure 1 rfl (K.move) (by kernel_rfl) rfl ?_
      refine zn ?_
      refine K.d_pure 2 rfl (K.move) (by kernel_rfl) rfl ?_
      refine zn ?_
      refine K.d_pure 3 rfl (K.move) (by kernel_rfl) rfl ?_
      refine zn ?_
      refine K.d_ix (M := [K.row (.slice Q3 (hidesS m (stkL m p) (m.ss.getD k default).x (m.ss.getD k default).y (m.ss.getD k default).lo p).length q3) 3 1 (hidesS m (stkL m p) (m.ss.getD k default).x (m.ss.getD k default).y (m.ss.getD k default).lo p).length ((hidesS m (stkL m p) (m.ss.getD k default).x (m.ss.getD k default).y (m.ss.getD k default).lo p).flatMap K.eI)]) 4 0 rfl (K.Sl.own (w0 := w) (t := 3) (c := q3) (e := K.eI) hq3 (fun _ => rfl)) sl_22 rfl rfl (by omega) (by omega) (by kernel_rfl) rfl ?_
      intro p76 hp76
      refine zN ?_
      refine K.d_mem 5 rfl (K.load1 one_3 rfl (hp76.at1 (K.m0))) (fun _ h => h) (by kernel_rfl) (by kernel_rfl) rfl ?_
      refine zN ?_
      refine K.d_pure 6 rfl (K.assign) (by kernel_rfl) rfl ?_
      refine zn ?_
      refine K.d_pure 7 rfl (K.assign) (by kernel_rfl) rfl ?_
      refine zn ?_
      refine K.d_pure 8 rfl (K.assign) (by kernel_rfl) rfl ?_
      refine zn ?_
      refine K.d_pure 9 rfl (K.assign) (by kernel_rfl) rfl ?_
      refine zn ?_
      refine K.d_pure 10 rfl (K.assign) (by kernel_rfl) rfl ?_
      refine zn ?_
      refine K.d_done (by kernel_rfl) ?_
      refine K.norm_then ?_
      refine K.ret ?_
      refine K.ret_block ?_
      refine K.ret_then ?_
      refine K.ret_then ?_
      refine K.ret_block ?_
      refine K.ret_then ?_
      refine K.end_ret (fun w _ => K.res_t5 rfl w) ?_
      have hs1 := stk_some hk2 hall hsb
      have hhd : (hidesS m (stkL m p) (m.ss.getD k default).x (m.ss.getD k default).y (m.ss.getD k default).lo p).headD 0 = (hidesS m (stkL m p) (m.ss.getD k default).x (m.ss.getD k default).y (m.ss.getD k default).lo p).getD 0 default := by
        cases (hidesS m (stkL m p) (m.ss.getD k default).x (m.ss.getD k default).y (m.ss.getD k default).lo p) with
        | nil => rfl
        | cons a xs => rfl
      exact K.gives (by unfold stuckS; rw [if_neg ht23, if_neg (by omega), hpv, Int.toNat_natCast, hs1]; simp only; rw [hhd]; rfl)
    try replace ht71 := of_decide_eq_false ht71
    have hsb : stkB m p k = true := by simpa using ht71
    refine K.skip ?_
    refine K.norm_block ?_
    refine K.norm_then ?_
    refine K.region_lit ?_
    refine K.seq_pure (K.move) rfl ?_
    refine zn ?_
    refine K.seq_pure (K.add_i64 rfl rfl (by omega)) rfl ?_
    refine zn ?_
    refine K.seq_pure (K.assign) rfl ?_
    refine zn ?_
    refine K.seq_nil ?_
    exact K.round_endW (L'' := [K.blk gb 3 ((((roundsS m).1.take m.ps.length).set p (m.ps.getD p default).most).flatMap K.eI ++ rest), K.row (.slice Q2 (roundR m ((roundsS m).1.take m.ps.length) m.ps.length).length q2) 3 1 (roundR m ((roundsS m).1.take m.ps.length) m.ps.length).length ((roundR m ((roundsS m).1.take m.ps.length) m.ps.length).flatMap K.eI), K.row (.slice Q1 ((roundsS m).1.take m.ps.length).length q1) 3 1 ((roundsS m).1.take m.ps.length).length (((roundsS m).1.take m.ps.length).flatMap K.eI), K.blk b1 26 [.int .i64 m.W, .int .i64 m.D, .slice A m.hs.length c, .slice B m.ps.length d, .slice C m.ss.length e]]) [.int .i64 ((k : Int) + 1)] ⟨k + 1, rfl, rfl, by omega, K.lt_succ_case hall hsb⟩ (by simp [K.nth, intOf]; omega) (by repeat (first | exact List.Sublist.refl _ | apply List.Sublist.cons)) (by kernel_rfl)
  try replace ht50 := of_decide_eq_false ht50
  refine K.exit ?_
  refine K.exit_then ?_
  refine K.exit_then ?_
  refine K.exit_here ?_
  refine K.norm_then ?_
  refine K.seq ?_
  refine K.region_lit ?_
  refine K.seq_pure (K.assign) rfl ?_
  refine zn ?_
  refine K.seq_pure (K.assign) rfl ?_
  refine zn ?_
  refine K.seq_pure (K.assign) rfl ?_
  refine zn ?_
  refine K.seq_pure (K.assign) rfl ?_
  refine zn ?_
  refine K.seq_pure (K.assign) rfl ?_
  refine zn ?_
  refine K.seq_nil ?_
  refine K.norm_then ?_
  refine K.ret ?_
  refine K.end_ret (fun w _ => K.res_t5 rfl w) ?_
  have hs0 := stk_none (fun i hi => hall i (by omega))
  exact K.gives (by unfold stuckS; rw [if_neg ht23, if_neg (by omega), hpv, Int.toNat_natCast, hs0]; rfl)

set_option maxRecDepth 100000 in
set_option maxHeartbeats 1000000 in
theorem c4 {m : Mod} {A B C : Option Addr} {c d e : Nat} {w : World} (hH : K.Rd w A 1 K.eI m.hs) (hP : K.Rd w B 5 eN m.ps) (hS : K.Rd w C 4 eS m.ss) (hn : m.hs.length ≤ 4611686018427387904) (hm : m.ps.length ≤ 4611686018427387904) (hk : m.ss.length ≤ 4611686018427387904) (hcd : m.ps.length ≤ d) (hT : Tab w) :
    Calls Tryd.prog 4 [.agg #[.int .i64 m.W, .int .i64 m.D, .slice A m.hs.length c, .slice B m.ps.length d, .slice C m.ss.length e]].toArray w (K.Gives (.bool true) w) := by
  have hl1 := @lng_len6 m
  refine K.enter (args := [.agg #[.int .i64 m.W, .int .i64 m.D, .slice A m.hs.length c, .slice B m.ps.length d, .slice C m.ss.length e]]) Tryd.func4 rfl (n := 75) rfl ?_
  simp only [List.replicate, List.cons_append, List.nil_append]
  refine K.seq ?_
  refine K.region_lit ?_
  refine K.seq_new (K.box) rfl ?_
  intro b1
  refine zN ?_
  refine K.seq_pure (K.assign) rfl ?_
  refine zn ?_
  refine K.seq_nil ?_
  refine K.norm_then ?_
  refine K.seq ?_
  refine K.region_lit ?_
  refine K.seq_sil (K.loadA_own ag_26 rfl (K.m0) rfl) rfl ?_
  refine zN ?_
  refine K.seq_loud (K.call_f cal_26 (fun F w hF hw => c26 (hH.pass hw) (hP.pass hw) (hS.pass hw) hn hm hk hcd)) rfl ?_
  rintro ⟨A1, a1⟩ hq1
  refine zN ?_
  refine K.seq_pure (K.move) rfl ?_
  refine zn ?_
  refine K.seq_pure (K.extract rfl rfl) rfl ?_
  refine zn ?_
  refine K.seq_pure (K.extract rfl rfl) rfl ?_
  refine zn ?_
  refine K.seq_pure (K.assign) rfl ?_
  refine zn ?_
  refine K.seq_pure (K.assign) rfl ?_
  refine zn ?_
  refine K.seq_nil ?_
  refine K.norm_then ?_
  refine K.seq ?_
  refine K.region_lit ?_
  refine K.seq_sil (K.loadA_own ag_26 rfl (K.m1) rfl) rfl ?_
  refine zN ?_
  refine K.seq_loud (K.call_f cal_27 (fun F w hF hw => c27 (hH.pass hw) (hP.pass hw) (hS.pass hw) hn hm hk)) rfl ?_
  rintro ⟨A2, a2⟩ hq2
  refine zN ?_
  refine K.seq_pure (K.move) rfl ?_
  refine zn ?_
  refine K.seq_pure (K.extract rfl rfl) rfl ?_
  refine zn ?_
  refine K.seq_pure (K.extract rfl rfl) rfl ?_
  refine zn ?_
  refine K.seq_pure (K.assign) rfl ?_
  refine zn ?_
  refine K.seq_pure (K.assign) rfl ?_
  refine zn ?_
  refine K.seq_nil ?_
  refine K.norm_then ?_
  refine K.seq ?_
  refine K.seq ?_
  refine K.region_lit ?_
  refine K.seq_pure (K.move) rfl ?_
  refine zn ?_
  refine K.seq_pure (K.move) rfl ?_
  refine zn ?_
  refine K.seq_call (K.call_g cal_20 (fun F w hF hw => (by have hA := (K.Rd.own (e := K.eI) (xs := (lngL m)) hw (hF _ (K.m1)) hq1 (fun _ => rfl) (by decide)); have hB := (K.Rd.own (e := K.eI) (xs := (lngL m)) hw (hF _ (K.m0)) hq2 (fun _ => rfl) (by decide)); exact c20t (xs := (lngL m)) hA hB hl1))) rfl ?_
  refine zN ?_
  first | refine K.seq_pure (K.Pure.eq (K.not_d rfl) (show _ = Value.bool false from rfl)) rfl ?_ | refine K.seq_pure (K.Pure.eq (K.not_ rfl) (show _ = Value.bool false from rfl)) rfl ?_
  refine zN ?_
  refine K.seq_pure (K.move) rfl ?_
  refine zn ?_
  refine K.seq_pure (K.move) rfl ?_
  refine zn ?_
  refine K.seq_pure (K.move) rfl ?_
  refine zn ?_
  refine K.seq_pure (K.Pure.eq (K.neq rfl rfl) (show _ = Value.bool false from congrArg Value.bool (by simp))) rfl ?_
  refine zn ?_
  refine K.seq_pure (K.pick_f rfl) rfl ?_
  refine zn ?_
  refine K.seq_nil ?_
  refine K.norm_then ?_
  refine K.cond_false rfl ?_
  refine K.skip ?_
  refine K.norm_then ?_
  refine K.seq ?_
  refine K.region_lit ?_
  refine K.seq_sil (K.loadA_own ag_26 rfl (K.m2) rfl) rfl ?_
  refine zN ?_
  refine K.seq_call (K.call_g cal_28 (fun F w hF hw => c28 (hH.pass hw) (hP.pass hw) (hS.pass hw) hn hm hk hcd)) rfl ?_
  refine zN ?_
  refine K.seq_pure (K.move) rfl ?_
  refine zn ?_
  refine K.seq_pure (K.extract rfl rfl) rfl ?_
  refine zn ?_
  refine K.seq_pure (K.extract rfl rfl) rfl ?_
  refine zn ?_
  refine K.seq_pure (K.extract rfl rfl) rfl ?_
  refine zn ?_
  refine K.seq_pure (K.extract rfl rfl) rfl ?_
  refine zn ?_
  refine K.seq_pure (K.extract rfl rfl) rfl ?_
  refine zn ?_
  refine K.seq_pure (K.assign) rfl ?_
  refine zn ?_
  refine K.seq_pure (K.assign) rfl ?_
  refine zn ?_
  refine K.seq_pure (K.assign) rfl ?_
  refine zn ?_
  refine K.seq_pure (K.assign) rfl ?_
  refine zn ?_
  refine K.seq_pure (K.assign) rfl ?_
  refine zn ?_
  refine K.seq_nil ?_
  refine K.norm_then ?_
  refine K.seq ?_
  refine K.region_lit ?_
  refine K.seq_sil (K.loadA_own ag_26 rfl (K.m2) rfl) rfl ?_
  refine zN ?_
  refine K.seq_call (K.call_g cal_29 (fun F w hF hw => c29 (hH.pass hw) (hP.pass hw) (hS.pass hw) hn hm hk)) rfl ?_
  refine zN ?_
  refine K.seq_pure (K.move) rfl ?_
  refine zn ?_
  refine K.seq_pure (K.extract rfl rfl) rfl ?_
  refine zn ?_
  refine K.seq_pure (K.extract rfl rfl) rfl ?_
  refine zn ?_
  refine K.seq_pure (K.extract rfl rfl) rfl ?_
  refine zn ?_
  refine K.seq_pure (K.extract rfl rfl) rfl ?_
  refine zn ?_
  refine K.seq_pure (K.extract rfl rfl) rfl ?_
  refine zn ?_
  refine K.seq_pure (K.assign) rfl ?_
  refine zn ?_
  refine K.seq_pure (K.assign) rfl ?_
  refine zn ?_
  refine K.seq_pure (K.assign) rfl ?_
  refine zn ?_
  refine K.seq_pure (K.assign) rfl ?_
  refine zn ?_
  refine K.seq_pure (K.assign) rfl ?_
  refine zn ?_
  refine K.seq_nil ?_
  refine K.norm_then ?_
  refine K.seq ?_
  refine K.region_lit ?_
  refine K.seq_pure (K.move) rfl ?_
  refine zn ?_
  refine K.seq_pure (K.move) rfl ?_
  refine zn ?_
  refine K.seq_pure (K.Pure.eq (K.eql rfl rfl) (show _ = Value.bool true from congrArg Value.bool (by simp))) rfl ?_
  refine zn ?_
  refine K.seq_pure (K.move) rfl ?_
  refine zn ?_
  refine K.seq_pure (K.move) rfl ?_
  refine zn ?_
  refine K.seq_pure (K.move) rfl ?_
  refine zn ?_
  refine K.seq_pure (K.Pure.eq (K.eql rfl rfl) (show _ = Value.bool true from congrArg Value.bool (by simp))) rfl ?_
  refine zn ?_
  refine K.seq_pure (K.pick_t rfl) rfl ?_
  refine zn ?_
  refine K.seq_pure (K.move) rfl ?_
  refine zn ?_
  refine K.seq_pure (K.move) rfl ?_
  refine zn ?_
  refine K.seq_pure (K.move) rfl ?_
  refine zn ?_
  refine K.seq_pure (K.Pure.eq (K.eql rfl rfl) (show _ = Value.bool true from congrArg Value.bool (by simp))) rfl ?_
  refine zn ?_
  refine K.seq_pure (K.pick_t rfl) rfl ?_
  refine zn ?_
  refine K.seq_pure (K.move) rfl ?_
  refine zn ?_
  refine K.seq_pure (K.move) rfl ?_
  refine zn ?_
  refine K.seq_pure (K.move) rfl ?_
  refine zn ?_
  refine K.seq_pure (K.Pure.eq (K.eql rfl rfl) (show _ = Value.bool true from congrArg Value.bool (by simp))) rfl ?_
  refine zn ?_
  refine K.seq_pure (K.pick_t rfl) rfl ?_
  refine zn ?_
  refine K.seq_pure (K.move) rfl ?_
  refine zn ?_
  refine K.seq_pure (K.move) rfl ?_
  refine zn ?_
  refine K.seq_pure (K.move) rfl ?_
  refine zn ?_
  refine K.seq_pure (K.Pure.eq (K.eql rfl rfl) (show _ = Value.bool true from congrArg Value.bool (by simp))) rfl ?_
  refine zn ?_
  refine K.seq_pure (K.pick_t rfl) rfl ?_
  refine zn ?_
  refine K.seq_pure (K.move) rfl ?_
  refine zn ?_
  refine K.seq_call (K.call_g cal_25 (fun F w hF hw => c25 (hT.pass hw))) rfl ?_
  refine zN ?_
  refine K.seq_pure (K.pick_t rfl) rfl ?_
  refine zn ?_
  refine K.seq_pure (K.assign) rfl ?_
  refine zn ?_
  refine K.seq_nil ?_
  refine K.norm_then ?_
  refine K.ret ?_
  refine K.end_ret (fun w _ => K.res_tmp rfl w) ?_
  exact K.gives rfl

end Go.Proofs.YthkgnhcknkjgdaaDoor
