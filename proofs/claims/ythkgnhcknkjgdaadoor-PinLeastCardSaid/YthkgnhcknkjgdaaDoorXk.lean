/-
  Walks of the program's functions, printed by program: what each returns.
  Conditions stand in each theorem.
-/
import Derived.WalkArith
import Derived.Laws.Closers25b
import Derived.Test.YthkgnhcknkjgdaaDoorXj
import Derived.Test.YthkgnhcknkjgdaaDoorXh
set_option linter.unusedSimpArgs false
set_option linter.unusedVariables false
namespace Go.Proofs.YthkgnhcknkjgdaaDoor
open Go.RowKit Go
open Go.K (setd setn ev nth over cl eI eP eT setM setF)
attribute [local irreducible] K.blk K.row

set_option maxRecDepth 100000 in
theorem e7 {m : Mod} {A B C : Option Addr} {c d e : Nat} {Y : Option Addr} {cy : Nat} {ys : List Int} {w : World} (hH : K.Rd w A 1 K.eI m.hs) (hP : K.Rd w B 5 eN m.ps) (hS : K.Rd w C 4 eS m.ss) (hn : m.hs.length ≤ 4611686018427387904) (hm : m.ps.length ≤ 4611686018427387904) (hk : m.ss.length ≤ 4611686018427387904) (hcd : m.ps.length ≤ d) (hT : Tab w) (hY : K.Rd w Y 1 eH ys) (hyb : ∀ x ∈ ys, 0 ≤ x ∧ x ≤ 65535) (hyl : ys.length ≤ 140737488351232) (hc : (chk m).2.2 ≠ 0) :
    Calls Tryd.prog 7 [.agg #[.int .i64 m.W, .int .i64 m.D, .slice A m.hs.length c, .slice B m.ps.length d, .slice C m.ss.length e], .slice Y ys.length cy].toArray w (K.Gives (.bool true) w) := by
  have he : lngE m = (chk m).2.2 := by unfold lngE; rw [if_pos hc]
  have hl0 : lngL m = [] := by unfold lngL; rw [if_neg (by omega)]
  refine K.enter (args := [.agg #[.int .i64 m.W, .int .i64 m.D, .slice A m.hs.length c, .slice B m.ps.length d, .slice C m.ss.length e], .slice Y ys.length cy]) Tryd.func7 rfl (n := 111) rfl ?_
  simp only [List.replicate, List.cons_append, List.nil_append]
  refine sr ?_
  refine K.seq_new (K.box) rfl ?_
  intro b2
  refine zN ?_
  refine qa ?_
  refine sn ?_
  refine sr ?_
  refine K.seq_sil (K.loadA_own ag_26 rfl (K.m0) rfl) rfl ?_
  refine zN ?_
  refine K.seq_loud (K.call_f cal_26 (fun F w hF hw => c26 (hH.pass hw) (hP.pass hw) (hS.pass hw) hn hm hk hcd)) rfl ?_
  rintro ⟨A1, a1⟩ hq1
  refine zN ?_
  refine qm ?_
  refine qx ?_
  refine qx ?_
  iterate 2 refine qa ?_
  refine sn ?_
  refine K.seq ?_
  refine sr ?_
  refine K.seq_sil (K.loadA_own ag_26 rfl (K.m1) rfl) rfl ?_
  refine zN ?_
  refine K.seq_call (K.call_g cal_37 (fun F w hF hw => c37 (hH.pass hw) (hP.pass hw) (hS.pass hw) hn hm hk)) rfl ?_
  refine zN ?_
  first | refine K.seq_pure (K.Pure.eq (K.not_d rfl) (show _ = Value.bool true from congrArg Value.bool (by simp [hc]))) rfl ?_ | refine K.seq_pure (K.Pure.eq (K.not_ rfl) (show _ = Value.bool true from congrArg Value.bool (by simp [hc]))) rfl ?_
  refine zN ?_
  refine sn ?_
  refine K.cond_true rfl ?_
  refine sr ?_
  refine qm ?_
  refine qp (K.Pure.eq (K.neq rfl rfl) (show _ = Value.bool true from congrArg Value.bool (by simp [he, hc]))) ?_
  iterate 2 refine qm ?_
  refine qp (K.len_sl sl_22 rfl) ?_
  refine qp (K.Pure.eq (K.eql rfl rfl) (show _ = Value.bool true from congrArg Value.bool (by simp [hl0]))) ?_
  refine qp (K.pick_t rfl) ?_
  refine qm ?_
  refine K.seq_call (K.call_g cal_25 (fun F w hF hw => c25 (hT.pass hw))) rfl ?_
  refine zN ?_
  refine qp (K.pick_t rfl) ?_
  refine qa ?_
  refine sn ?_
  refine K.ret ?_
  refine K.ret_then ?_
  refine K.end_ret (fun w _ => K.res_tmp rfl w) ?_
  exact K.gives rfl

set_option maxRecDepth 100000 in
set_option maxHeartbeats 1000000 in
theorem g7 {m : Mod} {A B C : Option Addr} {c d e : Nat} {Y : Option Addr} {cy : Nat} {ys : List Int} {w : World} (hH : K.Rd w A 1 K.eI m.hs) (hP : K.Rd w B 5 eN m.ps) (hS : K.Rd w C 4 eS m.ss) (hn : m.hs.length ≤ 4611686018427387904) (hm : m.ps.length ≤ 4611686018427387904) (hk : m.ss.length ≤ 4611686018427387904) (hcd : m.ps.length ≤ d) (hT : Tab w) (hY : K.Rd w Y 1 eH ys) (hyb : ∀ x ∈ ys, 0 ≤ x ∧ x ≤ 65535) (hyl : ys.length ≤ 140737488351232) (hc : (chk m).2.2 = 0) :
    Calls Tryd.prog 7 [.agg #[.int .i64 m.W, .int .i64 m.D, .slice A m.hs.length c, .slice B m.ps.length d, .slice C m.ss.length e], .slice Y ys.length cy].toArray w (K.Gives (.bool true) w) := by
  have g := chk_good hc
  have hgn := g.n
  have hin : InB m (anyL m ys m.ps.length) := any_in g
  have hlb := hin.lb g
  have hcl := long_chk hc hin
  have hlo := lng_or hc
  have hol := hin.n
  refine K.enter (args := [.agg #[.int .i64 m.W, .int .i64 m.D, .slice A m.hs.length c, .slice B m.ps.length d, .slice C m.ss.length e], .slice Y ys.length cy]) Tryd.func7 rfl (n := 111) rfl ?_
  simp only [List.replicate, List.cons_append, List.nil_append]
  refine sr ?_
  refine K.seq_new (K.box) rfl ?_
  intro b2
  refine zN ?_
  refine qa ?_
  refine sn ?_
  refine sr ?_
  refine K.seq_sil (K.loadA_own ag_26 rfl (K.m0) rfl) rfl ?_
  refine zN ?_
  refine K.seq_loud (K.call_f cal_26 (fun F w hF hw => c26 (hH.pass hw) (hP.pass hw) (hS.pass hw) hn hm hk hcd)) rfl ?_
  rintro ⟨A1, a1⟩ hq1
  refine zN ?_
  refine qm ?_
  refine qx ?_
  refine qx ?_
  iterate 2 refine qa ?_
  refine sn ?_
  refine K.seq ?_
  refine sr ?_
  refine K.seq_sil (K.loadA_own ag_26 rfl (K.m1) rfl) rfl ?_
  refine zN ?_
  refine K.seq_call (K.call_g cal_37 (fun F w hF hw => c37 (hH.pass hw) (hP.pass hw) (hS.pass hw) hn hm hk)) rfl ?_
  refine zN ?_
  first | refine K.seq_pure (K.Pure.eq (K.not_d rfl) (show _ = Value.bool false from congrArg Value.bool (by simp [hc]))) rfl ?_ | refine K.seq_pure (K.Pure.eq (K.not_ rfl) (show _ = Value.bool false from congrArg Value.bool (by simp [hc]))) rfl ?_
  refine zN ?_
  refine sn ?_
  refine K.cond_false rfl ?_
  refine K.skip ?_
  refine K.norm_then ?_
  refine sr ?_
  refine K.seq_sil (K.loadA_own ag_26 rfl (K.m1) rfl) rfl ?_
  refine zN ?_
  refine qm ?_
  refine K.seq_loud (K.call_f cal_38 (fun F w hF hw => c38 (hP.pass hw) g (hY.pass hw) hyb hyl)) rfl ?_
  rintro ⟨A2, a2⟩ hq2
  refine zN ?_
  refine qa ?_
  refine sn ?_
  refine sr ?_
  refine K.seq_sil (K.loadA_own ag_26 rfl (K.m2) rfl) rfl ?_
  refine zN ?_
  refine qm ?_
  refine K.seq_loud (K.call_f cal_40 (fun F w hF hw => (by have hh := (K.Rd.own (e := K.eI) (xs := (anyL m ys m.ps.length)) hw (hF _ (K.m0)) hq2 (fun _ => rfl) (by decide)); exact c40 (l := (anyL m ys m.ps.length)) (hP.pass hw) hh hol hgn))) rfl ?_
  rintro ⟨A3, a3⟩ ⟨hq3, ho3⟩
  refine zN ?_
  refine K.seq_call (K.call_g cal_39 (fun F w hF hw => (by have hg := c39 (m := longM m (anyL m ys m.ps.length)) (A := A) (B := A3) (C := C) (c := c) (d := a3) (e := e) (hH.pass hw) (K.Rd.own (e := eN) (xs := (longM m (anyL m ys m.ps.length)).ps) hw (hF _ (K.m0)) hq3 (fun _ => rfl) (by decide)) (hS.pass hw) hn (by rw [long_n]; omega) hk ho3 (hT.pass hw) hcl; rw [long_all hin] at hg; exact hg))) rfl ?_
  refine zN ?_
  refine qa ?_
  refine sn ?_
  refine K.seq ?_
  refine sr ?_
  refine qm ?_
  refine K.seq_sil (K.loadA_own ag_26 rfl (K.m3) rfl) rfl ?_
  refine zN ?_
  refine qm ?_
  refine K.seq_call (K.call_g cal_41 (fun F w hF hw => (by have hh := (K.Rd.own (e := K.eI) (xs := (anyL m ys m.ps.length)) hw (hF _ (K.m1)) hq2 (fun _ => rfl) (by decide)); exact c41 (l := (anyL m ys m.ps.length)) (hH.pass hw) (hP.pass hw) (hS.pass hw) hh hol hlb g))) rfl ?_
  refine zN ?_
  refine qp (K.Pure.eq (K.neq_bb bo_4 rfl rfl) (show _ = Value.bool false from congrArg Value.bool (by simp))) ?_
  refine sn ?_
  refine K.cond_false rfl ?_
  refine K.skip ?_
  refine K.norm_then ?_
  refine K.seq ?_
  refine sr ?_
  refine qm ?_
  refine qp (K.neq rfl rfl) ?_
  refine sn ?_
  refine K.cond rfl (fun ht41 => ?_) (fun ht41 => ?_)
  · try replace ht41 := of_decide_eq_true ht41
    have h9 := lng_9 hc (by omega)
    have hsn := lng_none hc hin ht41
    refine sr ?_
    refine qm ?_
    refine qp (K.Pure.eq (K.eql rfl rfl) (show _ = Value.bool true from congrArg Value.bool (by simp [h9.1]))) ?_
    iterate 2 refine qm ?_
    refine qp (K.len_sl sl_22 rfl) ?_
    refine qp (K.Pure.eq (K.eql rfl rfl) (show _ = Value.bool true from congrArg Value.bool (by simp [h9.2]))) ?_
    refine qp (K.pick_t rfl) ?_
    iterate 2 refine qm ?_
    first | refine K.seq_pure (K.Pure.eq (K.not_d rfl) (show _ = Value.bool true from by rw [hsn]; rfl)) rfl ?_ | refine K.seq_pure (K.Pure.eq (K.not_ rfl) (show _ = Value.bool true from by rw [hsn]; rfl)) rfl ?_
    refine zN ?_
    refine qp (K.pick_t rfl) ?_
    refine qm ?_
    refine K.seq_call (K.call_g cal_25 (fun F w hF hw => c25 (hT.pass hw))) rfl ?_
    refine zN ?_
    refine qp (K.pick_t rfl) ?_
    refine qa ?_
    refine sn ?_
    refine K.ret ?_
    refine K.ret_then ?_
    refine K.end_ret (fun w _ => K.res_tmp rfl w) ?_
    exact K.gives rfl
  try replace ht41 := of_decide_eq_false ht41
  have h0 : lngE m = 0 := by omega
  have hin1 := lng_in hc h0
  have hsh := lng_shows hc h0
  have hl1 := hin1.n
  refine K.skip ?_
  refine K.norm_then ?_
  refine K.seq ?_
  refine sr ?_
  refine qm ?_
  refine qp (K.len_sl sl_22 rfl) ?_
  refine qp (K.fieldAddr_lit fo_26_3 rfl) ?_
  refine K.seq_sil (K.load1_own one_23 rfl (K.m3) rfl) rfl ?_
  refine zN ?_
  refine qp (K.len_sl sl_23 rfl) ?_
  refine qp (K.Pure.eq (K.neq rfl rfl) (show _ = Value.bool false from congrArg Value.bool (by simp [hin1.n]))) ?_
  refine sn ?_
  refine K.cond_false rfl ?_
  refine K.skip ?_
  refine K.norm_then ?_
  refine K.seq ?_
  refine sr ?_
  refine qa ?_
  refine sn ?_
  refine K.block ?_
  refine K.loopW [9] [4, 62, 63, 64, 65, 66, 67, 68, 69, 70, 71, 72, 73, 74, 75, 76, 77, 78, 79, 80, 81, 82, 83, 84, 85, 86, 87, 88, 89, 90, 91, 92, 93, 94, 95, 96, 97, 98, 99, 100, 101, 102, 103, 104, 105] (fun vi L => ∃ k : Nat, vi = [.int .i64 (k : Int)] ∧ L = [K.row (.slice A3 (longM m (anyL m ys m.ps.length)).ps.length a3) 54 5 (longM m (anyL m ys m.ps.length)).ps.length ((longM m (anyL m ys m.ps.length)).ps.flatMap eN), K.row (.slice A2 (anyL m ys m.ps.length).length a2) 3 1 (anyL m ys m.ps.length).length ((anyL m ys m.ps.length).flatMap K.eI), K.row (.slice A1 (lngL m).length a1) 3 1 (lngL m).length ((lngL m).flatMap K.eI), K.blk b2 26 [.int .i64 m.W, .int .i64 m.D, .slice A m.hs.length c, .slice B m.ps.length d, .slice C m.ss.length e]] ∧ k ≤ (lngL m).length) (fun vi => (lngL m).length - (intOf (K.nth vi 0)).toNat) ?_ ?_
  · exact ⟨0, rfl, rfl, Nat.zero_le _⟩
  intro vi vr L hJ
  obtain ⟨k, rfl, rfl, hkn⟩ := hJ
  try dsimp only [setd, setn, ev, nth, over, cl, eI, eP, eT, eN, eS, setM, setF, List.map, List.append, List.drop, List.take]
  refine K.seq ?_
  refine sr ?_
  iterate 2 refine qm ?_
  refine qp (K.len_sl sl_22 rfl) ?_
  refine qp (K.lss rfl rfl) ?_
  refine sn ?_
  refine K.cond rfl (fun ht65 => ?_) (fun ht65 => ?_)
  · try replace ht65 := of_decide_eq_true ht65
    have hk1 : k < (lngL m).length := by omega
    have hbk := hin1.b k (by omega)
    refine K.skip ?_
    refine K.norm_then ?_
    refine K.seq ?_
    refine K.block ?_
    refine K.seq ?_
    refine K.draw_L [] Tryd_mixed ?_
    refine K.d_pure 0 rfl (K.move) (by kernel_rfl) rfl ?_
    refine zn ?_
    refine K.d_pure 1 rfl (K.move) (by kernel_rfl) rfl ?_
    refine zn ?_
    refine K.d_ix (M := [K.row (.slice A1 (lngL m).length a1) 3 1 (lngL m).length ((lngL m).flatMap K.eI)]) 2 _ rfl (K.Sl.own (w0 := w) (t := 3) (c := a1) (e := K.eI) hq1 (fun _ => rfl)) sl_22 rfl rfl rfl (by omega) (by kernel_rfl) rfl ?_
    intro p70 hp70
    refine zN ?_
    refine K.d_mem 3 rfl (K.load1 one_3 rfl (hp70.at1 (K.m2))) (fun _ h => h) (by kernel_rfl) (by kernel_rfl) rfl ?_
    refine zN ?_
    refine K.d_pure 4 rfl (K.fieldAddr_lit fo_26_3 rfl) (by kernel_rfl) rfl ?_
    refine zn ?_
    refine K.d_mem 5 rfl (K.load1_own one_23 rfl (K.m3) rfl) (fun _ h => h) (by kernel_rfl) (by kernel_rfl) rfl ?_
    refine zN ?_
    refine K.d_pure 6 rfl (K.move) (by kernel_rfl) rfl ?_
    refine zn ?_
    refine K.d_ix (M := []) 7 _ rfl hP.sl sl_23 rfl rfl rfl (by omega) (by kernel_rfl) rfl ?_
    intro p75 hp75
    refine zN ?_
    refine K.d_pure 8 rfl (K.fieldAddr fo_54_3 rfl) (by kernel_rfl) rfl ?_
    refine zn ?_
    refine K.d_mem 9 rfl (K.load1 one_3 rfl ((K.PtrL.fld hp75 (k := 3)).any)) (fun _ h => h) (by kernel_rfl) (by kernel_rfl) rfl ?_
    refine zN ?_
    refine K.d_pure 10 rfl (K.Pure.eq (K.lss rfl rfl) (show _ = Value.bool false from congrArg Value.bool (decide_eq_false (by omega)))) (by kernel_rfl) rfl ?_
    refine zn ?_
    refine K.d_pure 11 rfl (K.move) (by kernel_rfl) rfl ?_
    refine zn ?_
    refine K.d_pure 12 rfl (K.move) (by kernel_rfl) rfl ?_
    refine zn ?_
    refine K.d_pure 13 rfl (K.move) (by kernel_rfl) rfl ?_
    refine zn ?_
    refine K.d_ix (M := [K.row (.slice A1 (lngL m).length a1) 3 1 (lngL m).length ((lngL m).flatMap K.eI)]) 14 _ rfl (K.Sl.own (w0 := w) (t := 3) (c := a1) (e := K.eI) hq1 (fun _ => rfl)) sl_22 rfl rfl rfl (by omega) (by kernel_rfl) rfl ?_
    intro p82 hp82
    refine zN ?_
    refine K.d_mem 15 rfl (K.load1 one_3 rfl (hp82.at1 (K.m2))) (fun _ h => h) (by kernel_rfl) (by kernel_rfl) rfl ?_
    refine zN ?_
    refine K.d_pure 16 rfl (K.fieldAddr_lit fo_26_3 rfl) (by kernel_rfl) rfl ?_
    refine zn ?_
    refine K.d_mem 17 rfl (K.load1_own one_23 rfl (K.m3) rfl) (fun _ h => h) (by kernel_rfl) (by kernel_rfl) rfl ?_
    refine zN ?_
    refine K.d_pure 18 rfl (K.move) (by kernel_rfl) rfl ?_
    refine zn ?_
    refine K.d_ix (M := []) 19 _ rfl hP.sl sl_23 rfl rfl rfl (by omega) (by kernel_rfl) rfl ?_
    intro p87 hp87
    refine zN ?_
    refine K.d_pure 20 rfl (K.fieldAddr fo_54_4 rfl) (by kernel_rfl) rfl ?_
    refine zn ?_
    refine K.d_mem 21 rfl (K.load1 one_3 rfl ((K.PtrL.fld hp87 (k := 4)).any)) (fun _ h => h) (by kernel_rfl) (by kernel_rfl) rfl ?_
    refine zN ?_
    refine K.d_pure 22 rfl (K.Pure.eq (K.gtr rfl rfl) (show _ = Value.bool false from congrArg Value.bool (decide_eq_false (by omega)))) (by kernel_rfl) rfl ?_
    refine zn ?_
    refine K.d_pure 23 rfl (K.pick_f rfl) (by kernel_rfl) rfl ?_
    refine zn ?_
    refine K.d_pure 24 rfl (K.move) (by kernel_rfl) rfl ?_
    refine zn ?_
    refine K.d_pure 25 rfl (K.move) (by kernel_rfl) rfl ?_
    refine zn ?_
    refine K.d_pure 26 rfl (K.move) (by kernel_rfl) rfl ?_
    refine zn ?_
    refine K.dsplit 94 rfl (fun hg94 => ?_) (fun hg94 => ?_)
    · try replace hg94 := of_decide_eq_true hg94
      have hle := (lng_least hc hin hg94).2 k (by omega)
      refine K.d_pure 27 rfl (K.move) (by kernel_rfl) rfl ?_
      refine zn ?_
      refine K.d_pure 28 rfl (K.move) (by kernel_rfl) rfl ?_
      refine zn ?_
      refine K.d_ix (M := [K.row (.slice A2 (anyL m ys m.ps.length).length a2) 3 1 (anyL m ys m.ps.length).length ((anyL m ys m.ps.length).flatMap K.eI)]) 29 _ rfl (K.Sl.own (w0 := w) (t := 3) (c := a2) (e := K.eI) hq2 (fun _ => rfl)) sl_22 rfl rfl rfl (by omega) (by kernel_rfl) rfl ?_
      intro p97 hp97
      refine zN ?_
      refine K.d_mem 30 rfl (K.load1 one_3 rfl (hp97.at1 (K.m1))) (fun _ h => h) (by kernel_rfl) (by kernel_rfl) rfl ?_
      refine zN ?_
      refine K.d_pure 31 rfl (K.move) (by kernel_rfl) rfl ?_
      refine zn ?_
      refine K.d_pure 32 rfl (K.move) (by kernel_rfl) rfl ?_
      refine zn ?_
      refine K.d_ix (M := [K.row (.slice A1 (lngL m).length a1) 3 1 (lngL m).length ((lngL m).flatMap K.eI)]) 33 _ rfl (K.Sl.own (w0 := w) (t := 3) (c := a1) (e := K.eI) hq1 (fun _ => rfl)) sl_22 rfl rfl rfl (by omega) (by kernel_rfl) rfl ?_
      intro p101 hp101
      refine zN ?_
      refine K.d_mem 34 rfl (K.load1 one_3 rfl (hp101.at1 (K.m2))) (fun _ h => h) (by kernel_rfl) (by kernel_rfl) rfl ?_
      refine zN ?_
      refine K.d_pure 35 rfl (K.Pure.eq (K.lss rfl rfl) (show _ = Value.bool false from congrArg Value.bool (decide_eq_false (by omega)))) (by kernel_rfl) rfl ?_
      refine zn ?_
      refine K.d_pure 36 rfl (K.pick_t rfl) (by kernel_rfl) rfl ?_
      refine zn ?_
      refine K.d_pure 37 rfl (K.pick_f rfl) (by kernel_rfl) rfl ?_
      refine zn ?_
      refine K.d_done (by kernel_rfl) ?_
      refine K.norm_then ?_
      refine K.cond_false rfl ?_
      refine K.skip ?_
      refine K.norm_block ?_
      refine K.norm_then ?_
      refine K.region_lit ?_
      refine qm ?_
      refine qp (K.add_i64 rfl rfl (by omega)) ?_
      refine qa ?_
      refine K.seq_nil ?_
      exact K.round_endW (L'' := [K.row (.slice A3 (longM m (anyL m ys m.ps.length)).ps.length a3) 54 5 (longM m (anyL m ys m.ps.length)).ps.length ((longM m (anyL m ys m.ps.length)).ps.flatMap eN), K.row (.slice A2 (anyL m ys m.ps.length).length a2) 3 1 (anyL m ys m.ps.length).length ((anyL m ys m.ps.length).flatMap K.eI), K.row (.slice A1 (lngL m).length a1) 3 1 (lngL m).length ((lngL m).flatMap K.eI), K.blk b2 26 [.int .i64 m.W, .int .i64 m.D, .slice A m.hs.length c, .slice B m.ps.length d, .slice C m.ss.length e]]) [.int .i64 ((k : Int) + 1)] ⟨k + 1, rfl, rfl, by omega⟩ (by simp [K.nth, intOf]; omega) (List.Sublist.refl _) (by kernel_rfl)
    try replace hg94 := of_decide_eq_false hg94
    refine K.d_skip 27 rfl (by kernel_rfl) rfl ?_
    refine zN ?_
    refine K.d_skip 28 rfl (by kernel_rfl) rfl ?_
    refine zN ?_
    refine K.d_skip 29 rfl (by kernel_rfl) rfl ?_
    refine zN ?_
    refine K.d_skip 30 rfl (by kernel_rfl) rfl ?_
    refine zN ?_
    refine K.d_skip 31 rfl (by kernel_rfl) rfl ?_
    refine zN ?_
    refine K.d_skip 32 rfl (by kernel_rfl) rfl ?_
    refine zN ?_
    refine K.d_skip 33 rfl (by kernel_rfl) rfl ?_
    refine zN ?_
    refine K.d_skip 34 rfl (by kernel_rfl) rfl ?_
    refine zN ?_
    refine K.d_skip 35 rfl (by kernel_rfl) rfl ?_
    refine zN ?_
    refine K.d_pure 36 rfl (K.pick_f rfl) (by kernel_rfl) rfl ?_
    refine zn ?_
    refine K.d_pure 37 rfl (K.pick_f rfl) (by kernel_rfl) rfl ?_
    refine zn ?_
    refine K.d_done (by kernel_rfl) ?_
    refine K.norm_then ?_
    refine K.cond_false rfl ?_
    refine K.skip ?_
    refine K.norm_block ?_
    refine K.norm_then ?_
    refine K.region_lit ?_
    refine qm ?_
    refine qp (K.add_i64 rfl rfl (by omega)) ?_
    refine qa ?_
    refine K.seq_nil ?_
    exact K.round_endW (L'' := [K.row (.slice A3 (longM m (anyL m ys m.ps.length)).ps.length a3) 54 5 (longM m (anyL m ys m.ps.length)).ps.length ((longM m (anyL m ys m.ps.length)).ps.flatMap eN), K.row (.slice A2 (anyL m ys m.ps.length).length a2) 3 1 (anyL m ys m.ps.length).length ((anyL m ys m.ps.length).flatMap K.eI), K.row (.slice A1 (lngL m).length a1) 3 1 (lngL m).length ((lngL m).flatMap K.eI), K.blk b2 26 [.int .i64 m.W, .int .i64 m.D, .slice A m.hs.length c, .slice B m.ps.length d, .slice C m.ss.length e]]) [.int .i64 ((k : Int) + 1)] ⟨k + 1, rfl, rfl, by omega⟩ (by simp [K.nth, intOf]; omega) (List.Sublist.refl _) (by kernel_rfl)
  try replace ht65 := of_decide_eq_false ht65
  refine K.exit ?_
  refine K.exit_then ?_
  refine K.exit_then ?_
  refine K.exit_here ?_
  refine K.norm_then ?_
  refine sr ?_
  refine K.seq_sil (K.loadA_own ag_26 rfl (K.m3) rfl) rfl ?_
  refine zN ?_
  refine qm ?_
  refine K.seq_loud (K.call_f cal_40 (fun F w hF hw => (by have hh := (K.Rd.own (e := K.eI) (xs := (lngL m)) hw (hF _ (K.m2)) hq1 (fun _ => rfl) (by decide)); exact c40 (l := (lngL m)) (hP.pass hw) hh hin1.n hgn))) rfl ?_
  rintro ⟨A4, a4⟩ ⟨hq4, ho4⟩
  refine zN ?_
  refine K.seq_call (K.call_g cal_39 (fun F w hF hw => (by have hg := c39 (m := longM m (lngL m)) (A := A) (B := A4) (C := C) (c := c) (d := a4) (e := e) (hH.pass hw) (K.Rd.own (e := eN) (xs := (longM m (lngL m)).ps) hw (hF _ (K.m0)) hq4 (fun _ => rfl) (by decide)) (hS.pass hw) hn (by rw [long_n]; omega) hk ho4 (hT.pass hw) (long_chk hc hin1); rw [long_all hin1, hsh] at hg; exact hg))) rfl ?_
  refine zN ?_
  refine qm ?_
  refine K.seq_call (K.call_g cal_25 (fun F w hF hw => c25 (hT.pass hw))) rfl ?_
  refine zN ?_
  refine qp (K.pick_t rfl) ?_
  refine qa ?_
  refine sn ?_
  refine K.ret ?_
  refine K.end_ret (fun w _ => K.res_tmp rfl w) ?_
  exact K.gives rfl

theorem c7 {m : Mod} {A B C : Option Addr} {c d e : Nat} {Y : Option Addr} {cy : Nat} {ys : List Int} {w : World} (hH : K.Rd w A 1 K.eI m.hs) (hP : K.Rd w B 5 eN m.ps) (hS : K.Rd w C 4 eS m.ss) (hn : m.hs.length ≤ 4611686018427387904) (hm : m.ps.length ≤ 4611686018427387904) (hk : m.ss.length ≤ 4611686018427387904) (hcd : m.ps.length ≤ d) (hT : Tab w) (hY : K.Rd w Y 1 eH ys) (hyb : ∀ x ∈ ys, 0 ≤ x ∧ x ≤ 65535) (hyl : ys.length ≤ 140737488351232) : Calls Tryd.prog 7 [.agg #[.int .i64 m.W, .int .i64 m.D, .slice A m.hs.length c, .slice B m.ps.length d, .slice C m.ss.length e], .slice Y ys.length cy].toArray w (K.Gives (.bool true) w) := by
  by_cases hc : (chk m).2.2 = 0
  · exact g7 hH hP hS hn hm hk hcd hT hY hyb hyl hc
  · exact e7 hH hP hS hn hm hk hcd hT hY hyb hyl hc


end Go.Proofs.YthkgnhcknkjgdaaDoor
