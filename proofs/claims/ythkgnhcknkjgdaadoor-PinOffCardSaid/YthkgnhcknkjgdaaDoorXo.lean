/-
  Walks of the program's functions, printed by program: what each returns.
  Conditions stand in each theorem.
-/
import Derived.WalkArith
import Derived.Laws.Closers25b
import Derived.Test.YthkgnhcknkjgdaaDoorXj
import Derived.Test.YthkgnhcknkjgdaaDoorXh
set_option linter.unusedSimpArgs false
set_option linter.unusedVariables false
namespace Go.Proofs.YthkgnhcknkjgdaaDoor
open Go.RowKit Go
open Go.K (setd setn ev nth over cl eI eP eT setM setF)
attribute [local irreducible] K.blk K.row

set_option maxRecDepth 100000 in
theorem e13 {m : Mod} {A B C : Option Addr} {c d e : Nat} {b : Nat} {w : World} (hH : K.Rd w A 1 K.eI m.hs) (hP : K.Rd w B 5 eN m.ps) (hS : K.Rd w C 4 eS m.ss) (hn : m.hs.length ≤ 4611686018427387904) (hm : m.ps.length ≤ 4611686018427387904) (hk : m.ss.length ≤ 4611686018427387904) (hcd : m.ps.length ≤ d) (hT : Tab w) (hb : b < 256) (hc : (chk m).2.2 ≠ 0) :
    Calls Tryd.prog 13 [.agg #[.int .i64 m.W, .int .i64 m.D, .slice A m.hs.length c, .slice B m.ps.length d, .slice C m.ss.length e], .int .u8 (b : Int)].toArray w (K.Gives (.bool true) w) := by
  have hl0 : offL m = [] := by unfold offL; rw [if_pos hc]
  refine K.enter (args := [.agg #[.int .i64 m.W, .int .i64 m.D, .slice A m.hs.length c, .slice B m.ps.length d, .slice C m.ss.length e], .int .u8 (b : Int)]) Tryd.func13 rfl (n := 95) rfl ?_
  simp only [List.replicate, List.cons_append, List.nil_append]
  refine sr ?_
  refine K.seq_new (K.box) rfl ?_
  intro b2
  refine zN ?_
  refine qa ?_
  refine sn ?_
  refine sr ?_
  refine K.seq_sil (K.loadA_own ag_26 rfl (K.m0) rfl) rfl ?_
  refine zN ?_
  refine K.seq_loud (K.call_f cal_34 (fun F w hF hw => c34 (hH.pass hw) (hP.pass hw) (hS.pass hw) hn hm hk hcd (hT.pass hw))) rfl ?_
  rintro ⟨A1, a1⟩ hq1
  refine zN ?_
  refine qm ?_
  refine qx ?_
  refine qx ?_
  iterate 2 refine qa ?_
  refine sn ?_
  refine K.seq ?_
  refine sr ?_
  refine K.seq_sil (K.loadA_own ag_26 rfl (K.m1) rfl) rfl ?_
  refine zN ?_
  refine K.seq_call (K.call_g cal_37 (fun F w hF hw => c37 (hH.pass hw) (hP.pass hw) (hS.pass hw) hn hm hk)) rfl ?_
  refine zN ?_
  first | refine K.seq_pure (K.Pure.eq (K.not_d rfl) (show _ = Value.bool true from congrArg Value.bool (by simp [hc]))) rfl ?_ | refine K.seq_pure (K.Pure.eq (K.not_ rfl) (show _ = Value.bool true from congrArg Value.bool (by simp [hc]))) rfl ?_
  refine zN ?_
  refine sn ?_
  refine K.cond_true rfl ?_
  refine sr ?_
  refine qm ?_
  refine qp (K.Pure.eq (K.neq rfl rfl) (show _ = Value.bool true from congrArg Value.bool (by simp [hc]))) ?_
  iterate 2 refine qm ?_
  refine qp (K.len_sl sl_22 rfl) ?_
  refine qp (K.Pure.eq (K.eql rfl rfl) (show _ = Value.bool true from congrArg Value.bool (by simp [hl0]))) ?_
  refine qp (K.pick_t rfl) ?_
  refine qm ?_
  refine K.seq_call (K.call_g cal_25 (fun F w hF hw => c25 (hT.pass hw))) rfl ?_
  refine zN ?_
  refine qp (K.pick_t rfl) ?_
  refine qa ?_
  refine sn ?_
  refine K.ret ?_
  refine K.ret_then ?_
  refine K.end_ret (fun w _ => K.res_tmp rfl w) ?_
  exact K.gives rfl

set_option maxRecDepth 100000 in
set_option maxHeartbeats 1000000 in
theorem g13 {m : Mod} {A B C : Option Addr} {c d e : Nat} {s : Nat} {b : Nat} {w : World} (hH : K.Rd w A 1 K.eI m.hs) (hP : K.Rd w B 5 eN m.ps) (hS : K.Rd w C 4 eS m.ss) (hn : m.hs.length ≤ 4611686018427387904) (hm : m.ps.length ≤ 4611686018427387904) (hk : m.ss.length ≤ 4611686018427387904) (hcd : m.ps.length ≤ d) (hT : Tab w) (hb : b < 256) (hc : (chk m).2.2 = 0) (hasc : ascB (offL m) m.ps.length = true) (hfs : offL m = ptsS m.ps.length s) (hall : allB (withM m (offL m)) = true) (hmin : ∀ b, allB (withM m (ptsS m.ps.length b)) = true → (offL m).length ≤ (ptsS m.ps.length b).length) :
    Calls Tryd.prog 13 [.agg #[.int .i64 m.W, .int .i64 m.D, .slice A m.hs.length c, .slice B m.ps.length d, .slice C m.ss.length e], .int .u8 (b : Int)].toArray w (K.Gives (.bool true) w) := by
  have g := chk_good hc
  have hgk := g.k
  have hgn := g.n
  have hpl := @pts_len m.ps.length b
  have hfl : (offL m).length ≤ m.ps.length := by rw [hfs]; exact pts_len
  refine K.enter (args := [.agg #[.int .i64 m.W, .int .i64 m.D, .slice A m.hs.length c, .slice B m.ps.length d, .slice C m.ss.length e], .int .u8 (b : Int)]) Tryd.func13 rfl (n := 95) rfl ?_
  simp only [List.replicate, List.cons_append, List.nil_append]
  refine sr ?_
  refine K.seq_new (K.box) rfl ?_
  intro b2
  refine zN ?_
  refine qa ?_
  refine sn ?_
  refine sr ?_
  refine K.seq_sil (K.loadA_own ag_26 rfl (K.m0) rfl) rfl ?_
  refine zN ?_
  refine K.seq_loud (K.call_f cal_34 (fun F w hF hw => c34 (hH.pass hw) (hP.pass hw) (hS.pass hw) hn hm hk hcd (hT.pass hw))) rfl ?_
  rintro ⟨A1, a1⟩ hq1
  refine zN ?_
  refine qm ?_
  refine qx ?_
  refine qx ?_
  iterate 2 refine qa ?_
  refine sn ?_
  refine K.seq ?_
  refine sr ?_
  refine K.seq_sil (K.loadA_own ag_26 rfl (K.m1) rfl) rfl ?_
  refine zN ?_
  refine K.seq_call (K.call_g cal_37 (fun F w hF hw => c37 (hH.pass hw) (hP.pass hw) (hS.pass hw) hn hm hk)) rfl ?_
  refine zN ?_
  first | refine K.seq_pure (K.Pure.eq (K.not_d rfl) (show _ = Value.bool false from congrArg Value.bool (by simp [hc]))) rfl ?_ | refine K.seq_pure (K.Pure.eq (K.not_ rfl) (show _ = Value.bool false from congrArg Value.bool (by simp [hc]))) rfl ?_
  refine zN ?_
  refine sn ?_
  refine K.cond_false rfl ?_
  refine K.skip ?_
  refine K.norm_then ?_
  refine K.seq ?_
  refine sr ?_
  refine qm ?_
  refine qp (K.Pure.eq (K.neq rfl rfl) (show _ = Value.bool false from congrArg Value.bool (by simp [hc]))) ?_
  iterate 2 refine qm ?_
  refine qp (K.fieldAddr_lit fo_26_3 rfl) ?_
  refine K.seq_sil (K.load1_own one_23 rfl (K.m1) rfl) rfl ?_
  refine zN ?_
  refine qp (K.len_sl sl_23 rfl) ?_
  refine K.seq_call (K.call_g cal_48 (fun F w hF hw => (by have hh := (K.Rd.own (e := K.eI) (xs := (offL m)) hw (hF _ (K.m0)) hq1 (fun _ => rfl) (by decide)); have hg := c48 (q := a1) (n := m.ps.length) (l := (offL m)) hh (by omega); rw [hasc] at hg; exact hg))) rfl ?_
  refine zN ?_
  first | refine K.seq_pure (K.Pure.eq (K.not_d rfl) (show _ = Value.bool false from rfl)) rfl ?_ | refine K.seq_pure (K.Pure.eq (K.not_ rfl) (show _ = Value.bool false from rfl)) rfl ?_
  refine zN ?_
  refine qp (K.pick_f rfl) ?_
  refine qm ?_
  refine K.seq_sil (K.loadA_own ag_26 rfl (K.m1) rfl) rfl ?_
  refine zN ?_
  refine qm ?_
  refine K.seq_loud (K.call_f cal_45 (fun F w hF hw => (by have hh := (K.Rd.own (e := K.eI) (xs := (offL m)) hw (hF _ (K.m0)) hq1 (fun _ => rfl) (by decide)); exact c45 (pins := (offL m)) (hP.pass hw) hh (by omega) hgn))) rfl ?_
  rintro ⟨AW, aW⟩ hqW_
  refine zN ?_
  refine K.use_rowc K.m0 fun hqW hoW => ?_
  refine K.seq_call (K.call_g cal_39 (fun F w hF hw => (by have hg := c39 (m := withM m (offL m)) (A := A) (B := AW) (C := C) (c := c) (d := aW) (e := e) (hH.pass hw) (K.Rd.own (e := eN) (xs := withP m (offL m) m.ps.length) hw (hF _ (K.m0)) hqW (fun _ => rfl) (by decide)) (hS.pass hw) hn (show (withP m (offL m) m.ps.length).length ≤ _ from Nat.le_trans (@with_len m (offL m) m.ps.length) hm) hk hoW (hT.pass hw) (with_chk hc); rw [hall] at hg; exact hg))) rfl ?_
  refine zN ?_
  first | refine K.seq_pure (K.Pure.eq (K.not_d rfl) (show _ = Value.bool false from rfl)) rfl ?_ | refine K.seq_pure (K.Pure.eq (K.not_ rfl) (show _ = Value.bool false from rfl)) rfl ?_
  refine zN ?_
  refine qp (K.pick_f rfl) ?_
  refine sn ?_
  refine K.cond_false rfl ?_
  refine K.skip ?_
  refine K.norm_then ?_
  refine sr ?_
  refine qm ?_
  refine qp (K.fieldAddr_lit fo_26_3 rfl) ?_
  refine K.seq_sil (K.load1_own one_23 rfl (K.m2) rfl) rfl ?_
  refine zN ?_
  refine qp (K.len_sl sl_23 rfl) ?_
  refine K.seq_loud (K.call_f cal_46 (fun F w hF hw => c46 hb (by omega))) rfl ?_
  rintro ⟨A2, a2⟩ hq2
  refine zN ?_
  refine qa ?_
  refine sn ?_
  refine K.seq ?_
  refine sr ?_
  refine qm ?_
  refine qp (K.len_sl sl_22 rfl) ?_
  refine qm ?_
  refine qp (K.len_sl sl_22 rfl) ?_
  refine qp (K.lss rfl rfl) ?_
  refine qm ?_
  refine K.split 57 rfl (fun hg57 => ?_) (fun hg57 => ?_)
  · try replace hg57 := of_decide_eq_true hg57
    have hfal : allB (withM m (ptsS m.ps.length b)) = false := by
      cases e : allB (withM m (ptsS m.ps.length b)) with
      | false => rfl
      | true => exact absurd (hmin b e) (by omega)
    refine K.seq_sil (K.loadA_own ag_26 rfl (K.m3) rfl) rfl ?_
    refine zN ?_
    refine qm ?_
    refine K.seq_loud (K.call_f cal_45 (fun F w hF hw => (by have hh := (K.Rd.own (e := K.eI) (xs := (ptsS m.ps.length b)) hw (hF _ (K.m0)) hq2 (fun _ => rfl) (by decide)); exact c45 (pins := (ptsS m.ps.length b)) (hP.pass hw) hh (by omega) hgn))) rfl ?_
    rintro ⟨AV, aV⟩ hqV_
    refine zN ?_
    refine K.use_rowc K.m0 fun hqV hoV => ?_
    refine K.seq_call (K.call_g cal_39 (fun F w hF hw => (by have hg := c39 (m := withM m (ptsS m.ps.length b)) (A := A) (B := AV) (C := C) (c := c) (d := aV) (e := e) (hH.pass hw) (K.Rd.own (e := eN) (xs := withP m (ptsS m.ps.length b) m.ps.length) hw (hF _ (K.m0)) hqV (fun _ => rfl) (by decide)) (hS.pass hw) hn (show (withP m (ptsS m.ps.length b) m.ps.length).length ≤ _ from Nat.le_trans (@with_len m (ptsS m.ps.length b) m.ps.length) hm) hk hoV (hT.pass hw) (with_chk hc); rw [hfal] at hg; exact hg))) rfl ?_
    refine zN ?_
    refine qp (K.pick_t rfl) ?_
    refine sn ?_
    refine K.cond_false rfl ?_
    refine K.skip ?_
    refine K.norm_then ?_
    refine K.seq ?_
    refine K.weak (List.Sublist.cons _ (List.Sublist.cons _ (List.Sublist.cons _ (List.Sublist.cons_cons _ (List.Sublist.cons_cons _ (List.Sublist.slnil)))))) ?_
    refine K.region_lit ?_
    refine K.seq_sil (K.loadA_own ag_26 rfl (K.m1) rfl) rfl ?_
    refine zN ?_
    refine K.seq_loud (K.call_f cal_26 (fun F w hF hw => c26 (hH.pass hw) (hP.pass hw) (hS.pass hw) hn hm hk hcd)) rfl ?_
    rintro ⟨A3, a3⟩ hq3
    refine zN ?_
    refine qm ?_
    refine qx ?_
    refine qx ?_
    iterate 2 refine qa ?_
    refine sn ?_
    refine K.seq ?_
    refine sr ?_
    refine qm ?_
    refine qp (K.neq rfl rfl) ?_
    refine sn ?_
    refine K.cond rfl (fun ht69 => ?_) (fun ht69 => ?_)
    · try replace ht69 := of_decide_eq_true ht69
      have h9 := lng_9 hc (fun h => ht69 (lng_0 hc h).1)
      have hop := off_pos hc ht69
      refine sr ?_
      refine qm ?_
      refine qp (K.Pure.eq (K.eql rfl rfl) (show _ = Value.bool true from congrArg Value.bool (by simp [h9.1]))) ?_
      iterate 2 refine qm ?_
      refine qp (K.len_sl sl_22 rfl) ?_
      refine qp (K.Pure.eq (K.gtr rfl rfl) (show _ = Value.bool true from congrArg Value.bool (decide_eq_true (by omega)))) ?_
      refine qp (K.pick_t rfl) ?_
      refine qm ?_
      refine K.seq_call (K.call_g cal_25 (fun F w hF hw => c25 (hT.pass hw))) rfl ?_
      refine zN ?_
      refine qp (K.pick_t rfl) ?_
      refine qa ?_
      refine sn ?_
      refine K.ret ?_
      refine K.ret_then ?_
      refine K.end_ret (fun w _ => K.res_tmp rfl w) ?_
      exact K.gives rfl
    try replace ht69 := of_decide_eq_false ht69
    have h0 : lngE m = 0 := by omega
    have hin1 := lng_in hc h0
    have hcl := long_chk hc hin1
    have hol := off_long hc h0
    refine K.skip ?_
    refine K.norm_then ?_
    refine sr ?_
    refine K.seq_sil (K.loadA_own ag_26 rfl (K.m2) rfl) rfl ?_
    refine zN ?_
    refine qm ?_
    refine K.seq_loud (K.call_f cal_40 (fun F w hF hw => (by have hh := (K.Rd.own (e := K.eI) (xs := (lngL m)) hw (hF _ (K.m0)) hq3 (fun _ => rfl) (by decide)); exact c40 (l := (lngL m)) (hP.pass hw) hh hin1.n hgn))) rfl ?_
    rintro ⟨A5, a5⟩ ⟨hq5, ho5⟩
    refine zN ?_
    refine K.seq_loud (K.call_f cal_34 (fun F w hF hw => c34 (m := longM m (lngL m)) (A := A) (B := A5) (C := C) (c := c) (d := a5) (e := e) (hH.pass hw) (K.Rd.own (e := eN) (xs := (longM m (lngL m)).ps) hw (hF _ (K.m0)) hq5 (fun _ => rfl) (by decide)) (hS.pass hw) hn (by rw [long_n]; omega) hk ho5 (hT.pass hw))) rfl ?_
    rintro ⟨A6, a6⟩ hq6
    refine zN ?_
    refine qm ?_
    refine qx ?_
    refine qx ?_
    iterate 2 refine qa ?_
    refine sn ?_
    refine sr ?_
    refine qm ?_
    refine qp (K.Pure.eq (K.eql rfl rfl) (show _ = Value.bool true from congrArg Value.bool (by simp [hcl]))) ?_
    iterate 2 refine qm ?_
    refine qp (K.len_sl sl_22 rfl) ?_
    refine qp (K.Pure.eq (K.eql rfl rfl) (show _ = Value.bool true from congrArg Value.bool (by simp [hol]))) ?_
    refine qp (K.pick_t rfl) ?_
    refine qm ?_
    refine K.seq_call (K.call_g cal_25 (fun F w hF hw => c25 (hT.pass hw))) rfl ?_
    refine zN ?_
    refine qp (K.pick_t rfl) ?_
    refine qa ?_
    refine sn ?_
    refine K.ret ?_
    refine K.end_ret (fun w _ => K.res_tmp rfl w) ?_
    exact K.gives rfl
  try replace hg57 := of_decide_eq_false hg57
  iterate 4 refine qs ?_
  refine qp (K.pick_f rfl) ?_
  refine sn ?_
  refine K.cond_false rfl ?_
  refine K.skip ?_
  refine K.norm_then ?_
  refine K.seq ?_
  refine K.weak (List.Sublist.cons _ (List.Sublist.cons _ (List.Sublist.cons_cons _ (List.Sublist.cons_cons _ (List.Sublist.slnil))))) ?_
  refine K.region_lit ?_
  refine K.seq_sil (K.loadA_own ag_26 rfl (K.m1) rfl) rfl ?_
  refine zN ?_
  refine K.seq_loud (K.call_f cal_26 (fun F w hF hw => c26 (hH.pass hw) (hP.pass hw) (hS.pass hw) hn hm hk hcd)) rfl ?_
  rintro ⟨A3, a3⟩ hq3
  refine zN ?_
  refine qm ?_
  refine qx ?_
  refine qx ?_
  iterate 2 refine qa ?_
  refine sn ?_
  refine K.seq ?_
  refine sr ?_
  refine qm ?_
  refine qp (K.neq rfl rfl) ?_
  refine sn ?_
  refine K.cond rfl (fun ht69 => ?_) (fun ht69 => ?_)
  · try replace ht69 := of_decide_eq_true ht69
    have h9 := lng_9 hc (fun h => ht69 (lng_0 hc h).1)
    have hop := off_pos hc ht69
    refine sr ?_
    refine qm ?_
    refine qp (K.Pure.eq (K.eql rfl rfl) (show _ = Value.bool true from congrArg Value.bool (by simp [h9.1]))) ?_
    iterate 2 refine qm ?_
    refine qp (K.len_sl sl_22 rfl) ?_
    refine qp (K.Pure.eq (K.gtr rfl rfl) (show _ = Value.bool true from congrArg Value.bool (decide_eq_true (by omega)))) ?_
    refine qp (K.pick_t rfl) ?_
    refine qm ?_
    refine K.seq_call (K.call_g cal_25 (fun F w hF hw => c25 (hT.pass hw))) rfl ?_
    refine zN ?_
    refine qp (K.pick_t rfl) ?_
    refine qa ?_
    refine sn ?_
    refine K.ret ?_
    refine K.ret_then ?_
    refine K.end_ret (fun w _ => K.res_tmp rfl w) ?_
    exact K.gives rfl
  try replace ht69 := of_decide_eq_false ht69
  have h0 : lngE m = 0 := by omega
  have hin1 := lng_in hc h0
  have hcl := long_chk hc hin1
  have hol := off_long hc h0
  refine K.skip ?_
  refine K.norm_then ?_
  refine sr ?_
  refine K.seq_sil (K.loadA_own ag_26 rfl (K.m2) rfl) rfl ?_
  refine zN ?_
  refine qm ?_
  refine K.seq_loud (K.call_f cal_40 (fun F w hF hw => (by have hh := (K.Rd.own (e := K.eI) (xs := (lngL m)) hw (hF _ (K.m0)) hq3 (fun _ => rfl) (by decide)); exact c40 (l := (lngL m)) (hP.pass hw) hh hin1.n hgn))) rfl ?_
  rintro ⟨A5, a5⟩ ⟨hq5, ho5⟩
  refine zN ?_
  refine K.seq_loud (K.call_f cal_34 (fun F w hF hw => c34 (m := longM m (lngL m)) (A := A) (B := A5) (C := C) (c := c) (d := a5) (e := e) (hH.pass hw) (K.Rd.own (e := eN) (xs := (longM m (lngL m)).ps) hw (hF _ (K.m0)) hq5 (fun _ => rfl) (by decide)) (hS.pass hw) hn (by rw [long_n]; omega) hk ho5 (hT.pass hw))) rfl ?_
  rintro ⟨A6, a6⟩ hq6
  refine zN ?_
  refine qm ?_
  refine qx ?_
  refine qx ?_
  iterate 2 refine qa ?_
  refine sn ?_
  refine sr ?_
  refine qm ?_
  refine qp (K.Pure.eq (K.eql rfl rfl) (show _ = Value.bool true from congrArg Value.bool (by simp [hcl]))) ?_
  iterate 2 refine qm ?_
  refine qp (K.len_sl sl_22 rfl) ?_
  refine qp (K.Pure.eq (K.eql rfl rfl) (show _ = Value.bool true from congrArg Value.bool (by simp [hol]))) ?_
  refine qp (K.pick_t rfl) ?_
  refine qm ?_
  refine K.seq_call (K.call_g cal_25 (fun F w hF hw => c25 (hT.pass hw))) rfl ?_
  refine zN ?_
  refine qp (K.pick_t rfl) ?_
  refine qa ?_
  refine sn ?_
  refine K.ret ?_
  refine K.end_ret (fun w _ => K.res_tmp rfl w) ?_
  exact K.gives rfl

theorem c13 {m : Mod} {A B C : Option Addr} {c d e : Nat} {b : Nat} {w : World} (hH : K.Rd w A 1 K.eI m.hs) (hP : K.Rd w B 5 eN m.ps) (hS : K.Rd w C 4 eS m.ss) (hn : m.hs.length ≤ 4611686018427387904) (hm : m.ps.length ≤ 4611686018427387904) (hk : m.ss.length ≤ 4611686018427387904) (hcd : m.ps.length ≤ d) (hT : Tab w) (hb : b < 256) : Calls Tryd.prog 13 [.agg #[.int .i64 m.W, .int .i64 m.D, .slice A m.hs.length c, .slice B m.ps.length d, .slice C m.ss.length e], .int .u8 (b : Int)].toArray w (K.Gives (.bool true) w) := by
  by_cases hc : (chk m).2.2 = 0
  · obtain ⟨h1, ⟨s, h2⟩, h3, h4⟩ := off_law hc
    exact g13 hH hP hS hn hm hk hcd hT hb hc h1 h2 h3 h4
  · exact e13 hH hP hS hn hm hk hcd hT hb hc


end Go.Proofs.YthkgnhcknkjgdaaDoor
