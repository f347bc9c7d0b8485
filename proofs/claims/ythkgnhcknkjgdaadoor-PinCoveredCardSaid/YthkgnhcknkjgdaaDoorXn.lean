/-
  Walks of the program's functions, printed by program: what each returns.
  Conditions stand in each theorem.
-/
import Derived.WalkArith
import Derived.Laws.Closers25b
import Derived.Test.YthkgnhcknkjgdaaDoorXj
import Derived.Test.YthkgnhcknkjgdaaDoorXh
set_option linter.unusedSimpArgs false
set_option linter.unusedVariables false
namespace Go.Proofs.YthkgnhcknkjgdaaDoor
open Go.RowKit Go
open Go.K (setd setn ev nth over cl eI eP eT setM setF)
attribute [local irreducible] K.blk K.row

set_option maxRecDepth 100000 in
theorem e12 {m : Mod} {A B C : Option Addr} {c d e : Nat} {b : Nat} {w : World} (hH : K.Rd w A 1 K.eI m.hs) (hP : K.Rd w B 5 eN m.ps) (hS : K.Rd w C 4 eS m.ss) (hn : m.hs.length ≤ 4611686018427387904) (hm : m.ps.length ≤ 4611686018427387904) (hk : m.ss.length ≤ 4611686018427387904) (hcd : m.ps.length ≤ d) (hT : Tab w) (hb : b < 256) (hc : (chk m).2.2 ≠ 0) :
    Calls Tryd.prog 12 [.agg #[.int .i64 m.W, .int .i64 m.D, .slice A m.hs.length c, .slice B m.ps.length d, .slice C m.ss.length e], .int .u8 (b : Int)].toArray w (K.Gives (.bool true) w) := by
  have he : fewE m = (chk m).2.2 := by unfold fewE; rw [if_pos hc]
  have hl0 : fewL m = [] := by unfold fewL; rw [if_pos hc]
  refine K.enter (args := [.agg #[.int .i64 m.W, .int .i64 m.D, .slice A m.hs.length c, .slice B m.ps.length d, .slice C m.ss.length e], .int .u8 (b : Int)]) Tryd.func12 rfl (n := 73) rfl ?_
  simp only [List.replicate, List.cons_append, List.nil_append]
  refine sr ?_
  refine K.seq_new (K.box) rfl ?_
  intro b2
  refine zN ?_
  refine qa ?_
  refine sn ?_
  refine sr ?_
  refine K.seq_sil (K.loadA_own ag_26 rfl (K.m0) rfl) rfl ?_
  refine zN ?_
  refine K.seq_loud (K.call_f cal_32 (fun F w hF hw => c32 (hH.pass hw) (hP.pass hw) (hS.pass hw) hn hm hk hcd (hT.pass hw))) rfl ?_
  rintro ⟨A1, a1⟩ hq1
  refine zN ?_
  refine qm ?_
  refine qx ?_
  refine qx ?_
  iterate 2 refine qa ?_
  refine sn ?_
  refine K.seq ?_
  refine sr ?_
  refine K.seq_sil (K.loadA_own ag_26 rfl (K.m1) rfl) rfl ?_
  refine zN ?_
  refine K.seq_call (K.call_g cal_37 (fun F w hF hw => c37 (hH.pass hw) (hP.pass hw) (hS.pass hw) hn hm hk)) rfl ?_
  refine zN ?_
  first | refine K.seq_pure (K.Pure.eq (K.not_d rfl) (show _ = Value.bool true from congrArg Value.bool (by simp [hc]))) rfl ?_ | refine K.seq_pure (K.Pure.eq (K.not_ rfl) (show _ = Value.bool true from congrArg Value.bool (by simp [hc]))) rfl ?_
  refine zN ?_
  refine sn ?_
  refine K.cond_true rfl ?_
  refine sr ?_
  refine qm ?_
  refine qp (K.Pure.eq (K.neq rfl rfl) (show _ = Value.bool true from congrArg Value.bool (by simp [he, hc]))) ?_
  iterate 2 refine qm ?_
  refine qp (K.len_sl sl_22 rfl) ?_
  refine qp (K.Pure.eq (K.eql rfl rfl) (show _ = Value.bool true from congrArg Value.bool (by simp [hl0]))) ?_
  refine qp (K.pick_t rfl) ?_
  refine qm ?_
  refine K.seq_call (K.call_g cal_25 (fun F w hF hw => c25 (hT.pass hw))) rfl ?_
  refine zN ?_
  refine qp (K.pick_t rfl) ?_
  refine qa ?_
  refine sn ?_
  refine K.ret ?_
  refine K.ret_then ?_
  refine K.end_ret (fun w _ => K.res_tmp rfl w) ?_
  exact K.gives rfl

set_option maxRecDepth 100000 in
theorem f12 {m : Mod} {A B C : Option Addr} {c d e : Nat} {b : Nat} {w : World} (hH : K.Rd w A 1 K.eI m.hs) (hP : K.Rd w B 5 eN m.ps) (hS : K.Rd w C 4 eS m.ss) (hn : m.hs.length ≤ 4611686018427387904) (hm : m.ps.length ≤ 4611686018427387904) (hk : m.ss.length ≤ 4611686018427387904) (hcd : m.ps.length ≤ d) (hT : Tab w) (hb : b < 256) (hc : (chk m).2.2 = 0) (h9 : fewE m = 9) (hl0 : fewL m = []) (hno : ∀ b, covB m (ptsS m.ss.length b) = false) :
    Calls Tryd.prog 12 [.agg #[.int .i64 m.W, .int .i64 m.D, .slice A m.hs.length c, .slice B m.ps.length d, .slice C m.ss.length e], .int .u8 (b : Int)].toArray w (K.Gives (.bool true) w) := by
  have g := chk_good hc
  have hgk := g.k
  have hgn := g.n
  have hpl := @pts_len m.ss.length b
  
  refine K.enter (args := [.agg #[.int .i64 m.W, .int .i64 m.D, .slice A m.hs.length c, .slice B m.ps.length d, .slice C m.ss.length e], .int .u8 (b : Int)]) Tryd.func12 rfl (n := 73) rfl ?_
  simp only [List.replicate, List.cons_append, List.nil_append]
  refine sr ?_
  refine K.seq_new (K.box) rfl ?_
  intro b2
  refine zN ?_
  refine qa ?_
  refine sn ?_
  refine sr ?_
  refine K.seq_sil (K.loadA_own ag_26 rfl (K.m0) rfl) rfl ?_
  refine zN ?_
  refine K.seq_loud (K.call_f cal_32 (fun F w hF hw => c32 (hH.pass hw) (hP.pass hw) (hS.pass hw) hn hm hk hcd (hT.pass hw))) rfl ?_
  rintro ⟨A1, a1⟩ hq1
  refine zN ?_
  refine qm ?_
  refine qx ?_
  refine qx ?_
  iterate 2 refine qa ?_
  refine sn ?_
  refine K.seq ?_
  refine sr ?_
  refine K.seq_sil (K.loadA_own ag_26 rfl (K.m1) rfl) rfl ?_
  refine zN ?_
  refine K.seq_call (K.call_g cal_37 (fun F w hF hw => c37 (hH.pass hw) (hP.pass hw) (hS.pass hw) hn hm hk)) rfl ?_
  refine zN ?_
  first | refine K.seq_pure (K.Pure.eq (K.not_d rfl) (show _ = Value.bool false from congrArg Value.bool (by simp [hc]))) rfl ?_ | refine K.seq_pure (K.Pure.eq (K.not_ rfl) (show _ = Value.bool false from congrArg Value.bool (by simp [hc]))) rfl ?_
  refine zN ?_
  refine sn ?_
  refine K.cond_false rfl ?_
  refine K.skip ?_
  refine K.norm_then ?_
  refine sr ?_
  refine qm ?_
  refine qp (K.fieldAddr_lit fo_26_4 rfl) ?_
  refine K.seq_sil (K.load1_own one_24 rfl (K.m1) rfl) rfl ?_
  refine zN ?_
  refine qp (K.len_sl sl_24 rfl) ?_
  refine K.seq_loud (K.call_f cal_46 (fun F w hF hw => c46 hb (by omega))) rfl ?_
  rintro ⟨A2, a2⟩ hq2
  refine zN ?_
  refine qa ?_
  refine sn ?_
  refine sr ?_
  refine K.seq_sil (K.loadA_own ag_26 rfl (K.m2) rfl) rfl ?_
  refine zN ?_
  refine qm ?_
  refine K.seq_call (K.call_g cal_47 (fun F w hF hw => (by have hh := (K.Rd.own (e := K.eI) (xs := (ptsS m.ss.length b)) hw (hF _ (K.m0)) hq2 (fun _ => rfl) (by decide)); exact c47 (pts := (ptsS m.ss.length b)) (hH.pass hw) (hP.pass hw) (hS.pass hw) g hh (by omega) pts_below))) rfl ?_
  refine zN ?_
  refine qa ?_
  refine sn ?_
  refine K.seq ?_
  refine sr ?_
  refine qm ?_
  refine qp (K.Pure.eq (K.neq rfl rfl) (show _ = Value.bool true from congrArg Value.bool (by simp [h9]))) ?_
  refine sn ?_
  refine K.cond_true rfl ?_
  refine sr ?_
  refine qm ?_
  refine qp (K.Pure.eq (K.eql rfl rfl) (show _ = Value.bool true from congrArg Value.bool (by simp [h9]))) ?_
  iterate 2 refine qm ?_
  refine qp (K.len_sl sl_22 rfl) ?_
  refine qp (K.Pure.eq (K.eql rfl rfl) (show _ = Value.bool true from congrArg Value.bool (by simp [hl0]))) ?_
  refine qp (K.pick_t rfl) ?_
  iterate 2 refine qm ?_
  first | refine K.seq_pure (K.Pure.eq (K.not_d rfl) (show _ = Value.bool true from by rw [hno b]; rfl)) rfl ?_ | refine K.seq_pure (K.Pure.eq (K.not_ rfl) (show _ = Value.bool true from by rw [hno b]; rfl)) rfl ?_
  refine zN ?_
  refine qp (K.pick_t rfl) ?_
  refine qm ?_
  refine K.seq_call (K.call_g cal_25 (fun F w hF hw => c25 (hT.pass hw))) rfl ?_
  refine zN ?_
  refine qp (K.pick_t rfl) ?_
  refine qa ?_
  refine sn ?_
  refine K.ret ?_
  refine K.ret_then ?_
  refine K.end_ret (fun w _ => K.res_tmp rfl w) ?_
  exact K.gives rfl

set_option maxRecDepth 100000 in
set_option maxHeartbeats 1000000 in
theorem g12 {m : Mod} {A B C : Option Addr} {c d e : Nat} {s : Nat} {b : Nat} {w : World} (hH : K.Rd w A 1 K.eI m.hs) (hP : K.Rd w B 5 eN m.ps) (hS : K.Rd w C 4 eS m.ss) (hn : m.hs.length ≤ 4611686018427387904) (hm : m.ps.length ≤ 4611686018427387904) (hk : m.ss.length ≤ 4611686018427387904) (hcd : m.ps.length ≤ d) (hT : Tab w) (hb : b < 256) (hc : (chk m).2.2 = 0) (h0 : fewE m = 0) (hasc : ascB (fewL m) m.ss.length = true) (hfs : fewL m = ptsS m.ss.length s) (hcov : covB m (fewL m) = true) (hmin : ∀ b, covB m (ptsS m.ss.length b) = true → (fewL m).length ≤ (ptsS m.ss.length b).length) :
    Calls Tryd.prog 12 [.agg #[.int .i64 m.W, .int .i64 m.D, .slice A m.hs.length c, .slice B m.ps.length d, .slice C m.ss.length e], .int .u8 (b : Int)].toArray w (K.Gives (.bool true) w) := by
  have g := chk_good hc
  have hgk := g.k
  have hgn := g.n
  have hpl := @pts_len m.ss.length b
  have hfl : (fewL m).length ≤ m.ss.length := by rw [hfs]; exact pts_len
  have hfb : Below6 m.ss.length (fewL m) := by rw [hfs]; exact pts_below
  refine K.enter (args := [.agg #[.int .i64 m.W, .int .i64 m.D, .slice A m.hs.length c, .slice B m.ps.length d, .slice C m.ss.length e], .int .u8 (b : Int)]) Tryd.func12 rfl (n := 73) rfl ?_
  simp only [List.replicate, List.cons_append, List.nil_append]
  refine sr ?_
  refine K.seq_new (K.box) rfl ?_
  intro b2
  refine zN ?_
  refine qa ?_
  refine sn ?_
  refine sr ?_
  refine K.seq_sil (K.loadA_own ag_26 rfl (K.m0) rfl) rfl ?_
  refine zN ?_
  refine K.seq_loud (K.call_f cal_32 (fun F w hF hw => c32 (hH.pass hw) (hP.pass hw) (hS.pass hw) hn hm hk hcd (hT.pass hw))) rfl ?_
  rintro ⟨A1, a1⟩ hq1
  refine zN ?_
  refine qm ?_
  refine qx ?_
  refine qx ?_
  iterate 2 refine qa ?_
  refine sn ?_
  refine K.seq ?_
  refine sr ?_
  refine K.seq_sil (K.loadA_own ag_26 rfl (K.m1) rfl) rfl ?_
  refine zN ?_
  refine K.seq_call (K.call_g cal_37 (fun F w hF hw => c37 (hH.pass hw) (hP.pass hw) (hS.pass hw) hn hm hk)) rfl ?_
  refine zN ?_
  first | refine K.seq_pure (K.Pure.eq (K.not_d rfl) (show _ = Value.bool false from congrArg Value.bool (by simp [hc]))) rfl ?_ | refine K.seq_pure (K.Pure.eq (K.not_ rfl) (show _ = Value.bool false from congrArg Value.bool (by simp [hc]))) rfl ?_
  refine zN ?_
  refine sn ?_
  refine K.cond_false rfl ?_
  refine K.skip ?_
  refine K.norm_then ?_
  refine sr ?_
  refine qm ?_
  refine qp (K.fieldAddr_lit fo_26_4 rfl) ?_
  refine K.seq_sil (K.load1_own one_24 rfl (K.m1) rfl) rfl ?_
  refine zN ?_
  refine qp (K.len_sl sl_24 rfl) ?_
  refine K.seq_loud (K.call_f cal_46 (fun F w hF hw => c46 hb (by omega))) rfl ?_
  rintro ⟨A2, a2⟩ hq2
  refine zN ?_
  refine qa ?_
  refine sn ?_
  refine sr ?_
  refine K.seq_sil (K.loadA_own ag_26 rfl (K.m2) rfl) rfl ?_
  refine zN ?_
  refine qm ?_
  refine K.seq_call (K.call_g cal_47 (fun F w hF hw => (by have hh := (K.Rd.own (e := K.eI) (xs := (ptsS m.ss.length b)) hw (hF _ (K.m0)) hq2 (fun _ => rfl) (by decide)); exact c47 (pts := (ptsS m.ss.length b)) (hH.pass hw) (hP.pass hw) (hS.pass hw) g hh (by omega) pts_below))) rfl ?_
  refine zN ?_
  refine qa ?_
  refine sn ?_
  refine K.seq ?_
  refine sr ?_
  refine qm ?_
  refine qp (K.Pure.eq (K.neq rfl rfl) (show _ = Value.bool false from congrArg Value.bool (by simp [h0]))) ?_
  refine sn ?_
  refine K.cond_false rfl ?_
  refine K.skip ?_
  refine K.norm_then ?_
  refine sr ?_
  refine qm ?_
  refine qp (K.fieldAddr_lit fo_26_4 rfl) ?_
  refine K.seq_sil (K.load1_own one_24 rfl (K.m2) rfl) rfl ?_
  refine zN ?_
  refine qp (K.len_sl sl_24 rfl) ?_
  refine K.seq_call (K.call_g cal_48 (fun F w hF hw => (by have hh := (K.Rd.own (e := K.eI) (xs := (fewL m)) hw (hF _ (K.m1)) hq1 (fun _ => rfl) (by decide)); have hg := c48 (q := a1) (n := m.ss.length) (l := (fewL m)) hh (by omega); rw [hasc] at hg; exact hg))) rfl ?_
  refine zN ?_
  refine qm ?_
  refine K.seq_sil (K.loadA_own ag_26 rfl (K.m2) rfl) rfl ?_
  refine zN ?_
  refine qm ?_
  refine K.seq_call (K.call_g cal_47 (fun F w hF hw => (by have hh := (K.Rd.own (e := K.eI) (xs := (fewL m)) hw (hF _ (K.m1)) hq1 (fun _ => rfl) (by decide)); have hg := c47 (A := A) (B := B) (C := C) (c := c) (d := d) (e := e) (dd := a1) (pts := (fewL m)) (hH.pass hw) (hP.pass hw) (hS.pass hw) g hh (by omega) hfb; rw [hcov] at hg; exact hg))) rfl ?_
  refine zN ?_
  refine qp (K.pick_t rfl) ?_
  iterate 2 refine qm ?_
  first | refine K.seq_pure (K.not_d rfl) rfl ?_ | refine K.seq_pure (K.not_ rfl) rfl ?_
  refine zN ?_
  refine qm ?_
  refine K.split 64 rfl (fun hg64 => ?_) (fun hg64 => ?_)
  · try replace hg64 := of_decide_eq_true hg64
    iterate 5 refine qs ?_
    refine qp (K.pick_t rfl) ?_
    refine qp (K.pick_t rfl) ?_
    refine qm ?_
    refine K.seq_call (K.call_g cal_25 (fun F w hF hw => c25 (hT.pass hw))) rfl ?_
    refine zN ?_
    refine qp (K.pick_t rfl) ?_
    refine qa ?_
    refine sn ?_
    refine K.ret ?_
    refine K.end_ret (fun w _ => K.res_tmp rfl w) ?_
    exact K.gives rfl
  try replace hg64 := of_decide_eq_false hg64
  have hle := hmin b (by simpa using hg64)
  refine qm ?_
  refine qp (K.len_sl sl_22 rfl) ?_
  refine qm ?_
  refine qp (K.len_sl sl_22 rfl) ?_
  refine qp (K.Pure.eq (K.geq rfl rfl) (show _ = Value.bool true from congrArg Value.bool (decide_eq_true (by omega)))) ?_
  refine qp (K.pick_f rfl) ?_
  refine qp (K.pick_t rfl) ?_
  refine qm ?_
  refine K.seq_call (K.call_g cal_25 (fun F w hF hw => c25 (hT.pass hw))) rfl ?_
  refine zN ?_
  refine qp (K.pick_t rfl) ?_
  refine qa ?_
  refine sn ?_
  refine K.ret ?_
  refine K.end_ret (fun w _ => K.res_tmp rfl w) ?_
  exact K.gives rfl

theorem c12 {m : Mod} {A B C : Option Addr} {c d e : Nat} {b : Nat} {w : World} (hH : K.Rd w A 1 K.eI m.hs) (hP : K.Rd w B 5 eN m.ps) (hS : K.Rd w C 4 eS m.ss) (hn : m.hs.length ≤ 4611686018427387904) (hm : m.ps.length ≤ 4611686018427387904) (hk : m.ss.length ≤ 4611686018427387904) (hcd : m.ps.length ≤ d) (hT : Tab w) (hb : b < 256) : Calls Tryd.prog 12 [.agg #[.int .i64 m.W, .int .i64 m.D, .slice A m.hs.length c, .slice B m.ps.length d, .slice C m.ss.length e], .int .u8 (b : Int)].toArray w (K.Gives (.bool true) w) := by
  by_cases hc : (chk m).2.2 = 0
  · rcases few_law hc with ⟨h0, h1, ⟨s, h2⟩, h3, h4⟩ | ⟨h9, hl0, hno⟩
    · exact g12 hH hP hS hn hm hk hcd hT hb hc h0 h1 h2 h3 h4
    · exact f12 hH hP hS hn hm hk hcd hT hb hc h9 hl0 hno
  · exact e12 hH hP hS hn hm hk hcd hT hb hc


end Go.Proofs.YthkgnhcknkjgdaaDoor
