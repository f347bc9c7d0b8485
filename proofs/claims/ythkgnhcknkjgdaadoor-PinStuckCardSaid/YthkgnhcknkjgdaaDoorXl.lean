/-
  Walks of the program's functions, printed by program: what each returns.
  Conditions stand in each theorem.
-/
import Derived.WalkArith
import Derived.Laws.Closers25b
import Derived.Test.YthkgnhcknkjgdaaDoorXj
set_option linter.unusedSimpArgs false
set_option linter.unusedVariables false
namespace Go.Proofs.YthkgnhcknkjgdaaDoor
open Go.RowKit Go
open Go.K (setd setn ev nth over cl eI eP eT setM setF)
attribute [local irreducible] K.blk K.row
theorem ask_ok {m : Mod} {s p : Nat} (hc : (chk m).2.2 = 0) (hs : s < m.ss.length) (hp : p < m.ps.length) : askE m s p = 0 := by
  unfold askE asE; rw [if_neg (by omega), if_neg (by omega)]

set_option maxRecDepth 100000 in
theorem e9 {m : Mod} {A B C : Option Addr} {c d e : Nat} {Y : Option Addr} {cy : Nat} {ys : List Int} {w : World} (hH : K.Rd w A 1 K.eI m.hs) (hP : K.Rd w B 5 eN m.ps) (hS : K.Rd w C 4 eS m.ss) (hn : m.hs.length ≤ 4611686018427387904) (hm : m.ps.length ≤ 4611686018427387904) (hk : m.ss.length ≤ 4611686018427387904) (hcd : m.ps.length ≤ d) (hT : Tab w) (hY : K.Rd w Y 1 eH ys) (hyb : ∀ x ∈ ys, 0 ≤ x ∧ x ≤ 65535) (hyl : ys.length ≤ 140737488351232) (hc : (chk m).2.2 ≠ 0) :
    Calls Tryd.prog 9 [.agg #[.int .i64 m.W, .int .i64 m.D, .slice A m.hs.length c, .slice B m.ps.length d, .slice C m.ss.length e], .slice Y ys.length cy].toArray w (K.Gives (.bool true) w) := by
  have hs4 : (stuckS m).2.2.2.2 = (chk m).2.2 := by unfold stuckS; rw [if_pos hc]
  refine K.enter (args := [.agg #[.int .i64 m.W, .int .i64 m.D, .slice A m.hs.length c, .slice B m.ps.length d, .slice C m.ss.length e], .slice Y ys.length cy]) Tryd.func9 rfl (n := 157) rfl ?_
  simp only [List.replicate, List.cons_append, List.nil_append]
  refine sr ?_
  refine K.seq_new (K.box) rfl ?_
  intro b2
  refine zN ?_
  refine qa ?_
  refine sn ?_
  refine sr ?_
  refine K.seq_sil (K.loadA_own ag_26 rfl (K.m0) rfl) rfl ?_
  refine zN ?_
  refine K.seq_call (K.call_g cal_28 (fun F w hF hw => c28 (hH.pass hw) (hP.pass hw) (hS.pass hw) hn hm hk hcd)) rfl ?_
  refine zN ?_
  refine qm ?_
  refine qx ?_
  refine qx ?_
  refine qx ?_
  refine qx ?_
  refine qx ?_
  iterate 5 refine qa ?_
  refine sn ?_
  refine K.seq ?_
  refine sr ?_
  refine K.seq_sil (K.loadA_own ag_26 rfl (K.m0) rfl) rfl ?_
  refine zN ?_
  refine K.seq_call (K.call_g cal_37 (fun F w hF hw => c37 (hH.pass hw) (hP.pass hw) (hS.pass hw) hn hm hk)) rfl ?_
  refine zN ?_
  first | refine K.seq_pure (K.Pure.eq (K.not_d rfl) (show _ = Value.bool true from congrArg Value.bool (by simp [hc]))) rfl ?_ | refine K.seq_pure (K.Pure.eq (K.not_ rfl) (show _ = Value.bool true from congrArg Value.bool (by simp [hc]))) rfl ?_
  refine zN ?_
  refine sn ?_
  refine K.cond_true rfl ?_
  refine sr ?_
  refine qm ?_
  refine qp (K.Pure.eq (K.neq rfl rfl) (show _ = Value.bool true from congrArg Value.bool (by simp [hs4, hc]))) ?_
  refine qm ?_
  refine K.seq_call (K.call_g cal_25 (fun F w hF hw => c25 (hT.pass hw))) rfl ?_
  refine zN ?_
  refine qp (K.pick_t rfl) ?_
  refine qa ?_
  refine sn ?_
  refine K.ret ?_
  refine K.ret_then ?_
  refine K.end_ret (fun w _ => K.res_tmp rfl w) ?_
  exact K.gives rfl

set_option maxRecDepth 100000 in
theorem f9 {m : Mod} {A B C : Option Addr} {c d e : Nat} {Y : Option Addr} {cy : Nat} {ys : List Int} {w : World} (hH : K.Rd w A 1 K.eI m.hs) (hP : K.Rd w B 5 eN m.ps) (hS : K.Rd w C 4 eS m.ss) (hn : m.hs.length ≤ 4611686018427387904) (hm : m.ps.length ≤ 4611686018427387904) (hk : m.ss.length ≤ 4611686018427387904) (hcd : m.ps.length ≤ d) (hT : Tab w) (hY : K.Rd w Y 1 eH ys) (hyb : ∀ x ∈ ys, 0 ≤ x ∧ x ≤ 65535) (hyl : ys.length ≤ 140737488351232) (hc : (chk m).2.2 = 0) (h0 : lngE m = 0) :
    Calls Tryd.prog 9 [.agg #[.int .i64 m.W, .int .i64 m.D, .slice A m.hs.length c, .slice B m.ps.length d, .slice C m.ss.length e], .slice Y ys.length cy].toArray w (K.Gives (.bool true) w) := by
  have hsn := stuck_none hc h0
  have hin1 := lng_in hc h0
  refine K.enter (args := [.agg #[.int .i64 m.W, .int .i64 m.D, .slice A m.hs.length c, .slice B m.ps.length d, .slice C m.ss.length e], .slice Y ys.length cy]) Tryd.func9 rfl (n := 157) rfl ?_
  simp only [List.replicate, List.cons_append, List.nil_append]
  refine sr ?_
  refine K.seq_new (K.box) rfl ?_
  intro b2
  refine zN ?_
  refine qa ?_
  refine sn ?_
  refine sr ?_
  refine K.seq_sil (K.loadA_own ag_26 rfl (K.m0) rfl) rfl ?_
  refine zN ?_
  refine K.seq_call (K.call_g cal_28 (fun F w hF hw => (by have hg := c28 (c := c) (d := d) (e := e) (hH.pass hw) (hP.pass hw) (hS.pass hw) hn hm hk hcd; rw [hsn] at hg; exact hg))) rfl ?_
  refine zN ?_
  refine qm ?_
  refine qx ?_
  refine qx ?_
  refine qx ?_
  refine qx ?_
  refine qx ?_
  iterate 5 refine qa ?_
  refine sn ?_
  refine K.seq ?_
  refine sr ?_
  refine K.seq_sil (K.loadA_own ag_26 rfl (K.m0) rfl) rfl ?_
  refine zN ?_
  refine K.seq_call (K.call_g cal_37 (fun F w hF hw => c37 (hH.pass hw) (hP.pass hw) (hS.pass hw) hn hm hk)) rfl ?_
  refine zN ?_
  first | refine K.seq_pure (K.Pure.eq (K.not_d rfl) (show _ = Value.bool false from congrArg Value.bool (by simp [hc]))) rfl ?_ | refine K.seq_pure (K.Pure.eq (K.not_ rfl) (show _ = Value.bool false from congrArg Value.bool (by simp [hc]))) rfl ?_
  refine zN ?_
  refine sn ?_
  refine K.cond_false rfl ?_
  refine K.skip ?_
  refine K.norm_then ?_
  refine sr ?_
  refine K.seq_sil (K.loadA_own ag_26 rfl (K.m0) rfl) rfl ?_
  refine zN ?_
  refine K.seq_loud (K.call_f cal_26 (fun F w hF hw => c26 (hH.pass hw) (hP.pass hw) (hS.pass hw) hn hm hk hcd)) rfl ?_
  rintro ⟨A1, a1⟩ hq1
  refine zN ?_
  refine qm ?_
  refine qx ?_
  refine qx ?_
  iterate 2 refine qa ?_
  refine sn ?_
  refine K.seq ?_
  refine sr ?_
  refine qm ?_
  refine qp (K.Pure.eq (K.neq rfl rfl) (show _ = Value.bool true from congrArg Value.bool (by decide))) ?_
  refine sn ?_
  refine K.cond_true rfl ?_
  refine sr ?_
  refine qm ?_
  refine qp (K.Pure.eq (K.eql rfl rfl) (show _ = Value.bool true from congrArg Value.bool (by decide))) ?_
  iterate 2 refine qm ?_
  refine qp (K.Pure.eq (K.eql rfl rfl) (show _ = Value.bool true from congrArg Value.bool (by simp [h0]))) ?_
  refine qp (K.pick_t rfl) ?_
  iterate 2 refine qm ?_
  refine qp (K.len_sl sl_22 rfl) ?_
  refine qp (K.fieldAddr_lit fo_26_3 rfl) ?_
  refine K.seq_sil (K.load1_own one_23 rfl (K.m1) rfl) rfl ?_
  refine zN ?_
  refine qp (K.len_sl sl_23 rfl) ?_
  refine qp (K.Pure.eq (K.eql rfl rfl) (show _ = Value.bool true from congrArg Value.bool (by simp [hin1.n]))) ?_
  refine qp (K.pick_t rfl) ?_
  refine qm ?_
  refine K.seq_call (K.call_g cal_25 (fun F w hF hw => c25 (hT.pass hw))) rfl ?_
  refine zN ?_
  refine qp (K.pick_t rfl) ?_
  refine qa ?_
  refine sn ?_
  refine K.ret ?_
  refine K.ret_then ?_
  refine K.end_ret (fun w _ => K.res_tmp rfl w) ?_
  exact K.gives rfl

set_option maxRecDepth 100000 in
set_option maxHeartbeats 2000000 in
theorem g9 {m : Mod} {A B C : Option Addr} {c d e : Nat} {r p s : Nat} {f : Int} {Y : Option Addr} {cy : Nat} {ys : List Int} {w : World} (hH : K.Rd w A 1 K.eI m.hs) (hP : K.Rd w B 5 eN m.ps) (hS : K.Rd w C 4 eS m.ss) (hn : m.hs.length ≤ 4611686018427387904) (hm : m.ps.length ≤ 4611686018427387904) (hk : m.ss.length ≤ 4611686018427387904) (hcd : m.ps.length ≤ d) (hT : Tab w) (hY : K.Rd w Y 1 eH ys) (hyb : ∀ x ∈ ys, 0 ≤ x ∧ x ≤ 65535) (hyl : ys.length ≤ 140737488351232) (hc : (chk m).2.2 = 0) (h9 : lngE m ≠ 0) (hst : stuckS m = ((r : Int) + 1, (p : Int), (s : Int), f, 0)) (hr : r ≤ 1800) (hp : p < m.ps.length) (hs : s < m.ss.length) (hLB : ∀ j, j ≤ r → LB (befN m j)) (hLM : ∀ j, j ≤ r → LM m (befN m j)) (hf : ∀ l, InB m l → (∀ i, i < m.ps.length → i ≠ p → (befN m r).getD i default ≤ l.getD i default) → f ∈ hidesS m l (m.ss.getD s default).x (m.ss.getD s default).y (m.ss.getD s default).lo p) :
    Calls Tryd.prog 9 [.agg #[.int .i64 m.W, .int .i64 m.D, .slice A m.hs.length c, .slice B m.ps.length d, .slice C m.ss.length e], .slice Y ys.length cy].toArray w (K.Gives (.bool true) w) := by
  have g := chk_good hc
  have hgn := g.n
  have hgk := g.k
  have hin : InB m (anyL m ys m.ps.length) := any_in g
  have hol := hin.n
  have hbl := @bef_len m
  have hinx : InB m (mxL (anyL m ys m.ps.length) (befN m r) p m.ps.length) := mx_in hin (hLM r (Nat.le_refl _))
  have hxl := hinx.n
  have hcl := long_chk hc hinx
  have hfm := hf (mxL (anyL m ys m.ps.length) (befN m r) p m.ps.length) hinx (fun i hi hne => mx_ge hin hi hne)
  have hsl := g.st hs
  obtain ⟨h99, _⟩ := (lng_or hc).resolve_left (fun h => h9 h.1)
  have hhe : hidE (longM m (mxL (anyL m ys m.ps.length) (befN m r) p m.ps.length)) s (m.ss.getD s default).lo p = 0 := hid_0 (ask_ok hcl hs (by rw [long_n]; exact hp)) (by omega)
  have hhl : (hidL (longM m (mxL (anyL m ys m.ps.length) (befN m r) p m.ps.length)) s (m.ss.getD s default).lo p) = hidesS m (mxL (anyL m ys m.ps.length) (befN m r) p m.ps.length) (m.ss.getD s default).x (m.ss.getD s default).y (m.ss.getD s default).lo p := by rw [hidL_0 hhe, long_own hinx, long_hides]; rfl
  have hh6 := @hid_len6 (longM m (mxL (anyL m ys m.ps.length) (befN m r) p m.ps.length)) s (m.ss.getD s default).lo p
  refine K.enter (args := [.agg #[.int .i64 m.W, .int .i64 m.D, .slice A m.hs.length c, .slice B m.ps.length d, .slice C m.ss.length e], .slice Y ys.length cy]) Tryd.func9 rfl (n := 157) rfl ?_
  simp only [List.replicate, List.cons_append, List.nil_append]
  refine sr ?_
  refine K.seq_new (K.box) rfl ?_
  intro b2
  refine zN ?_
  refine qa ?_
  refine sn ?_
  refine sr ?_
  refine K.seq_sil (K.loadA_own ag_26 rfl (K.m0) rfl) rfl ?_
  refine zN ?_
  refine K.seq_call (K.call_g cal_28 (fun F w hF hw => (by have hg := c28 (c := c) (d := d) (e := e) (hH.pass hw) (hP.pass hw) (hS.pass hw) hn hm hk hcd; rw [hst] at hg; exact hg))) rfl ?_
  refine zN ?_
  refine qm ?_
  refine qx ?_
  refine qx ?_
  refine qx ?_
  refine qx ?_
  refine qx ?_
  iterate 5 refine qa ?_
  refine sn ?_
  refine K.seq ?_
  refine sr ?_
  refine K.seq_sil (K.loadA_own ag_26 rfl (K.m0) rfl) rfl ?_
  refine zN ?_
  refine K.seq_call (K.call_g cal_37 (fun F w hF hw => c37 (hH.pass hw) (hP.pass hw) (hS.pass hw) hn hm hk)) rfl ?_
  refine zN ?_
  first | refine K.seq_pure (K.Pure.eq (K.not_d rfl) (show _ = Value.bool false from congrArg Value.bool (by simp [hc]))) rfl ?_ | refine K.seq_pure (K.Pure.eq (K.not_ rfl) (show _ = Value.bool false from congrArg Value.bool (by simp [hc]))) rfl ?_
  refine zN ?_
  refine sn ?_
  refine K.cond_false rfl ?_
  refine K.skip ?_
  refine K.norm_then ?_
  refine sr ?_
  refine K.seq_sil (K.loadA_own ag_26 rfl (K.m0) rfl) rfl ?_
  refine zN ?_
  refine K.seq_loud (K.call_f cal_26 (fun F w hF hw => c26 (hH.pass hw) (hP.pass hw) (hS.pass hw) hn hm hk hcd)) rfl ?_
  rintro ⟨A1, a1⟩ hq1
  refine zN ?_
  refine qm ?_
  refine qx ?_
  refine qx ?_
  iterate 2 refine qa ?_
  refine sn ?_
  refine K.seq ?_
  refine sr ?_
  refine qm ?_
  refine qp (K.Pure.eq (K.neq rfl rfl) (show _ = Value.bool false from congrArg Value.bool (by decide))) ?_
  refine sn ?_
  refine K.cond_false rfl ?_
  refine K.skip ?_
  refine K.norm_then ?_
  refine K.seq ?_
  refine sr ?_
  refine qm ?_
  refine qp (K.Pure.eq (K.neq rfl rfl) (show _ = Value.bool false from congrArg Value.bool (by simp [h99]))) ?_
  iterate 2 refine qm ?_
  refine qp (K.Pure.eq (K.lss rfl rfl) (show _ = Value.bool false from congrArg Value.bool (decide_eq_false (by omega)))) ?_
  refine qp (K.pick_f rfl) ?_
  iterate 2 refine qm ?_
  refine qp (K.Pure.eq (K.lss rfl rfl) (show _ = Value.bool false from congrArg Value.bool (decide_eq_false (by omega)))) ?_
  refine qp (K.pick_f rfl) ?_
  iterate 2 refine qm ?_
  refine qp (K.fieldAddr_lit fo_26_3 rfl) ?_
  refine K.seq_sil (K.load1_own one_23 rfl (K.m1) rfl) rfl ?_
  refine zN ?_
  refine qp (K.len_sl sl_23 rfl) ?_
  refine qp (K.Pure.eq (K.geq rfl rfl) (show _ = Value.bool false from congrArg Value.bool (decide_eq_false (by omega)))) ?_
  refine qp (K.pick_f rfl) ?_
  iterate 2 refine qm ?_
  refine qp (K.Pure.eq (K.lss rfl rfl) (show _ = Value.bool false from congrArg Value.bool (decide_eq_false (by omega)))) ?_
  refine qp (K.pick_f rfl) ?_
  iterate 2 refine qm ?_
  refine qp (K.fieldAddr_lit fo_26_4 rfl) ?_
  refine K.seq_sil (K.load1_own one_24 rfl (K.m1) rfl) rfl ?_
  refine zN ?_
  refine qp (K.len_sl sl_24 rfl) ?_
  refine qp (K.Pure.eq (K.geq rfl rfl) (show _ = Value.bool false from congrArg Value.bool (decide_eq_false (by omega)))) ?_
  refine qp (K.pick_f rfl) ?_
  refine sn ?_
  refine K.cond_false rfl ?_
  refine K.skip ?_
  refine K.norm_then ?_
  refine sr ?_
  refine K.seq_sil (K.loadA_own ag_26 rfl (K.m1) rfl) rfl ?_
  refine zN ?_
  refine K.seq_loud (K.call_f cal_43 (fun F w hF hw => c43 (hP.pass hw) (by omega))) rfl ?_
  rintro ⟨A5, a5⟩ hq5
  refine zN ?_
  refine qa ?_
  refine sn ?_
  refine K.seq ?_
  refine sr ?_
  refine qa ?_
  refine sn ?_
  refine K.block ?_
  refine K.loopW [12, 13] [4, 88, 89, 90, 91, 92, 93, 94, 95, 96, 97] (fun vi L => ∃ (k : Nat) (Q1 : Option Addr) (q1 : Nat), vi = [.slice Q1 (befN m k).length q1, .int .i64 ((k : Int) + 1)] ∧ L = [K.row (.slice Q1 (befN m k).length q1) 3 1 (befN m k).length ((befN m k).flatMap K.eI), K.row (.slice A1 (lngL m).length a1) 3 1 (lngL m).length ((lngL m).flatMap K.eI), K.blk b2 26 [.int .i64 m.W, .int .i64 m.D, .slice A m.hs.length c, .slice B m.ps.length d, .slice C m.ss.length e]] ∧ k ≤ r ∧ ((befN m k).length = 0 ∨ ∃ b, Q1 = some ⟨b, 0, none⟩)) (fun vi => (r + 1 - intOf (K.nth vi 1)).toNat) ?_ ?_
  · exact ⟨0, A5, a5, rfl, rfl, Nat.zero_le _, hq5⟩
  intro vi vr L hJ
  obtain ⟨k, Q1, q1, rfl, rfl, hkr, hqb⟩ := hJ
  try dsimp only [setd, setn, ev, nth, over, cl, eI, eP, eT, eN, eS, setM, setF, List.map, List.append, List.drop, List.take]
  refine K.seq ?_
  refine sr ?_
  iterate 2 refine qm ?_
  refine qp (K.lss rfl rfl) ?_
  refine sn ?_
  refine K.cond rfl (fun ht90 => ?_) (fun ht90 => ?_)
  · try replace ht90 := of_decide_eq_true ht90
    refine K.skip ?_
    refine K.norm_then ?_
    refine K.seq ?_
    refine K.block ?_
    refine sr ?_
    refine K.seq_sil (K.loadA_own ag_26 rfl (K.m2) rfl) rfl ?_
    refine zN ?_
    refine qm ?_
    refine K.seq_loud (K.call_f cal_44 (fun F w hF hw => (by have hh := (K.Rd.own (e := K.eI) (xs := (befN m k)) hw (hF _ (K.m0)) hqb (fun _ => rfl) (by decide)); exact c44 (l := (befN m k)) (hH.pass hw) (hP.pass hw) (hS.pass hw) hh (hbl k) (hLB k (by omega)) g (hLM k (by omega))))) rfl ?_
    rintro ⟨Q2, q2⟩ hq2
    refine zN ?_
    refine qa ?_
    refine sn ?_
    refine sr ?_
    refine qm ?_
    refine qp (K.Pure.eq (K.gtr rfl rfl) (show _ = Value.bool false from congrArg Value.bool (decide_eq_false (by omega)))) ?_
    refine sn ?_
    refine K.cond_false rfl ?_
    refine K.skip ?_
    refine K.norm_block ?_
    refine K.norm_then ?_
    refine K.region_lit ?_
    refine qm ?_
    refine qp (K.add_i64 rfl rfl (by omega)) ?_
    refine qa ?_
    refine K.seq_nil ?_
    exact K.round_endW (L'' := [K.row (.slice Q2 (befN m (k + 1)).length q2) 3 1 (befN m (k + 1)).length ((befN m (k + 1)).flatMap K.eI), K.row (.slice A1 (lngL m).length a1) 3 1 (lngL m).length ((lngL m).flatMap K.eI), K.blk b2 26 [.int .i64 m.W, .int .i64 m.D, .slice A m.hs.length c, .slice B m.ps.length d, .slice C m.ss.length e]]) [.slice Q2 (befN m (k + 1)).length q2, .int .i64 ((k : Int) + 1 + 1)] ⟨k + 1, Q2, q2, rfl, rfl, by omega, hq2⟩ (by simp [K.nth, intOf]; omega) (List.Sublist.cons_cons _ (List.Sublist.cons _ (List.Sublist.refl _))) (by kernel_rfl)
  try replace ht90 := of_decide_eq_false ht90
  refine K.exit ?_
  refine K.exit_then ?_
  refine K.exit_then ?_
  refine K.exit_here ?_
  refine K.norm_then ?_
  refine K.seq ?_
  have hkr1 : r = k := by omega
  subst hkr1
  refine K.region_lit ?_
  refine K.seq_sil (K.loadA_own ag_26 rfl (K.m2) rfl) rfl ?_
  refine zN ?_
  refine qm ?_
  refine K.seq_loud (K.call_f cal_38 (fun F w hF hw => c38 (hP.pass hw) g (hY.pass hw) hyb hyl)) rfl ?_
  rintro ⟨A2, a2⟩ hq2
  refine zN ?_
  refine qa ?_
  refine sn ?_
  refine K.seq ?_
  refine sr ?_
  refine qa ?_
  refine sn ?_
  refine K.block ?_
  refine K.loopW [14, 15] [4, 101, 102, 103, 104, 105, 106, 107, 108, 109, 110, 111, 112, 113, 114, 115, 116, 117, 118, 119, 120, 121, 122, 123, 124, 125, 126, 127, 128, 129, 130, 131, 132] (fun vi L => ∃ k : Nat, vi = [.slice A2 (mxL (anyL m ys m.ps.length) (befN m r) p k).length a2, .int .i64 (k : Int)] ∧ L = [K.row (.slice A2 (mxL (anyL m ys m.ps.length) (befN m r) p k).length a2) 3 1 (mxL (anyL m ys m.ps.length) (befN m r) p k).length ((mxL (anyL m ys m.ps.length) (befN m r) p k).flatMap K.eI), K.row (.slice Q1 (befN m r).length q1) 3 1 (befN m r).length ((befN m r).flatMap K.eI), K.row (.slice A1 (lngL m).length a1) 3 1 (lngL m).length ((lngL m).flatMap K.eI), K.blk b2 26 [.int .i64 m.W, .int .i64 m.D, .slice A m.hs.length c, .slice B m.ps.length d, .slice C m.ss.length e]] ∧ k ≤ m.ps.length) (fun vi => m.ps.length - (intOf (K.nth vi 1)).toNat) ?_ ?_
  · exact ⟨0, by rw [mx_0]; rfl, by rw [mx_0]; rfl, Nat.zero_le _⟩
  intro vi vr L hJ
  obtain ⟨k, rfl, rfl, hkn⟩ := hJ
  have hml := @mx_len (anyL m ys m.ps.length) (befN m r) p k
  have hbr := hbl r
  try dsimp only [setd, setn, ev, nth, over, cl, eI, eP, eT, eN, eS, setM, setF, List.map, List.append, List.drop, List.take]
  refine K.seq ?_
  refine sr ?_
  iterate 2 refine qm ?_
  refine qp (K.len_sl sl_22 rfl) ?_
  refine qp (K.lss rfl rfl) ?_
  refine sn ?_
  refine K.cond rfl (fun ht104 => ?_) (fun ht104 => ?_)
  · try replace ht104 := of_decide_eq_true ht104
    have hkl : k < m.ps.length := by omega
    have hlk := hLM r (Nat.le_refl _) k hkl
    refine K.skip ?_
    refine K.norm_then ?_
    refine K.seq ?_
    refine K.block ?_
    refine K.seq ?_
    refine K.seq ?_
    refine K.use_row K.m0 (fun hqx => ?_)
    refine K.draw_L [] Tryd_mixed ?_
    refine K.d_pure 0 rfl (K.move) (by kernel_rfl) rfl ?_
    refine zn ?_
    refine K.d_pure 1 rfl (K.move) (by kernel_rfl) rfl ?_
    refine zn ?_
    refine K.d_ix (M := [K.row (.slice Q1 (befN m r).length q1) 3 1 (befN m r).length ((befN m r).flatMap K.eI)]) 2 _ rfl (K.Sl.own (w0 := w) (t := 3) (c := q1) (e := K.eI) hqb (fun _ => rfl)) sl_22 rfl rfl rfl (by omega) (by kernel_rfl) rfl ?_
    intro p109 hp109
    refine zN ?_
    refine K.d_mem 3 rfl (K.load1 one_3 rfl (hp109.at1 (K.m1))) (fun _ h => h) (by kernel_rfl) (by kernel_rfl) rfl ?_
    refine zN ?_
    refine K.d_pure 4 rfl (K.fieldAddr_lit fo_26_3 rfl) (by kernel_rfl) rfl ?_
    refine zn ?_
    refine K.d_mem 5 rfl (K.load1_own one_23 rfl (K.m3) rfl) (fun _ h => h) (by kernel_rfl) (by kernel_rfl) rfl ?_
    refine zN ?_
    refine K.d_pure 6 rfl (K.move) (by kernel_rfl) rfl ?_
    refine zn ?_
    refine K.d_ix (M := []) 7 _ rfl hP.sl sl_23 rfl rfl rfl (by omega) (by kernel_rfl) rfl ?_
    intro p114 hp114
    refine zN ?_
    refine K.d_pure 8 rfl (K.fieldAddr fo_54_4 rfl) (by kernel_rfl) rfl ?_
    refine zn ?_
    refine K.d_mem 9 rfl (K.load1 one_3 rfl ((K.PtrL.fld hp114 (k := 4)).any)) (fun _ h => h) (by kernel_rfl) (by kernel_rfl) rfl ?_
    refine zN ?_
    refine K.d_pure 10 rfl (K.Pure.eq (K.gtr rfl rfl) (show _ = Value.bool false from congrArg Value.bool (decide_eq_false (by omega)))) (by kernel_rfl) rfl ?_
    refine zn ?_
    refine K.d_done (by kernel_rfl) ?_
    refine K.norm_then ?_
    refine K.cond_false rfl ?_
    refine K.skip ?_
    refine K.norm_then ?_
    refine sr ?_
    iterate 2 refine qm ?_
    refine qp (K.neq rfl rfl) ?_
    refine sn ?_
    refine K.cond rfl (fun ht120 => ?_) (fun ht120 => ?_)
    · try replace ht120 := of_decide_eq_true ht120
      refine K.use_row K.m0 (fun hA2 => ?_)
      obtain ⟨gb, rfl⟩ := hA2.resolve_left (by omega)
      have hfit : 0 + k * 1 + 1 ≤ ((mxL (anyL m ys m.ps.length) (befN m r) p k).flatMap K.eI).length := by rw [K.flat_len (size := 1) (e := K.eI) (fun _ => rfl)]; omega
      have hset : K.over ((mxL (anyL m ys m.ps.length) (befN m r) p k).flatMap K.eI) (0 + k * 1) [.int .i64 (max ((mxL (anyL m ys m.ps.length) (befN m r) p k).getD k default) ((befN m r).getD k default))] = (mxL (anyL m ys m.ps.length) (befN m r) p (k + 1)).flatMap K.eI := by rw [show [Value.int .i64 (max ((mxL (anyL m ys m.ps.length) (befN m r) p k).getD k default) ((befN m r).getD k default))] = K.eI (max ((mxL (anyL m ys m.ps.length) (befN m r) p k).getD k default) ((befN m r).getD k default)) from rfl, K.set_cut0 (size := 1) (fun _ => rfl) (by omega), mx_set (by omega) (by omega)]
      refine K.draw_L [12] Tryd_mixed ?_
      refine K.d_pure 0 rfl (K.move) (by kernel_rfl) rfl ?_
      refine zn ?_
      refine K.d_pure 1 rfl (K.move) (by kernel_rfl) rfl ?_
      refine zn ?_
      refine K.d_pure 2 rfl (K.move) (by kernel_rfl) rfl ?_
      refine zn ?_
      refine K.d_pure 3 rfl (K.move) (by kernel_rfl) rfl ?_
      refine zn ?_
      refine K.d_ix (M := [K.row (.slice (some ⟨gb, 0, none⟩) (mxL (anyL m ys m.ps.length) (befN m r) p k).length a2) 3 1 (mxL (anyL m ys m.ps.length) (befN m r) p k).length ((mxL (anyL m ys m.ps.length) (befN m r) p k).flatMap K.eI)]) 4 _ rfl (K.Sl.own (w0 := w) (t := 3) (c := a2) (e := K.eI) hA2 (fun _ => rfl)) sl_22 rfl rfl rfl (by omega) (by kernel_rfl) rfl ?_
      intro p125 hp125
      refine zN ?_
      refine K.d_mem 5 rfl (K.load1 one_3 rfl (hp125.at1 (K.m0))) (fun _ h => h) (by kernel_rfl) (by kernel_rfl) rfl ?_
      refine zN ?_
      refine K.d_pure 6 rfl (K.move) (by kernel_rfl) rfl ?_
      refine zn ?_
      refine K.d_pure 7 rfl (K.move) (by kernel_rfl) rfl ?_
      refine zn ?_
      refine K.d_ix (M := [K.row (.slice Q1 (befN m r).length q1) 3 1 (befN m r).length ((befN m r).flatMap K.eI)]) 8 _ rfl (K.Sl.own (w0 := w) (t := 3) (c := q1) (e := K.eI) hqb (fun _ => rfl)) sl_22 rfl rfl rfl (by omega) (by kernel_rfl) rfl ?_
      intro p129 hp129
      refine zN ?_
      refine K.d_mem 9 rfl (K.load1 one_3 rfl (hp129.at1 (K.m1))) (fun _ h => h) (by kernel_rfl) (by kernel_rfl) rfl ?_
      refine zN ?_
      refine K.d_pure 10 rfl (K.max_int rfl rfl) (by kernel_rfl) rfl ?_
      refine zn ?_
      refine K.d_pure 11 rfl (K.Pure.eq (K.indexAddr_sl sl_22 rfl rfl (by omega) (by omega)) (show _ = Value.pointer (some ⟨gb, 0 + k * 1, none⟩) from by rw [K.add_lit, Int.toNat_natCast])) (by kernel_rfl) rfl ?_
      refine zN ?_
      refine zN ?_
      refine K.d_last 12 rfl (K.store_row (xs := (mxL (anyL m ys m.ps.length) (befN m r) p k).flatMap K.eI) (j := 0 + k * 1) sz_3 rfl rfl hfit rfl (K.rpe K.rp0 (congrArg (K.row (.slice (some ⟨gb, 0, none⟩) (mxL (anyL m ys m.ps.length) (befN m r) p k).length a2) 3 1 (mxL (anyL m ys m.ps.length) (befN m r) p k).length) hset.symm))) rfl (by kernel_rfl) rfl ?_
      intro _ _
      refine zN ?_
      refine zN ?_
      refine K.d_done (by kernel_rfl) ?_
      refine K.norm_block ?_
      refine K.norm_then ?_
      refine K.region_lit ?_
      refine qm ?_
      refine qp (K.add_i64 rfl rfl (by omega)) ?_
      refine qa ?_
      refine K.seq_nil ?_
      exact K.round_endW (L'' := [K.row (.slice (some ⟨gb, 0, none⟩) (mxL (anyL m ys m.ps.length) (befN m r) p k).length a2) 3 1 (mxL (anyL m ys m.ps.length) (befN m r) p k).length ((mxL (anyL m ys m.ps.length) (befN m r) p (k + 1)).flatMap K.eI), K.row (.slice Q1 (befN m r).length q1) 3 1 (befN m r).length ((befN m r).flatMap K.eI), K.row (.slice A1 (lngL m).length a1) 3 1 (lngL m).length ((lngL m).flatMap K.eI), K.blk b2 26 [.int .i64 m.W, .int .i64 m.D, .slice A m.hs.length c, .slice B m.ps.length d, .slice C m.ss.length e]]) [.slice (some ⟨gb, 0, none⟩) (mxL (anyL m ys m.ps.length) (befN m r) p k).length a2, .int .i64 ((k : Int) + 1)] ⟨k + 1, by simp only [mx_len]; rfl, by simp only [mx_len], by omega⟩ (by simp [K.nth, intOf]; omega) (List.Sublist.refl _) (by kernel_rfl)
    try replace ht120 := of_decide_eq_false ht120
    refine K.skip ?_
    refine K.norm_block ?_
    refine K.norm_then ?_
    refine K.region_lit ?_
    refine qm ?_
    refine qp (K.add_i64 rfl rfl (by omega)) ?_
    refine qa ?_
    refine K.seq_nil ?_
    have hkp : k = p := by omega
    have hms : (mxL (anyL m ys m.ps.length) (befN m r) p (k + 1)) = (mxL (anyL m ys m.ps.length) (befN m r) p k) := by subst hkp; exact mx_skip
    exact K.round_endW (L'' := [K.row (.slice A2 (mxL (anyL m ys m.ps.length) (befN m r) p k).length a2) 3 1 (mxL (anyL m ys m.ps.length) (befN m r) p k).length ((mxL (anyL m ys m.ps.length) (befN m r) p k).flatMap K.eI), K.row (.slice Q1 (befN m r).length q1) 3 1 (befN m r).length ((befN m r).flatMap K.eI), K.row (.slice A1 (lngL m).length a1) 3 1 (lngL m).length ((lngL m).flatMap K.eI), K.blk b2 26 [.int .i64 m.W, .int .i64 m.D, .slice A m.hs.length c, .slice B m.ps.length d, .slice C m.ss.length e]]) [.slice A2 (mxL (anyL m ys m.ps.length) (befN m r) p k).length a2, .int .i64 ((k : Int) + 1)] ⟨k + 1, by simp only [mx_len]; rfl, by rw [hms], by omega⟩ (by simp [K.nth, intOf]; omega) (List.Sublist.refl _) (by kernel_rfl)
  try replace ht104 := of_decide_eq_false ht104
  refine K.exit ?_
  refine K.exit_then ?_
  refine K.exit_then ?_
  refine K.exit_here ?_
  refine K.norm_then ?_
  refine K.seq ?_
  refine K.use_row K.m0 (fun hqx => ?_)
  obtain rfl : k = m.ps.length := by omega
  refine K.draw_L [] Tryd_mixed ?_
  refine K.d_mem 0 rfl (K.loadA_own ag_26 rfl (K.m3) rfl) (fun _ h => h) (by kernel_rfl) (by kernel_rfl) rfl ?_
  refine zN ?_
  refine K.d_pure 1 rfl (K.move) (by kernel_rfl) rfl ?_
  refine zn ?_
  refine K.d_pure 3 rfl (K.move) (by kernel_rfl) rfl ?_
  refine zn ?_
  refine K.d_pure 4 rfl (K.fieldAddr_lit fo_26_4 rfl) (by kernel_rfl) rfl ?_
  refine zn ?_
  refine K.d_mem 5 rfl (K.load1_own one_24 rfl (K.m3) rfl) (fun _ h => h) (by kernel_rfl) (by kernel_rfl) rfl ?_
  refine zN ?_
  refine K.d_pure 6 rfl (K.move) (by kernel_rfl) rfl ?_
  refine zn ?_
  refine K.d_ix (M := []) 7 s rfl hS.sl sl_24 rfl rfl (by omega) (by omega) (by kernel_rfl) rfl ?_
  intro p141 hp141
  refine zN ?_
  refine K.d_pure 8 rfl (K.fieldAddr fo_63_2 rfl) (by kernel_rfl) rfl ?_
  refine zn ?_
  refine K.d_pure 9 rfl (K.fieldAddr fo_61_0 rfl) (by kernel_rfl) rfl ?_
  refine zn ?_
  refine K.d_mem 10 rfl (K.load1 one_3 rfl ((K.PtrL.fld (K.PtrL.fld hp141 (k := 2)) (k := 0)).any)) (fun _ h => h) (by kernel_rfl) (by kernel_rfl) rfl ?_
  refine zN ?_
  refine K.d_pure 11 rfl (K.move) (by kernel_rfl) rfl ?_
  refine zn ?_
  refine K.d_loud 2 rfl (K.call_f cal_40 (fun F w hF hw => (by have hh := (K.Rd.own (e := K.eI) (xs := (mxL (anyL m ys m.ps.length) (befN m r) p m.ps.length)) hw (hF _ (K.m0)) hqx (fun _ => rfl) (by decide)); exact c40 (l := (mxL (anyL m ys m.ps.length) (befN m r) p m.ps.length)) (hP.pass hw) hh hxl hgn))) (fun _ h => h) (by kernel_rfl) rfl ?_
  rintro ⟨A4, a4⟩ ⟨hq4, ho4⟩
  refine zN ?_
  refine K.d_loud 12 rfl (K.call_f cal_18 (fun F w hF hw => c18 (s := (s : Int)) (p := (p : Int)) (eye := (m.ss.getD s default).lo) (m := longM m (mxL (anyL m ys m.ps.length) (befN m r) p m.ps.length)) (A := A) (B := A4) (C := C) (c := c) (d := a4) (e := e) (hH.pass hw) (K.Rd.own (e := eN) (xs := (longM m (mxL (anyL m ys m.ps.length) (befN m r) p m.ps.length)).ps) hw (hF _ (K.m0)) hq4 (fun _ => rfl) (by decide)) (hS.pass hw) hn (by rw [long_n]; omega) hk ho4)) (fun _ h => K.tl h) (by kernel_rfl) rfl ?_
  rintro ⟨A3, a3⟩ hq3
  refine zN ?_
  refine K.d_pure 13 rfl (K.move) (by kernel_rfl) rfl ?_
  refine zn ?_
  refine K.d_pure 14 rfl (K.extract rfl rfl) (by kernel_rfl) rfl ?_
  refine zn ?_
  refine K.d_pure 15 rfl (K.extract rfl rfl) (by kernel_rfl) rfl ?_
  refine zn ?_
  refine K.d_pure 16 rfl (K.assign) (by kernel_rfl) rfl ?_
  refine zn ?_
  refine K.d_pure 17 rfl (K.assign) (by kernel_rfl) rfl ?_
  refine zn ?_
  refine K.d_done (by kernel_rfl) ?_
  refine K.norm_then ?_
  refine sr ?_
  refine qm ?_
  refine qp (K.Pure.eq (K.eql rfl rfl) (show _ = Value.bool true from congrArg Value.bool (by rw [hhe]; decide))) ?_
  iterate 3 refine qm ?_
  refine K.seq_call (K.call_g cal_42 (fun F w hF hw => (by have hh := (K.Rd.own (e := K.eI) (xs := (hidL (longM m (mxL (anyL m ys m.ps.length) (befN m r) p m.ps.length)) s (m.ss.getD s default).lo p)) hw (hF _ (K.m0)) hq3 (fun _ => rfl) (by decide)); have hg := c42 (c := a3) (n := f) hh hh6; rw [show decide (f ∈ (hidL (longM m (mxL (anyL m ys m.ps.length) (befN m r) p m.ps.length)) s (m.ss.getD s default).lo p)) = true from decide_eq_true (by rw [hhl]; exact hfm)] at hg; exact hg))) rfl ?_
  refine zN ?_
  refine qp (K.pick_t rfl) ?_
  refine qm ?_
  refine K.seq_call (K.call_g cal_25 (fun F w hF hw => c25 (hT.pass hw))) rfl ?_
  refine zN ?_
  refine qp (K.pick_t rfl) ?_
  refine qa ?_
  refine sn ?_
  refine K.ret ?_
  refine K.end_ret (fun w _ => K.res_tmp rfl w) ?_
  exact K.gives rfl

theorem c9 {m : Mod} {A B C : Option Addr} {c d e : Nat} {Y : Option Addr} {cy : Nat} {ys : List Int} {w : World} (hH : K.Rd w A 1 K.eI m.hs) (hP : K.Rd w B 5 eN m.ps) (hS : K.Rd w C 4 eS m.ss) (hn : m.hs.length ≤ 4611686018427387904) (hm : m.ps.length ≤ 4611686018427387904) (hk : m.ss.length ≤ 4611686018427387904) (hcd : m.ps.length ≤ d) (hT : Tab w) (hY : K.Rd w Y 1 eH ys) (hyb : ∀ x ∈ ys, 0 ≤ x ∧ x ≤ 65535) (hyl : ys.length ≤ 140737488351232) : Calls Tryd.prog 9 [.agg #[.int .i64 m.W, .int .i64 m.D, .slice A m.hs.length c, .slice B m.ps.length d, .slice C m.ss.length e], .slice Y ys.length cy].toArray w (K.Gives (.bool true) w) := by
  by_cases hc : (chk m).2.2 = 0
  · by_cases h0 : lngE m = 0
    · exact f9 hH hP hS hn hm hk hcd hT hY hyb hyl hc h0
    · obtain ⟨r, p, s, f, hst, hr, hp, hs, hLB, hLM, hf⟩ := stuck_law hc h0
      exact g9 hH hP hS hn hm hk hcd hT hY hyb hyl hc h0 hst hr hp hs hLB hLM hf
  · exact e9 hH hP hS hn hm hk hcd hT hY hyb hyl hc


end Go.Proofs.YthkgnhcknkjgdaaDoor
