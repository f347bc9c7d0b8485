/-
  Walks of the program's functions, printed by program: what each returns.
  Conditions stand in each theorem.
-/
import Derived.WalkArith
import Derived.Laws.Closers25b
import Derived.Test.YthkgnhcknkjgdaaDoorWl
set_option linter.unusedSimpArgs false
set_option linter.unusedVariables false
namespace Go.Proofs.YthkgnhcknkjgdaaDoor
open Go.RowKit Go
open Go.K (setd setn ev nth over cl eI eP eT setM setF)
attribute [local irreducible] K.blk K.row

set_option maxRecDepth 100000 in
theorem e18 {m : Mod} {A B C : Option Addr} {c d e : Nat} {s eye p : Int} {w : World} (hH : K.Rd w A 1 K.eI m.hs) (hP : K.Rd w B 5 eN m.ps) (hS : K.Rd w C 4 eS m.ss) (hn : m.hs.length ≤ 4611686018427387904) (hm : m.ps.length ≤ 4611686018427387904) (hk : m.ss.length ≤ 4611686018427387904) (hcd : m.ps.length ≤ d) (hc : (chk m).2.2 ≠ 0) :
    Calls Tryd.prog 18 [.agg #[.int .i64 m.W, .int .i64 m.D, .slice A m.hs.length c, .slice B m.ps.length d, .slice C m.ss.length e], .int .i64 s, .int .i64 eye, .int .i64 p].toArray w (K.RetSE 3 1 K.eI (hidL m s eye p) (hidE m s eye p) w) := by
  have ha : askE m s p = (chk m).2.2 := by unfold askE; rw [if_pos hc]
  have he : hidE m s eye p = (chk m).2.2 := by rw [hid_a (by rw [ha]; exact hc), ha]
  have hne : hidE m s eye p ≠ 0 := by rw [he]; exact hc
  refine K.enter (args := [.agg #[.int .i64 m.W, .int .i64 m.D, .slice A m.hs.length c, .slice B m.ps.length d, .slice C m.ss.length e], .int .i64 s, .int .i64 eye, .int .i64 p]) Tryd.func18 rfl (n := 35) rfl ?_
  simp only [List.replicate, List.cons_append, List.nil_append]
  refine sr ?_
  refine K.seq_new (K.box) rfl ?_
  intro b4
  refine zN ?_
  iterate 2 refine qa ?_
  refine sn ?_
  refine sr ?_
  refine K.seq_sil (K.loadA_own ag_26 rfl (K.m0) rfl) rfl ?_
  refine zN ?_
  iterate 2 refine qm ?_
  refine K.seq_call (K.call_g cal_61 (fun F w hF hw => e61 (hH.pass hw) (hP.pass hw) (hS.pass hw) hn hm hk hcd hc)) rfl ?_
  refine zN ?_
  refine qm ?_
  refine qx ?_
  refine qx ?_
  iterate 2 refine qa ?_
  refine sn ?_
  refine K.seq ?_
  refine K.block ?_
  refine sr ?_
  refine qm ?_
  refine qp (K.neq rfl rfl) ?_
  refine qa ?_
  refine sn ?_
  refine K.cond_true (by exact congrArg Value.bool (decide_eq_true hc)) ?_
  refine sr ?_
  refine qm ?_
  iterate 2 refine qa ?_
  refine sn ?_
  refine K.ret ?_
  refine K.ret_block ?_
  refine K.ret_then ?_
  refine K.end_ret (fun w _ => K.res_tmp2 rfl w) ?_
  exact K.rets_se0 (hidL_e hne) he.symm rfl

set_option maxRecDepth 100000 in
theorem f18 {m : Mod} {A B C : Option Addr} {c d e : Nat} {s eye p : Int} {w : World} (hH : K.Rd w A 1 K.eI m.hs) (hP : K.Rd w B 5 eN m.ps) (hS : K.Rd w C 4 eS m.ss) (hn : m.hs.length ≤ 4611686018427387904) (hm : m.ps.length ≤ 4611686018427387904) (hk : m.ss.length ≤ 4611686018427387904) (hcd : m.ps.length ≤ d) (hc : (chk m).2.2 = 0) (ha : asE m s p ≠ 0) :
    Calls Tryd.prog 18 [.agg #[.int .i64 m.W, .int .i64 m.D, .slice A m.hs.length c, .slice B m.ps.length d, .slice C m.ss.length e], .int .i64 s, .int .i64 eye, .int .i64 p].toArray w (K.RetSE 3 1 K.eI (hidL m s eye p) (hidE m s eye p) w) := by
  have hak : askE m s p = 4 := by unfold askE; rw [if_neg (by omega)]; unfold asE at *; split <;> simp_all
  have he : hidE m s eye p = 4 := by rw [hid_a (by omega), hak]
  have hne : hidE m s eye p ≠ 0 := by omega
  refine K.enter (args := [.agg #[.int .i64 m.W, .int .i64 m.D, .slice A m.hs.length c, .slice B m.ps.length d, .slice C m.ss.length e], .int .i64 s, .int .i64 eye, .int .i64 p]) Tryd.func18 rfl (n := 35) rfl ?_
  simp only [List.replicate, List.cons_append, List.nil_append]
  refine sr ?_
  refine K.seq_new (K.box) rfl ?_
  intro b4
  refine zN ?_
  iterate 2 refine qa ?_
  refine sn ?_
  refine sr ?_
  refine K.seq_sil (K.loadA_own ag_26 rfl (K.m0) rfl) rfl ?_
  refine zN ?_
  iterate 2 refine qm ?_
  refine K.seq_call (K.call_g cal_61 (fun F w hF hw => f61 (hH.pass hw) (hP.pass hw) (hS.pass hw) hn hm hk hcd hc ha)) rfl ?_
  refine zN ?_
  refine qm ?_
  refine qx ?_
  refine qx ?_
  iterate 2 refine qa ?_
  refine sn ?_
  refine K.seq ?_
  refine K.block ?_
  refine sr ?_
  refine qm ?_
  refine qp (K.neq rfl rfl) ?_
  refine qa ?_
  refine sn ?_
  refine K.cond_true (by rfl) ?_
  refine sr ?_
  refine qm ?_
  iterate 2 refine qa ?_
  refine sn ?_
  refine K.ret ?_
  refine K.ret_block ?_
  refine K.ret_then ?_
  refine K.end_ret (fun w _ => K.res_tmp2 rfl w) ?_
  exact K.rets_se0 (hidL_e hne) he.symm rfl

set_option maxRecDepth 100000 in
theorem h18 {m : Mod} {A B C : Option Addr} {c d e : Nat} {s p : Nat} {eye : Int} {w : World} (hH : K.Rd w A 1 K.eI m.hs) (hP : K.Rd w B 5 eN m.ps) (hS : K.Rd w C 4 eS m.ss) (hn : m.hs.length ≤ 4611686018427387904) (hm : m.ps.length ≤ 4611686018427387904) (hk : m.ss.length ≤ 4611686018427387904) (hcd : m.ps.length ≤ d) (hc : (chk m).2.2 = 0) (hs : s < m.ss.length) (hp : p < m.ps.length) (hey : ¬ (0 ≤ eye ∧ eye ≤ 2000)) :
    Calls Tryd.prog 18 [.agg #[.int .i64 m.W, .int .i64 m.D, .slice A m.hs.length c, .slice B m.ps.length d, .slice C m.ss.length e], .int .i64 (s : Int), .int .i64 eye, .int .i64 (p : Int)].toArray w (K.RetSE 3 1 K.eI (hidL m s eye p) (hidE m s eye p) w) := by
  have g : Good m := chk_good hc
  have ha : asE m s p = 0 := by unfold asE; rw [if_neg (by omega)]
  have hak : askE m s p = 0 := by unfold askE; rw [if_neg (by omega), ha]
  have he := hid_7 hak hey
  refine K.enter (args := [.agg #[.int .i64 m.W, .int .i64 m.D, .slice A m.hs.length c, .slice B m.ps.length d, .slice C m.ss.length e], .int .i64 (s : Int), .int .i64 eye, .int .i64 (p : Int)]) Tryd.func18 rfl (n := 35) rfl ?_
  simp only [List.replicate, List.cons_append, List.nil_append]
  refine sr ?_
  refine K.seq_new (K.box) rfl ?_
  intro b4
  refine zN ?_
  iterate 2 refine qa ?_
  refine sn ?_
  refine sr ?_
  refine K.seq_sil (K.loadA_own ag_26 rfl (K.m0) rfl) rfl ?_
  refine zN ?_
  iterate 2 refine qm ?_
  refine K.seq_loud (K.call_f cal_61 (fun F w hF hw => g61 (hH.pass hw) (hP.pass hw) (hS.pass hw) hn hm hk hcd hc ha)) rfl ?_
  rintro q _
  refine zN ?_
  refine qm ?_
  refine qx ?_
  refine qx ?_
  iterate 2 refine qa ?_
  refine sn ?_
  refine K.seq ?_
  refine K.block ?_
  refine sr ?_
  refine qm ?_
  refine qp (K.neq rfl rfl) ?_
  refine qa ?_
  refine sn ?_
  refine K.cond_false (by rfl) ?_
  refine sr ?_
  refine qm ?_
  refine K.seq_new (K.buildSlice (bs1 _)) rfl ?_
  intro b25
  refine zN ?_
  refine K.seq_call (K.call_g cal_50 (fun F w hF hw => c50_1 hw (hF _ (K.m0)))) rfl ?_
  refine zN ?_
  refine qa ?_
  refine sn ?_
  refine K.cond_true (by exact congrArg Value.bool (decide_eq_true hey)) ?_
  refine sr ?_
  iterate 2 refine qa ?_
  refine sn ?_
  refine K.ret ?_
  refine K.ret_block ?_
  refine K.ret_then ?_
  refine K.end_ret (fun w _ => K.res_tmp2 rfl w) ?_
  exact K.rets_se0 (hidL_e (by omega)) he.symm rfl

set_option maxRecDepth 100000 in
theorem g18 {m : Mod} {A B C : Option Addr} {c d e : Nat} {s p : Nat} {eye : Int} {w : World} (hH : K.Rd w A 1 K.eI m.hs) (hP : K.Rd w B 5 eN m.ps) (hS : K.Rd w C 4 eS m.ss) (hn : m.hs.length ≤ 4611686018427387904) (hm : m.ps.length ≤ 4611686018427387904) (hk : m.ss.length ≤ 4611686018427387904) (hcd : m.ps.length ≤ d) (hc : (chk m).2.2 = 0) (hs : s < m.ss.length) (hp : p < m.ps.length) (hey : 0 ≤ eye ∧ eye ≤ 2000) :
    Calls Tryd.prog 18 [.agg #[.int .i64 m.W, .int .i64 m.D, .slice A m.hs.length c, .slice B m.ps.length d, .slice C m.ss.length e], .int .i64 (s : Int), .int .i64 eye, .int .i64 (p : Int)].toArray w (K.RetSE 3 1 K.eI (hidL m s eye p) (hidE m s eye p) w) := by
  have g : Good m := chk_good hc
  have ha : asE m s p = 0 := by unfold asE; rw [if_neg (by omega)]
  have hak : askE m s p = 0 := by unfold askE; rw [if_neg (by omega), ha]
  have he := hid_0 hak hey
  have hst := g.st hs
  have hW : Way m (m.ss.getD s default).x (m.ss.getD s default).y p := ⟨g, hp, by omega, by omega⟩
  rw [hidL_0 he, he]
  refine K.enter (args := [.agg #[.int .i64 m.W, .int .i64 m.D, .slice A m.hs.length c, .slice B m.ps.length d, .slice C m.ss.length e], .int .i64 (s : Int), .int .i64 eye, .int .i64 (p : Int)]) Tryd.func18 rfl (n := 35) rfl ?_
  simp only [List.replicate, List.cons_append, List.nil_append]
  refine sr ?_
  refine K.seq_new (K.box) rfl ?_
  intro b4
  refine zN ?_
  iterate 2 refine qa ?_
  refine sn ?_
  refine sr ?_
  refine K.seq_sil (K.loadA_own ag_26 rfl (K.m0) rfl) rfl ?_
  refine zN ?_
  iterate 2 refine qm ?_
  refine K.seq_loud (K.call_f cal_61 (fun F w hF hw => g61 (hH.pass hw) (hP.pass hw) (hS.pass hw) hn hm hk hcd hc ha)) rfl ?_
  rintro q _
  refine zN ?_
  refine qm ?_
  refine qx ?_
  refine qx ?_
  iterate 2 refine qa ?_
  refine sn ?_
  refine K.seq ?_
  refine K.block ?_
  refine sr ?_
  refine qm ?_
  refine qp (K.neq rfl rfl) ?_
  refine qa ?_
  refine sn ?_
  refine K.cond_false (by rfl) ?_
  refine sr ?_
  refine qm ?_
  refine K.seq_new (K.buildSlice (bs1 _)) rfl ?_
  intro b25
  refine zN ?_
  refine K.seq_call (K.call_g cal_50 (fun F w hF hw => c50_1 hw (hF _ (K.m0)))) rfl ?_
  refine zN ?_
  refine qa ?_
  refine sn ?_
  refine K.cond_false (by exact congrArg Value.bool (decide_eq_false (by omega))) ?_
  refine K.skip ?_
  refine K.norm_block ?_
  refine K.norm_then ?_
  refine K.seq ?_
  refine K.draw_L [] Tryd_mixed ?_
  refine K.d_pure 0 rfl (K.move) (by kernel_rfl) rfl ?_
  refine zn ?_
  refine K.d_pure 1 rfl (K.move) (by kernel_rfl) rfl ?_
  refine zn ?_
  refine K.d_pure 2 rfl (K.nilCheck rfl) (by kernel_rfl) rfl ?_
  refine zn ?_
  refine K.d_pure 3 rfl (K.fieldAddr_lit fo_101_1 rfl) (by kernel_rfl) rfl ?_
  refine zn ?_
  refine K.d_mem 4 rfl (K.loadA_own ag_98 rfl (K.m1) rfl) (fun _ h => h) (by kernel_rfl) (by kernel_rfl) rfl ?_
  refine zN ?_
  refine K.d_pure 5 rfl (K.move) (by kernel_rfl) rfl ?_
  refine zn ?_
  refine K.d_pure 6 rfl (K.move) (by kernel_rfl) rfl ?_
  refine zn ?_
  refine K.d_pure 8 rfl (K.move) (by kernel_rfl) rfl ?_
  refine zn ?_
  refine K.d_pure 9 rfl (K.move) (by kernel_rfl) rfl ?_
  refine zn ?_
  refine K.d_call 7 rfl (K.call_g cal_64 (fun F w hF hw => c64 (K.PtrL.now hw (hF _ (K.m1))) (hS.pass hw) hs)) (fun _ h => h) (by kernel_rfl) rfl ?_
  refine zN ?_
  refine K.d_loud 10 rfl (K.call_f cal_63 (fun F w hF hw => c63 (l := ownS m) w)) (fun _ h => h) (by kernel_rfl) rfl ?_
  rintro ⟨q1, q2, q3, q4, q5⟩ _
  refine zN ?_
  refine K.d_loud 11 rfl (K.call_f cal_62 (fun F w hF hw => c62 (cap := [.pointer (some ⟨q1, 0, none⟩), .pointer (some ⟨q2, 0, none⟩), .pointer (some ⟨q5, 0, none⟩), .pointer (some ⟨q3, 0, none⟩), .pointer (some ⟨q4, 0, none⟩)]) cal_96 (c96 (c := c) (d := d) (e := e) (A := A) (B := B) (C := C) (b := q) (hW) g.lb (by omega)) (fun f w1 hb hf => ⟨R.own_later hw (hF _ (K.m4)) hb hf, R.own_later hw (hF _ (K.m3)) hb hf, R.own_later hw (hF _ (K.m0)) hb hf, R.own_later hw (hF _ (K.m2)) hb hf, R.own_later hw (hF _ (K.m1)) hb hf, R.own_later hw (hF _ (K.m6)) hb hf, (hP.pass hw).later hb⟩) (by have := hides_len (l := ownS m) (eye := eye) hW; omega))) (fun _ h => K.tl (K.tl (K.tl (K.tl (K.tl h))))) (by kernel_rfl) rfl ?_
  rintro ⟨Q1, q0⟩ hq
  refine zN ?_
  refine K.d_pure 12 rfl (K.assign) (by kernel_rfl) rfl ?_
  refine zn ?_
  refine K.d_pure 13 rfl (K.assign) (by kernel_rfl) rfl ?_
  refine zn ?_
  refine K.d_done (by kernel_rfl) ?_
  refine K.norm_then ?_
  refine K.ret ?_
  refine K.end_ret (fun w _ => K.res_tmp2 rfl w) ?_
  exact K.rets_se K.m0 rfl rfl rfl rfl

theorem c18 {m : Mod} {A B C : Option Addr} {c d e : Nat} {s eye p : Int} {w : World} (hH : K.Rd w A 1 K.eI m.hs) (hP : K.Rd w B 5 eN m.ps) (hS : K.Rd w C 4 eS m.ss) (hn : m.hs.length ≤ 4611686018427387904) (hm : m.ps.length ≤ 4611686018427387904) (hk : m.ss.length ≤ 4611686018427387904) (hcd : m.ps.length ≤ d) : Calls Tryd.prog 18 [.agg #[.int .i64 m.W, .int .i64 m.D, .slice A m.hs.length c, .slice B m.ps.length d, .slice C m.ss.length e], .int .i64 s, .int .i64 eye, .int .i64 p].toArray w (K.RetSE 3 1 K.eI (hidL m s eye p) (hidE m s eye p) w) := by
  by_cases hc : (chk m).2.2 = 0
  · by_cases ha : asE m s p = 0
    · have hb : (0 ≤ s ∧ s ≤ (m.ss.length : Int) - 1) ∧ (0 ≤ p ∧ p ≤ (m.ps.length : Int) - 1) := by
        unfold asE at ha; split at ha
        · cases ha
        · rename_i h; exact Decidable.not_not.1 h
      obtain ⟨s', rfl⟩ := Int.eq_ofNat_of_zero_le hb.1.1
      obtain ⟨p', rfl⟩ := Int.eq_ofNat_of_zero_le hb.2.1
      by_cases hey : 0 ≤ eye ∧ eye ≤ 2000
      · exact g18 hH hP hS hn hm hk hcd hc (by omega) (by omega) hey
      · exact h18 hH hP hS hn hm hk hcd hc (by omega) (by omega) hey
    · exact f18 hH hP hS hn hm hk hcd hc ha
  · exact e18 hH hP hS hn hm hk hcd hc


theorem c98h {m : Mod} {A B C : Option Addr} {c d e : Nat} {Q : Option Addr} {q i : Nat} {l : List Int} {x y : Int} {w : World} (hH : K.Rd w A 1 K.eI m.hs) (hP : K.Rd w B 5 eN m.ps) (hL : K.Rd w Q 1 K.eI l) (hll : l.length = m.ps.length) (hl : LB l) (hW : Way m x y i) : Calls Tryd.prog 98 [.agg #[.int .i64 m.W, .int .i64 m.D, .slice A m.hs.length c, .slice B m.ps.length d, .slice C m.ss.length e], .slice Q l.length q, .int .i64 (m.ps.getD i default).x, .int .i64 (m.ps.getD i default).y].toArray w (K.Gives (.int .i64 (headS m l i)) w) := by
  have h := c98 (c := c) (d := d) (e := e) (C := C) (q := q) hH hP hL hll hW.g hl (hW.g.p i hW.i).1
  rw [top_own hW.g hW.i] at h
  exact h


set_option maxRecDepth 100000 in
set_option maxHeartbeats 1000000 in
theorem c66 {m : Mod} {A B C : Option Addr} {c d e : Nat} {Q : Option Addr} {q i : Nat} {l : List Int} {x y eye : Int} {w : World} (hH : K.Rd w A 1 K.eI m.hs) (hP : K.Rd w B 5 eN m.ps) (hL : K.Rd w Q 1 K.eI l) (hll : l.length = m.ps.length) (hl : LB l) (hW : Way m x y i) (he : 0 ≤ eye ∧ eye ≤ 3000) :
    Calls Tryd.prog 66 [.agg #[.int .i64 m.W, .int .i64 m.D, .slice A m.hs.length c, .slice B m.ps.length d, .slice C m.ss.length e], .slice Q l.length q, .int .i64 x, .int .i64 y, .int .i64 eye, .int .i64 (i : Int)].toArray w (K.RetS 3 1 K.eI (hidesS m l x y eye i) w) := by
  have hi := hW.i
  have hp := hW.p
  have hgb := hW.gb
  have hx0 := hW.x
  have hy0 := hW.y
  have hpF := (hW.g.p i hi).1
  have hdb := head_bd hW.g hl i
  refine K.enter (args := [.agg #[.int .i64 m.W, .int .i64 m.D, .slice A m.hs.length c, .slice B m.ps.length d, .slice C m.ss.length e], .slice Q l.length q, .int .i64 x, .int .i64 y, .int .i64 eye, .int .i64 (i : Int)]) Tryd.func66 rfl (n := 93) rfl ?_
  simp only [List.replicate, List.cons_append, List.nil_append]
  refine sr ?_
  refine K.seq_new (K.box) rfl ?_
  intro b6
  refine zN ?_
  refine qa ?_
  refine sn ?_
  refine sr ?_
  refine qp (K.fieldAddr_lit fo_26_3 rfl) ?_
  refine K.seq_sil (K.load1_own one_23 rfl (K.m0) rfl) rfl ?_
  refine zN ?_
  refine qm ?_
  refine K.seq_ix (M := []) _ hP.sl sl_23 rfl rfl rfl (by omega) rfl ?_
  intro p23 hp23
  refine zN ?_
  refine K.seq_sil (K.loadA_p ag_54 rfl (hp23.any) rfl) rfl ?_
  refine zN ?_
  refine K.seq_new (K.alloc zr_54) rfl ?_
  intro b13
  refine zN ?_
  refine K.seq_st (K.store_all sz_54 rfl rfl rfl rfl (K.rp0)) rfl ?_
  refine zN ?_
  refine sn ?_
  refine sr ?_
  refine qp (K.fieldAddr_lit fo_54_1 rfl) ?_
  refine K.seq_sil (K.load1_own one_3 rfl (K.m0) rfl) rfl ?_
  refine zN ?_
  refine qm ?_
  refine qp (K.sub_i64 rfl rfl (by omega)) ?_
  refine qp (K.fieldAddr_lit fo_54_2 rfl) ?_
  refine K.seq_sil (K.load1_own one_3 rfl (K.m0) rfl) rfl ?_
  refine zN ?_
  refine qm ?_
  refine qp (K.sub_i64 rfl rfl (by omega)) ?_
  refine K.seq_call (K.call_g cal_97 (fun F w hF hw => c97g w (by omega) (by omega))) rfl ?_
  refine zN ?_
  refine qa ?_
  refine sn ?_
  refine sr ?_
  refine K.seq_sil (K.loadA_own ag_26 rfl (K.m1) rfl) rfl ?_
  refine zN ?_
  refine qm ?_
  refine qp (K.fieldAddr_lit fo_54_1 rfl) ?_
  refine K.seq_sil (K.load1_own one_3 rfl (K.m0) rfl) rfl ?_
  refine zN ?_
  refine qp (K.fieldAddr_lit fo_54_2 rfl) ?_
  refine K.seq_sil (K.load1_own one_3 rfl (K.m0) rfl) rfl ?_
  refine zN ?_
  refine K.seq_call (K.call_g cal_98 (fun F w hF hw => c98h (hH.pass hw) (hP.pass hw) (hL.pass hw) hll hl hW)) rfl ?_
  refine zN ?_
  refine qa ?_
  refine sn ?_
  refine sr ?_
  refine qa ?_
  refine sn ?_
  refine K.seq ?_
  refine sr ?_
  refine K.nil_row (e := 3) (size := 1) ?_
  refine qa ?_
  refine sn ?_
  refine K.block ?_
  refine K.loopW [16, 17] [18, 19, 41, 42, 43, 44, 45, 46, 47, 48, 49, 50, 51, 52, 53, 54, 55, 56, 57, 58, 59, 60, 61, 62, 63, 64, 65, 66, 67, 68, 69, 70, 71, 72, 73, 74, 75, 76, 77, 78, 79, 80, 81, 82, 83, 84, 85, 86, 87, 88, 89, 90, 91, 92, 93, 94, 95, 96, 97] (fun vi L => ∃ (k : Nat) (Q1 : Option Addr) (q1 : Nat), vi = [.slice Q1 (hfK m l eye x y i k).length q1, .int .i64 ((k : Int) + 1)] ∧ L = [K.row (.slice Q1 (hfK m l eye x y i k).length q1) 3 1 (hfK m l eye x y i k).length ((hfK m l eye x y i k).flatMap K.eI), K.blk b13 54 [.string (m.ps.getD i default).nm, .int .i64 (m.ps.getD i default).x, .int .i64 (m.ps.getD i default).y, .int .i64 (m.ps.getD i default).len, .int .i64 (m.ps.getD i default).most], K.blk b6 26 [.int .i64 m.W, .int .i64 m.D, .slice A m.hs.length c, .slice B m.ps.length d, .slice C m.ss.length e]] ∧ (k = 0 ∨ (k : Int) + 1 ≤ gS m x y i)) (fun vi => 30 - (intOf (K.nth vi 1)).toNat) ?_ ?_
  · exact ⟨0, none, 0, rfl, rfl, .inl rfl⟩
  intro vi vr L hJ
  obtain ⟨k, Q1, q1, rfl, rfl, hk1⟩ := hJ
  try dsimp only [setd, setn, ev, nth, over, cl, eI, eP, eT, eN, eS, setM, setF, List.map, List.append, List.drop, List.take]
  refine K.seq ?_
  refine sr ?_
  iterate 2 refine qm ?_
  refine qp (K.lss rfl rfl) ?_
  refine sn ?_
  refine K.cond rfl (fun ht43 => ?_) (fun ht43 => ?_)
  · try replace ht43 := of_decide_eq_true ht43
    have ha := hW.at (k := k) (by omega)
    have hdx := dv_bd (gS_x (m := m) (x := x) (y := y) (i := i)) (by omega) (by omega)
    have hdy := dv_bd (gS_y (m := m) (x := x) (y := y) (i := i)) (by omega) (by omega)
    have hfl := hf_len (m := m) (l := l) (eye := eye) (x := x) (y := y) (i := i) (k := k)
    refine K.skip ?_
    refine K.norm_then ?_
    refine K.seq ?_
    refine K.block ?_
    refine K.seq ?_
    refine K.draw_L [] Tryd_mixed ?_
    refine K.d_pure 0 rfl (K.move) (by kernel_rfl) rfl ?_
    refine zn ?_
    refine K.d_pure 1 rfl (K.fieldAddr_lit fo_54_1 rfl) (by kernel_rfl) rfl ?_
    refine zn ?_
    refine K.d_mem 2 rfl (K.load1_own one_3 rfl (K.m1) rfl) (fun _ h => h) (by kernel_rfl) (by kernel_rfl) rfl ?_
    refine zN ?_
    refine K.d_pure 3 rfl (K.move) (by kernel_rfl) rfl ?_
    refine zn ?_
    refine K.d_pure 4 rfl (K.sub_i64 rfl rfl (by omega)) (by kernel_rfl) rfl ?_
    refine zn ?_
    refine K.d_pure 5 rfl (K.move) (by kernel_rfl) rfl ?_
    refine zn ?_
    refine K.d_pure 6 rfl (K.Pure.eq (K.quo_t rfl rfl (by omega) (by omega)) (show _ = Value.int .i64 (((m.ps.getD i default).x - x) / gS m x y i) from by rw [way_quo gS_x])) (by kernel_rfl) rfl ?_
    refine zn ?_
    refine K.d_pure 7 rfl (K.move) (by kernel_rfl) rfl ?_
    refine zn ?_
    refine K.d_pure 8 rfl (K.mul_i64 rfl rfl (by omega)) (by kernel_rfl) rfl ?_
    refine zn ?_
    refine K.d_pure 9 rfl (K.add_i64 rfl rfl (by omega)) (by kernel_rfl) rfl ?_
    refine zn ?_
    refine K.d_pure 10 rfl (K.move) (by kernel_rfl) rfl ?_
    refine zn ?_
    refine K.d_pure 11 rfl (K.fieldAddr_lit fo_54_2 rfl) (by kernel_rfl) rfl ?_
    refine zn ?_
    refine K.d_mem 12 rfl (K.load1_own one_3 rfl (K.m1) rfl) (fun _ h => h) (by kernel_rfl) (by kernel_rfl) rfl ?_
    refine zN ?_
    refine K.d_pure 13 rfl (K.move) (by kernel_rfl) rfl ?_
    refine zn ?_
    refine K.d_pure 14 rfl (K.sub_i64 rfl rfl (by omega)) (by kernel_rfl) rfl ?_
    refine zn ?_
    refine K.d_pure 15 rfl (K.move) (by kernel_rfl) rfl ?_
    refine zn ?_
    refine K.d_pure 16 rfl (K.Pure.eq (K.quo_t rfl rfl (by omega) (by omega)) (show _ = Value.int .i64 (((m.ps.getD i default).y - y) / gS m x y i) from by rw [way_quo gS_y])) (by kernel_rfl) rfl ?_
    refine zn ?_
    refine K.d_pure 17 rfl (K.move) (by kernel_rfl) rfl ?_
    refine zn ?_
    refine K.d_pure 18 rfl (K.mul_i64 rfl rfl (by omega)) (by kernel_rfl) rfl ?_
    refine zn ?_
    refine K.d_pure 19 rfl (K.add_i64 rfl rfl (by omega)) (by kernel_rfl) rfl ?_
    refine zn ?_
    refine K.d_pure 20 rfl (K.assign) (by kernel_rfl) rfl ?_
    refine zn ?_
    refine K.d_pure 21 rfl (K.assign) (by kernel_rfl) rfl ?_
    refine zn ?_
    refine K.d_done (by kernel_rfl) ?_
    refine K.norm_then ?_
    refine sr ?_
    refine K.seq_sil (K.loadA_own ag_26 rfl (K.m2) rfl) rfl ?_
    refine zN ?_
    iterate 2 refine qm ?_
    refine K.seq_call (K.call_g cal_81 (fun F w hF hw => c81 hW.g.w hW.g.d)) rfl ?_
    refine zN ?_
    refine qm ?_
    refine K.split 70 rfl (fun hg70 => ?_) (fun hg70 => ?_)
    · try replace hg70 := of_decide_eq_true hg70
      have hfd := fld_bd hW.g.w hW.g.d hg70
      have htb := top_bd hW.g hl ((y + ((m.ps.getD i default).y - y) / gS m x y i * ((k : Int) + 1)) * m.W + (x + ((m.ps.getD i default).x - x) / gS m x y i * ((k : Int) + 1)))
      have hm1 := mul_bd (C := 27) htb (b := gS m x y i) (by omega)
      have hm2 := mul_bd (C := 27) he (b := gS m x y i - ((k : Int) + 1)) (by omega)
      have hm3 := mul_bd (C := 27) hdb (b := ((k : Int) + 1)) (by omega)
      refine K.seq_sil (K.loadA_own ag_26 rfl (K.m2) rfl) rfl ?_
      refine zN ?_
      iterate 3 refine qm ?_
      refine K.seq_call (K.call_g cal_98 (fun F w hF hw => c98 (hH.pass hw) (hP.pass hw) (hL.pass hw) hll hW.g hl hg70)) rfl ?_
      refine zN ?_
      refine qm ?_
      refine qp (K.mul_i64 rfl rfl (by omega)) ?_
      iterate 3 refine qm ?_
      refine qp (K.sub_i64 rfl rfl (by omega)) ?_
      refine qp (K.mul_i64 rfl rfl (by omega)) ?_
      iterate 2 refine qm ?_
      refine qp (K.mul_i64 rfl rfl (by omega)) ?_
      refine qp (K.add_i64 rfl rfl (by omega)) ?_
      refine qp (K.geq rfl rfl) ?_
      refine qp (K.pick_t rfl) ?_
      refine sn ?_
      refine K.cond rfl (fun ht88 => ?_) (fun ht88 => ?_)
      · try replace ht88 := of_decide_eq_true ht88
        refine K.region_lit ?_
        iterate 2 refine qm ?_
        refine qp (K.fieldAddr_lit fo_26_0 rfl) ?_
        refine K.seq_sil (K.load1_own one_3 rfl (K.m2) rfl) rfl ?_
        refine zN ?_
        refine qp (K.mul_i64 rfl rfl (by omega)) ?_
        refine qm ?_
        refine qp (K.add_i64 rfl rfl (by omega)) ?_
        refine K.seq_new (K.buildSlice (bs1 _)) rfl ?_
        intro b96
        refine zN ?_
        refine K.seq_upd (K.append el_22 rfl rfl (K.PtrL.own' (K.m0)) rfl rfl (by decide) (by omega) (by omega) (fun _ _ => K.rp1)) rfl ?_
        rintro ⟨g97, c97⟩ _
        refine zN ?_
        refine qa ?_
        refine K.seq_nil ?_
        refine K.norm_block ?_
        refine K.norm_then ?_
        refine K.region_lit ?_
        refine qm ?_
        refine qp (K.add_i64 rfl rfl (by omega)) ?_
        refine qa ?_
        refine K.seq_nil ?_
        have hfe : (hfK m l eye x y i (k + 1)) = (hfK m l eye x y i k) ++ [((y + ((m.ps.getD i default).y - y) / gS m x y i * ((k : Int) + 1)) * m.W + (x + ((m.ps.getD i default).x - x) / gS m x y i * ((k : Int) + 1)))] := by rw [hf_some hg70, if_pos ht88]
        exact K.round_endW (L'' := [K.row (.slice (some ⟨g97, 0, none⟩) ((hfK m l eye x y i k).length + 1) c97) 3 1 ((hfK m l eye x y i k).length + 1) ((hfK m l eye x y i k).flatMap K.eI ++ [.int .i64 ((y + ((m.ps.getD i default).y - y) / gS m x y i * ((k : Int) + 1)) * m.W + (x + ((m.ps.getD i default).x - x) / gS m x y i * ((k : Int) + 1)))]), K.blk b13 54 [.string (m.ps.getD i default).nm, .int .i64 (m.ps.getD i default).x, .int .i64 (m.ps.getD i default).y, .int .i64 (m.ps.getD i default).len, .int .i64 (m.ps.getD i default).most], K.blk b6 26 [.int .i64 m.W, .int .i64 m.D, .slice A m.hs.length c, .slice B m.ps.length d, .slice C m.ss.length e]]) [.slice (some ⟨g97, 0, none⟩) ((hfK m l eye x y i k).length + 1) c97, .int .i64 ((k : Int) + 1 + 1)] ⟨k + 1, some ⟨g97, 0, none⟩, c97, by rw [hfe, List.length_append]; rfl, by rw [hfe, List.length_append, List.flatMap_append]; rfl, by omega⟩ (by simp [K.nth, intOf]; omega) (by repeat (first | exact List.Sublist.refl _ | apply List.Sublist.cons)) (by kernel_rfl)
      try replace ht88 := of_decide_eq_false ht88
      refine K.skip ?_
      refine K.norm_block ?_
      refine K.norm_then ?_
      refine K.region_lit ?_
      refine qm ?_
      refine qp (K.add_i64 rfl rfl (by omega)) ?_
      refine qa ?_
      refine K.seq_nil ?_
      have hfe : (hfK m l eye x y i (k + 1)) = (hfK m l eye x y i k) := by rw [hf_some hg70, if_neg ht88, List.append_nil]
      exact K.round_endW (L'' := [K.row (.slice Q1 (hfK m l eye x y i k).length q1) 3 1 (hfK m l eye x y i k).length ((hfK m l eye x y i k).flatMap K.eI), K.blk b13 54 [.string (m.ps.getD i default).nm, .int .i64 (m.ps.getD i default).x, .int .i64 (m.ps.getD i default).y, .int .i64 (m.ps.getD i default).len, .int .i64 (m.ps.getD i default).most], K.blk b6 26 [.int .i64 m.W, .int .i64 m.D, .slice A m.hs.length c, .slice B m.ps.length d, .slice C m.ss.length e]]) [.slice Q1 (hfK m l eye x y i k).length q1, .int .i64 ((k : Int) + 1 + 1)] ⟨k + 1, Q1, q1, by rw [hfe]; rfl, by rw [hfe], by omega⟩ (by simp [K.nth, intOf]; omega) (by repeat (first | exact List.Sublist.refl _ | apply List.Sublist.cons)) (by kernel_rfl)
    try replace hg70 := of_decide_eq_false hg70
    iterate 17 refine qs ?_
    refine qp (K.pick_f rfl) ?_
    refine sn ?_
    refine K.cond_false rfl ?_
    refine K.skip ?_
    refine K.norm_block ?_
    refine K.norm_then ?_
    refine K.region_lit ?_
    refine qm ?_
    refine qp (K.add_i64 rfl rfl (by omega)) ?_
    refine qa ?_
    refine K.seq_nil ?_
    have hfe : (hfK m l eye x y i (k + 1)) = (hfK m l eye x y i k) := hf_none hg70
    exact K.round_endW (L'' := [K.row (.slice Q1 (hfK m l eye x y i k).length q1) 3 1 (hfK m l eye x y i k).length ((hfK m l eye x y i k).flatMap K.eI), K.blk b13 54 [.string (m.ps.getD i default).nm, .int .i64 (m.ps.getD i default).x, .int .i64 (m.ps.getD i default).y, .int .i64 (m.ps.getD i default).len, .int .i64 (m.ps.getD i default).most], K.blk b6 26 [.int .i64 m.W, .int .i64 m.D, .slice A m.hs.length c, .slice B m.ps.length d, .slice C m.ss.length e]]) [.slice Q1 (hfK m l eye x y i k).length q1, .int .i64 ((k : Int) + 1 + 1)] ⟨k + 1, Q1, q1, by rw [hfe]; rfl, by rw [hfe], by omega⟩ (by simp [K.nth, intOf]; omega) (by repeat (first | exact List.Sublist.refl _ | apply List.Sublist.cons)) (by kernel_rfl)
  try replace ht43 := of_decide_eq_false ht43
  refine K.exit ?_
  refine K.exit_then ?_
  refine K.exit_then ?_
  refine K.exit_here ?_
  refine K.norm_then ?_
  refine sr ?_
  refine qm ?_
  refine qa ?_
  refine sn ?_
  refine K.ret ?_
  refine K.end_ret (fun w _ => K.res_tmp rfl w) ?_
  have e0 : k = (gS m x y i).toNat - 1 := by omega
  exact K.rets_s K.m0 (by rw [e0, hf_all]) (by rw [e0, hf_all]) rfl

end Go.Proofs.YthkgnhcknkjgdaaDoor
