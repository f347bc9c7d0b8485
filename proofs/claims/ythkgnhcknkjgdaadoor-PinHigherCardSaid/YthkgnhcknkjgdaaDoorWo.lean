/-
  Walks of the program's functions, printed by program: what each returns.
  Conditions stand in each theorem.
-/
import Derived.WalkArith
import Derived.Laws.Closers25b
import Derived.Test.YthkgnhcknkjgdaaDoorWn
set_option linter.unusedSimpArgs false
set_option linter.unusedVariables false
namespace Go.Proofs.YthkgnhcknkjgdaaDoor
open Go.RowKit Go
open Go.K (setd setn ev nth over cl eI eP eT setM setF)
attribute [local irreducible] K.blk K.row

set_option maxRecDepth 100000 in
theorem e21 {m : Mod} {A B C : Option Addr} {c d e : Nat} {s : Int} {w : World} (hH : K.Rd w A 1 K.eI m.hs) (hP : K.Rd w B 5 eN m.ps) (hS : K.Rd w C 4 eS m.ss) (hn : m.hs.length ≤ 4611686018427387904) (hm : m.ps.length ≤ 4611686018427387904) (hk : m.ss.length ≤ 4611686018427387904) (hcd : m.ps.length ≤ d) (hc : (chk m).2.2 ≠ 0) :
    Calls Tryd.prog 21 [.agg #[.int .i64 m.W, .int .i64 m.D, .slice A m.hs.length c, .slice B m.ps.length d, .slice C m.ss.length e], .int .i64 s].toArray w (Ret2 (sureL m s) (mayL m s) (seenE m s) w) := by
  have he := seen_c (s := s) hc
  refine K.enter (args := [.agg #[.int .i64 m.W, .int .i64 m.D, .slice A m.hs.length c, .slice B m.ps.length d, .slice C m.ss.length e], .int .i64 s]) Tryd.func21 rfl (n := 54) rfl ?_
  simp only [List.replicate, List.cons_append, List.nil_append]
  refine sr ?_
  refine K.seq_new (K.box) rfl ?_
  intro b2
  refine zN ?_
  iterate 3 refine qa ?_
  refine sn ?_
  refine sr ?_
  refine K.seq_sil (K.loadA_own ag_26 rfl (K.m0) rfl) rfl ?_
  refine zN ?_
  refine K.seq_call (K.call_g cal_67 (fun F w hF hw => e67 (hH.pass hw) (hP.pass hw) (hS.pass hw) hn hm hk hcd hc)) rfl ?_
  refine zN ?_
  refine qm ?_
  refine qx ?_
  refine qx ?_
  iterate 2 refine qa ?_
  refine sn ?_
  refine K.seq ?_
  refine K.block ?_
  refine sr ?_
  refine qm ?_
  refine qp (K.neq rfl rfl) ?_
  refine qa ?_
  refine sn ?_
  refine K.cond_true (by exact congrArg Value.bool (decide_eq_true hc)) ?_
  refine sr ?_
  refine qm ?_
  iterate 3 refine qa ?_
  refine sn ?_
  refine K.ret ?_
  refine K.ret_block ?_
  refine K.ret_then ?_
  refine K.end_ret (fun w _ => K.res_ttt rfl w) ?_
  exact ret2_0 (sure_e (by omega)) (may_e (by omega)) he rfl

set_option maxRecDepth 100000 in
theorem f21 {m : Mod} {A B C : Option Addr} {c d e : Nat} {s : Int} {w : World} (hH : K.Rd w A 1 K.eI m.hs) (hP : K.Rd w B 5 eN m.ps) (hS : K.Rd w C 4 eS m.ss) (hn : m.hs.length ≤ 4611686018427387904) (hm : m.ps.length ≤ 4611686018427387904) (hk : m.ss.length ≤ 4611686018427387904) (hcd : m.ps.length ≤ d) (hc : (chk m).2.2 = 0) (hs : ¬ (0 ≤ s ∧ s ≤ (m.ss.length : Int) - 1)) :
    Calls Tryd.prog 21 [.agg #[.int .i64 m.W, .int .i64 m.D, .slice A m.hs.length c, .slice B m.ps.length d, .slice C m.ss.length e], .int .i64 s].toArray w (Ret2 (sureL m s) (mayL m s) (seenE m s) w) := by
  have he := seen_4 hc hs
  refine K.enter (args := [.agg #[.int .i64 m.W, .int .i64 m.D, .slice A m.hs.length c, .slice B m.ps.length d, .slice C m.ss.length e], .int .i64 s]) Tryd.func21 rfl (n := 54) rfl ?_
  simp only [List.replicate, List.cons_append, List.nil_append]
  refine sr ?_
  refine K.seq_new (K.box) rfl ?_
  intro b2
  refine zN ?_
  iterate 3 refine qa ?_
  refine sn ?_
  refine sr ?_
  refine K.seq_sil (K.loadA_own ag_26 rfl (K.m0) rfl) rfl ?_
  refine zN ?_
  refine K.seq_loud (K.call_f cal_67 (fun F w hF hw => g67 (hH.pass hw) (hP.pass hw) (hS.pass hw) hn hm hk hcd (chk_e0 hc))) rfl ?_
  rintro q _
  refine zN ?_
  refine qm ?_
  refine qx ?_
  refine qx ?_
  iterate 2 refine qa ?_
  refine sn ?_
  refine K.seq ?_
  refine K.block ?_
  refine sr ?_
  refine qm ?_
  refine qp (K.neq rfl rfl) ?_
  refine qa ?_
  refine sn ?_
  refine K.cond_false (by rfl) ?_
  refine sr ?_
  refine qp (K.fieldAddr_lit fo_26_4 rfl) ?_
  refine K.seq_sil (K.load1_own one_24 rfl (K.m1) rfl) rfl ?_
  refine zN ?_
  refine qp (K.len_sl sl_24 rfl) ?_
  refine qp (K.sub_i64 rfl rfl (by omega)) ?_
  refine qm ?_
  refine K.seq_new (K.buildSlice (bs1 _)) rfl ?_
  intro b24
  refine zN ?_
  refine K.seq_call (K.call_g cal_50 (fun F w hF hw => c50_1 hw (hF _ (K.m0)))) rfl ?_
  refine zN ?_
  refine qa ?_
  refine sn ?_
  refine K.cond_true (by exact congrArg Value.bool (decide_eq_true hs)) ?_
  refine sr ?_
  iterate 3 refine qa ?_
  refine sn ?_
  refine K.ret ?_
  refine K.ret_block ?_
  refine K.ret_then ?_
  refine K.end_ret (fun w _ => K.res_ttt rfl w) ?_
  exact ret2_0 (sure_e (by omega)) (may_e (by omega)) he rfl

set_option maxRecDepth 100000 in
theorem g21 {m : Mod} {A B C : Option Addr} {c d e : Nat} {s : Nat} {w : World} (hH : K.Rd w A 1 K.eI m.hs) (hP : K.Rd w B 5 eN m.ps) (hS : K.Rd w C 4 eS m.ss) (hn : m.hs.length ≤ 4611686018427387904) (hm : m.ps.length ≤ 4611686018427387904) (hk : m.ss.length ≤ 4611686018427387904) (hcd : m.ps.length ≤ d) (hT : Tab w) (hc : (chk m).2.2 = 0) (hs : s < m.ss.length) :
    Calls Tryd.prog 21 [.agg #[.int .i64 m.W, .int .i64 m.D, .slice A m.hs.length c, .slice B m.ps.length d, .slice C m.ss.length e], .int .i64 (s : Int)].toArray w (Ret2 (sureL m s) (mayL m s) (seenE m s) w) := by
  have g : Good m := chk_good hc
  have hst := g.st hs
  have hgn := g.n
  have he0 := seen_0 hc hs
  rw [sure_0 he0, may_0 he0, he0]
  unfold seenL
  refine K.enter (args := [.agg #[.int .i64 m.W, .int .i64 m.D, .slice A m.hs.length c, .slice B m.ps.length d, .slice C m.ss.length e], .int .i64 (s : Int)]) Tryd.func21 rfl (n := 54) rfl ?_
  simp only [List.replicate, List.cons_append, List.nil_append]
  refine sr ?_
  refine K.seq_new (K.box) rfl ?_
  intro b2
  refine zN ?_
  iterate 3 refine qa ?_
  refine sn ?_
  refine sr ?_
  refine K.seq_sil (K.loadA_own ag_26 rfl (K.m0) rfl) rfl ?_
  refine zN ?_
  refine K.seq_loud (K.call_f cal_67 (fun F w hF hw => g67 (hH.pass hw) (hP.pass hw) (hS.pass hw) hn hm hk hcd (chk_e0 hc))) rfl ?_
  rintro q _
  refine zN ?_
  refine qm ?_
  refine qx ?_
  refine qx ?_
  iterate 2 refine qa ?_
  refine sn ?_
  refine K.seq ?_
  refine K.block ?_
  refine sr ?_
  refine qm ?_
  refine qp (K.neq rfl rfl) ?_
  refine qa ?_
  refine sn ?_
  refine K.cond_false (by rfl) ?_
  refine sr ?_
  refine qp (K.fieldAddr_lit fo_26_4 rfl) ?_
  refine K.seq_sil (K.load1_own one_24 rfl (K.m1) rfl) rfl ?_
  refine zN ?_
  refine qp (K.len_sl sl_24 rfl) ?_
  refine qp (K.sub_i64 rfl rfl (by omega)) ?_
  refine qm ?_
  refine K.seq_new (K.buildSlice (bs1 _)) rfl ?_
  intro b24
  refine zN ?_
  refine K.seq_call (K.call_g cal_50 (fun F w hF hw => c50_1 hw (hF _ (K.m0)))) rfl ?_
  refine zN ?_
  refine qa ?_
  refine sn ?_
  refine K.cond_false (by exact congrArg Value.bool (decide_eq_false (by omega))) ?_
  refine K.skip ?_
  refine K.norm_block ?_
  refine K.norm_then ?_
  refine sr ?_
  refine qp (K.fieldAddr_lit fo_26_4 rfl) ?_
  refine K.seq_sil (K.load1_own one_24 rfl (K.m2) rfl) rfl ?_
  refine zN ?_
  refine qm ?_
  refine K.seq_ix (M := []) _ hS.sl sl_24 rfl rfl rfl (by omega) rfl ?_
  intro p29 hp29
  refine zN ?_
  refine qp (K.fieldAddr fo_63_2 rfl) ?_
  refine K.seq_sil (K.loadA_p ag_61 rfl ((K.PtrL.fld hp29 (k := 2)).any) rfl) rfl ?_
  refine zN ?_
  refine K.seq_new (K.alloc zr_61) rfl ?_
  intro b8
  refine zN ?_
  refine K.seq_st (K.store_all sz_61 rfl rfl rfl rfl (K.rp0)) rfl ?_
  refine zN ?_
  refine sn ?_
  refine K.seq ?_
  refine K.draw_L [] Tryd_mixed ?_
  refine K.d_pure 0 rfl (K.move) (by kernel_rfl) rfl ?_
  refine zn ?_
  refine K.d_pure 1 rfl (K.move) (by kernel_rfl) rfl ?_
  refine zn ?_
  refine K.d_pure 2 rfl (K.nilCheck rfl) (by kernel_rfl) rfl ?_
  refine zn ?_
  refine K.d_pure 3 rfl (K.fieldAddr_lit fo_101_1 rfl) (by kernel_rfl) rfl ?_
  refine zn ?_
  refine K.d_mem 4 rfl (K.loadA_own ag_98 rfl (K.m2) rfl) (fun _ h => h) (by kernel_rfl) (by kernel_rfl) rfl ?_
  refine zN ?_
  refine K.d_pure 5 rfl (K.move) (by kernel_rfl) rfl ?_
  refine zn ?_
  refine K.d_pure 6 rfl (K.move) (by kernel_rfl) rfl ?_
  refine zn ?_
  refine K.d_pure 8 rfl (K.fieldAddr_lit fo_61_0 rfl) (by kernel_rfl) rfl ?_
  refine zn ?_
  refine K.d_mem 9 rfl (K.load1_own one_3 rfl (K.m0) rfl) (fun _ h => h) (by kernel_rfl) (by kernel_rfl) rfl ?_
  refine zN ?_
  refine K.d_pure 12 rfl (K.move) (by kernel_rfl) rfl ?_
  refine zn ?_
  refine K.d_pure 13 rfl (K.move) (by kernel_rfl) rfl ?_
  refine zn ?_
  refine K.d_pure 14 rfl (K.nilCheck rfl) (by kernel_rfl) rfl ?_
  refine zn ?_
  refine K.d_pure 15 rfl (K.fieldAddr_lit fo_101_1 rfl) (by kernel_rfl) rfl ?_
  refine zn ?_
  refine K.d_mem 16 rfl (K.loadA_own ag_98 rfl (K.m2) rfl) (fun _ h => h) (by kernel_rfl) (by kernel_rfl) rfl ?_
  refine zN ?_
  refine K.d_pure 17 rfl (K.move) (by kernel_rfl) rfl ?_
  refine zn ?_
  refine K.d_pure 18 rfl (K.move) (by kernel_rfl) rfl ?_
  refine zn ?_
  refine K.d_pure 20 rfl (K.fieldAddr_lit fo_61_1 rfl) (by kernel_rfl) rfl ?_
  refine zn ?_
  refine K.d_mem 21 rfl (K.load1_own one_3 rfl (K.m0) rfl) (fun _ h => h) (by kernel_rfl) (by kernel_rfl) rfl ?_
  refine zN ?_
  refine K.d_call 7 rfl (K.call_g cal_64 (fun F w hF hw => c64 (K.PtrL.now hw (hF _ (K.m2))) (hS.pass hw) hs)) (fun _ h => h) (by kernel_rfl) rfl ?_
  refine zN ?_
  refine K.d_call 10 rfl (K.call_g cal_69 (fun F w hF hw => c69 (l := ownS m) (K.PtrL.now hw (hF _ (K.m2))) (K.blk_lt hw (hF _ (K.m2))) (hP.pass hw) g g.lb (by omega) (by omega) (by omega))) (fun _ h => h) (by kernel_rfl) rfl ?_
  refine zN ?_
  refine K.d_loud 11 rfl (K.call_f cal_68 (fun F w hF hw => (by have hh := c68 (hT.pass hw) (s := setN (seesB m (ownS m) (m.ss.getD s default).x (m.ss.getD s default).y (m.ss.getD s default).lo) m.ps.length) (setN_63 g.n); rw [bits_set g.n] at hh; exact hh))) (fun _ h => h) (by kernel_rfl) rfl ?_
  rintro ⟨Q1, q1⟩ hq1
  refine zN ?_
  refine K.d_call 19 rfl (K.call_g cal_64 (fun F w hF hw => c64 (K.PtrL.now hw (hF _ (K.m3))) (hS.pass hw) hs)) (fun _ h => K.tl h) (by kernel_rfl) rfl ?_
  refine zN ?_
  refine K.d_call 22 rfl (K.call_g cal_69 (fun F w hF hw => c69 (l := ownS m) (K.PtrL.now hw (hF _ (K.m3))) (K.blk_lt hw (hF _ (K.m3))) (hP.pass hw) g g.lb (by omega) (by omega) (by omega))) (fun _ h => K.tl h) (by kernel_rfl) rfl ?_
  refine zN ?_
  refine K.d_loud 23 rfl (K.call_f cal_68 (fun F w hF hw => (by have hh := c68 (hT.pass hw) (s := setN (seesB m (ownS m) (m.ss.getD s default).x (m.ss.getD s default).y (m.ss.getD s default).hi) m.ps.length) (setN_63 g.n); rw [bits_set g.n] at hh; exact hh))) (fun _ h => K.tl h) (by kernel_rfl) rfl ?_
  rintro ⟨Q2, q2⟩ hq2
  refine zN ?_
  refine K.d_pure 24 rfl (K.assign) (by kernel_rfl) rfl ?_
  refine zn ?_
  refine K.d_pure 25 rfl (K.assign) (by kernel_rfl) rfl ?_
  refine zn ?_
  refine K.d_pure 26 rfl (K.assign) (by kernel_rfl) rfl ?_
  refine zn ?_
  refine K.d_done (by kernel_rfl) ?_
  refine K.norm_then ?_
  refine K.ret ?_
  refine K.end_ret (fun w _ => K.res_ttt rfl w) ?_
  exact ret2 hq1 hq2 (List.Sublist.cons_cons _ (List.Sublist.cons_cons _ (List.nil_sublist _))) rfl

theorem c21 {m : Mod} {A B C : Option Addr} {c d e : Nat} {s : Int} {w : World} (hH : K.Rd w A 1 K.eI m.hs) (hP : K.Rd w B 5 eN m.ps) (hS : K.Rd w C 4 eS m.ss) (hn : m.hs.length ≤ 4611686018427387904) (hm : m.ps.length ≤ 4611686018427387904) (hk : m.ss.length ≤ 4611686018427387904) (hcd : m.ps.length ≤ d) (hT : Tab w) : Calls Tryd.prog 21 [.agg #[.int .i64 m.W, .int .i64 m.D, .slice A m.hs.length c, .slice B m.ps.length d, .slice C m.ss.length e], .int .i64 s].toArray w (Ret2 (sureL m s) (mayL m s) (seenE m s) w) := by
  by_cases hc : (chk m).2.2 = 0
  · by_cases hs : 0 ≤ s ∧ s ≤ (m.ss.length : Int) - 1
    · obtain ⟨s', rfl⟩ := Int.eq_ofNat_of_zero_le hs.1
      exact g21 hH hP hS hn hm hk hcd hT hc (by omega)
    · exact f21 hH hP hS hn hm hk hcd hc hs
  · exact e21 hH hP hS hn hm hk hcd hc


set_option maxRecDepth 100000 in
theorem g23 {m : Mod} {A B C : Option Addr} {c d e : Nat} {s p : Nat} {w : World} (hH : K.Rd w A 1 K.eI m.hs) (hP : K.Rd w B 5 eN m.ps) (hS : K.Rd w C 4 eS m.ss) (hn : m.hs.length ≤ 4611686018427387904) (hm : m.ps.length ≤ 4611686018427387904) (hk : m.ss.length ≤ 4611686018427387904) (hcd : m.ps.length ≤ d) (hc : (chk m).2.2 = 0) (hs : s < m.ss.length) (hp : p < m.ps.length) :
    Calls Tryd.prog 23 [.agg #[.int .i64 m.W, .int .i64 m.D, .slice A m.hs.length c, .slice B m.ps.length d, .slice C m.ss.length e], .int .i64 (s : Int), .int .i64 (p : Int)].toArray w (K.Gives (.tuple #[.int .i64 (eyeR m s p).1, .int .i64 (eyeR m s p).2]) w) := by
  have g : Good m := chk_good hc
  have ha : asE m s p = 0 := by unfold asE; rw [if_neg (by omega)]
  have hak : askE m s p = 0 := by unfold askE; rw [if_neg (by omega), ha]
  have hst := g.st hs
  have hW : Way m (m.ss.getD s default).x (m.ss.getD s default).y p := ⟨g, hp, by omega, by omega⟩
  have hR : eyeR m s p = if eyeS m (ownS m) (m.ss.getD s default).x (m.ss.getD s default).y p > 2000 then (0, 9) else (eyeS m (ownS m) (m.ss.getD s default).x (m.ss.getD s default).y p, 0) := by unfold eyeR; rw [if_neg (by omega)]; rfl
  refine R.enter (args := [.agg #[.int .i64 m.W, .int .i64 m.D, .slice A m.hs.length c, .slice B m.ps.length d, .slice C m.ss.length e], .int .i64 (s : Int), .int .i64 (p : Int)]) Tryd.func23 rfl (m := 64) rfl ?_
  simp only [List.replicate, List.cons_append, List.nil_append]
  refine R.seq ?_
  refine R.region_lit rfl ?_
  refine K.seq_new (K.box) rfl ?_
  intro b3
  refine zN ?_
  refine K.seq_new (K.box) rfl ?_
  intro b5
  refine zN ?_
  iterate 2 refine qa ?_
  refine K.seq_nil ?_
  refine R.out ?_
  refine R.norm_then ?_
  refine R.seq ?_
  refine R.region_lit rfl ?_
  refine K.seq_sil (K.loadA_own ag_26 rfl (K.m1) rfl) rfl ?_
  refine zN ?_
  refine qm ?_
  refine K.seq_sil (K.load1_own one_3 rfl (K.m0) rfl) rfl ?_
  refine zN ?_
  refine K.seq_loud (K.call_f cal_61 (fun F w hF hw => g61 (hH.pass hw) (hP.pass hw) (hS.pass hw) hn hm hk hcd hc ha)) rfl ?_
  rintro q _
  refine zN ?_
  refine qm ?_
  refine qx ?_
  refine qx ?_
  refine K.seq_new (K.alloc zr_90) rfl ?_
  intro b8
  refine zN ?_
  refine K.seq_st (K.store sz_90 rfl rfl rfl rfl (K.rp0)) rfl ?_
  refine zN ?_
  refine qa ?_
  refine K.seq_nil ?_
  refine R.out ?_
  refine R.norm_then ?_
  refine R.seq ?_
  refine R.seq ?_
  refine R.region_lit rfl ?_
  refine qm ?_
  refine qp (K.neq rfl rfl) ?_
  refine K.seq_nil ?_
  refine R.out ?_
  refine R.norm_then ?_
  refine R.cond_false (by rfl) ?_
  refine R.skip ?_
  refine R.norm_then ?_
  refine R.seq ?_
  refine R.region_lit rfl ?_
  refine K.seq_new (K.alloc zr_3) rfl ?_
  intro b10
  refine zN ?_
  refine K.seq_st (K.store sz_3 rfl rfl rfl rfl (K.rp0)) rfl ?_
  refine zN ?_
  refine K.seq_nil ?_
  refine R.out ?_
  refine R.norm_then ?_
  refine R.seq ?_
  refine R.seq ?_
  refine R.draw_L [] Tryd_mixed rfl ?_
  refine K.d_mem 0 rfl (K.load1_own one_90 rfl (K.m1) rfl) (fun _ h => h) (by kernel_rfl) (by kernel_rfl) rfl ?_
  refine zN ?_
  refine K.d_mem 1 rfl (K.load1_own one_90 rfl (K.m1) rfl) (fun _ h => h) (by kernel_rfl) (by kernel_rfl) rfl ?_
  refine zN ?_
  refine K.d_pure 2 rfl (K.move) (by kernel_rfl) rfl ?_
  refine zn ?_
  refine K.d_mem 4 rfl (K.load1_own one_3 rfl (K.m3) rfl) (fun _ h => h) (by kernel_rfl) (by kernel_rfl) rfl ?_
  refine zN ?_
  refine K.d_call 3 rfl (K.call_g cal_64 (fun F w hF hw => c64 (K.PtrL.now hw (hF _ (K.m2))) (hS.pass hw) hs)) (fun _ h => h) (by kernel_rfl) rfl ?_
  refine zN ?_
  refine K.d_loud 5 rfl (K.call_f cal_72 (fun F w hF hw => c72 w)) (fun _ h => h) (by kernel_rfl) rfl ?_
  rintro ⟨q1, q2, q3⟩ _
  refine zN ?_
  refine K.d_done (by kernel_rfl) ?_
  refine R.out ?_
  refine R.norm_then ?_
  refine R.block ?_
  refine R.rangeC (gf := 100) (first := []) (cap := [.pointer (some ⟨q1, 0, none⟩), .pointer (some ⟨q3, 0, none⟩), .pointer (some ⟨q2, 0, none⟩)]) (enc := (fun s : Int × Int × Int => Value.agg #[.int .i64 s.1, .int .i64 s.2.1, .int .i64 s.2.2])) (XS := stepsS m (m.ss.getD s default).x (m.ss.getD s default).y p) rfl cal_100 [K.blk b10 3 [.int .i64 0], K.blk b8 90 [.pointer (some ⟨q, 0, none⟩)], K.blk b5 3 [.int .i64 (p : Int)], K.blk b3 26 [.int .i64 m.W, .int .i64 m.D, .slice A m.hs.length c, .slice B m.ps.length d, .slice C m.ss.length e]] [K.blk q3 3 [.int .i64 (p : Int)], K.blk q2 80 [.int .i64 (m.ss.getD s default).x, .int .i64 (m.ss.getD s default).y], K.blk q1 90 [.pointer (some ⟨q, 0, none⟩)], K.blk q 101 (mdl m A B C c d e)] (K.st_perm (show List.Perm [K.blk q3 3 [.int .i64 (p : Int)], K.blk q2 80 [.int .i64 (m.ss.getD s default).x, .int .i64 (m.ss.getD s default).y], K.blk q1 90 [.pointer (some ⟨q, 0, none⟩)], K.blk b10 3 [.int .i64 0], K.blk b8 90 [.pointer (some ⟨q, 0, none⟩)], K.blk q 101 (mdl m A B C c d e), K.blk b5 3 [.int .i64 (p : Int)], K.blk b3 26 [.int .i64 m.W, .int .i64 m.D, .slice A m.hs.length c, .slice B m.ps.length d, .slice C m.ss.length e]] ([K.blk b10 3 [.int .i64 0], K.blk b8 90 [.pointer (some ⟨q, 0, none⟩)], K.blk b5 3 [.int .i64 (p : Int)], K.blk b3 26 [.int .i64 m.W, .int .i64 m.D, .slice A m.hs.length c, .slice B m.ps.length d, .slice C m.ss.length e]] ++ [K.blk q3 3 [.int .i64 (p : Int)], K.blk q2 80 [.int .i64 (m.ss.getD s default).x, .int .i64 (m.ss.getD s default).y], K.blk q1 90 [.pointer (some ⟨q, 0, none⟩)], K.blk q 101 (mdl m A B C c d e)]) from (List.Perm.trans (List.perm_middle (l₁ := [_, _, _])) (List.Perm.cons _ (List.Perm.trans (List.perm_middle (l₁ := [_, _, _])) (List.Perm.cons _ (List.Perm.trans (List.perm_middle (l₁ := [_, _, _, _])) (List.Perm.cons _ (List.Perm.trans (List.perm_middle (l₁ := [_, _, _, _])) (List.Perm.cons _ (List.Perm.refl _))))))))))) (R.fixC (R.fixC (R.fixC (R.fixC R.fixN)))) (c100 (c := c) (d := d) (e := e) (A := A) (B := B) (C := C) (b := q) hW) (fun f w hf => ⟨hf.own1 K.m2, hf.own1 K.m0, hf.own1 K.m1, hf.own1 K.m3, hP.pass hf.1⟩) (fun k L => L = [K.blk b10 3 [.int .i64 (eyeK m (ownS m) (m.ss.getD s default).x (m.ss.getD s default).y p k)], K.blk b8 90 [.pointer (some ⟨q, 0, none⟩)], K.blk b5 3 [.int .i64 (p : Int)], K.blk b3 26 [.int .i64 m.W, .int .i64 m.D, .slice A m.hs.length c, .slice B m.ps.length d, .slice C m.ss.length e]]) (fun cX L => False) ?_ ?_ ?_ ?_
  · rfl
  · intro k u L lr E hu hE hJ
    subst hJ
    have hstp := hW.step hu
    have hbd := hide_bd (eye := 0) hW g.lb (by omega) hu
    have hee := eyeE_bd hW g.lb hu
    have hkb := eyeK_bd (k := k) hW g.lb
    have hmo : topS m (ownS m) u.1 * u.2.2 - headS m (ownS m) p * u.2.1 = moreE m (ownS m) p u := rfl
    try dsimp only [List.cons_append, List.nil_append]
    try dsimp only [setd, setn, ev, nth, over, cl, eI, eP, eT, eN, eS, setM, setF, List.map, List.append, List.drop, List.take]
    refine R.region_lit rfl ?_
    refine K.seq_new (K.alloc zr_114) rfl ?_
    intro b11
    refine zN ?_
    refine K.seq_st (K.store_all sz_114 rfl rfl rfl rfl (K.rp0)) rfl ?_
    refine zN ?_
    refine K.seq_nil ?_
    refine R.out ?_
    refine R.norm_then ?_
    refine R.bodyC' rfl (fun E hE => ?_)
    dsimp only [List.dropLast, List.cons_append, List.nil_append]
    have hM := hE _ _ _ (List.Mem.tail _ (List.Mem.tail _ (List.Mem.tail _ (List.Mem.head _))))
    refine zN ?_
    refine R.block ?_
    refine R.seq ?_
    refine R.draw_L [] Tryd_mixed rfl ?_
    refine K.d_mem 0 rfl (K.load1_own one_90 rfl (K.m2) rfl) (fun _ h => h) (by kernel_rfl) (by kernel_rfl) rfl ?_
    refine zN ?_
    refine K.d_mem 1 rfl (K.load1_own one_90 rfl (K.m2) rfl) (fun _ h => h) (by kernel_rfl) (by kernel_rfl) rfl ?_
    refine zN ?_
    refine K.d_pure 2 rfl (K.nilCheck rfl) (by kernel_rfl) rfl ?_
    refine zn ?_
    refine K.d_pure 3 rfl (K.fieldAddr_lit fo_101_1 rfl) (by kernel_rfl) rfl ?_
    refine zn ?_
    refine K.d_mem 4 rfl (K.loadA_p ag_98 rfl (K.PtrL.lit (hM.at1 (K.m5)) (k := 5)) rfl) (fun _ h => h) (by kernel_rfl) (by kernel_rfl) rfl ?_
    refine zN ?_
    refine K.d_pure 5 rfl (K.fieldAddr_lit fo_114_0 rfl) (by kernel_rfl) rfl ?_
    refine zn ?_
    refine K.d_mem 6 rfl (K.load1_own one_3 rfl (K.m0) rfl) (fun _ h => h) (by kernel_rfl) (by kernel_rfl) rfl ?_
    refine zN ?_
    refine K.d_pure 8 rfl (K.fieldAddr_lit fo_114_2 rfl) (by kernel_rfl) rfl ?_
    refine zn ?_
    refine K.d_mem 9 rfl (K.load1_own one_3 rfl (K.m0) rfl) (fun _ h => h) (by kernel_rfl) (by kernel_rfl) rfl ?_
    refine zN ?_
    refine K.d_mem 11 rfl (K.load1_own one_90 rfl (K.m2) rfl) (fun _ h => h) (by kernel_rfl) (by kernel_rfl) rfl ?_
    refine zN ?_
    refine K.d_mem 12 rfl (K.load1_own one_90 rfl (K.m2) rfl) (fun _ h => h) (by kernel_rfl) (by kernel_rfl) rfl ?_
    refine zN ?_
    refine K.d_pure 13 rfl (K.nilCheck rfl) (by kernel_rfl) rfl ?_
    refine zn ?_
    refine K.d_pure 14 rfl (K.fieldAddr_lit fo_101_1 rfl) (by kernel_rfl) rfl ?_
    refine zn ?_
    refine K.d_mem 15 rfl (K.loadA_p ag_98 rfl (K.PtrL.lit (hM.at1 (K.m5)) (k := 5)) rfl) (fun _ h => h) (by kernel_rfl) (by kernel_rfl) rfl ?_
    refine zN ?_
    refine K.d_mem 16 rfl (K.load1_own one_3 rfl (K.m3) rfl) (fun _ h => h) (by kernel_rfl) (by kernel_rfl) rfl ?_
    refine zN ?_
    refine K.d_pure 18 rfl (K.fieldAddr_lit fo_114_1 rfl) (by kernel_rfl) rfl ?_
    refine zn ?_
    refine K.d_mem 19 rfl (K.load1_own one_3 rfl (K.m0) rfl) (fun _ h => h) (by kernel_rfl) (by kernel_rfl) rfl ?_
    refine zN ?_
    refine K.d_call 7 rfl (K.call_g cal_73 (fun F w hF hw => c73 (l := ownS m) (K.PtrL.at_F hM (hF _ (K.m5)) hw (List.cons_ne_nil _ _)) g g.lb (by omega))) (fun _ h => h) (by kernel_rfl) rfl ?_
    refine zN ?_
    refine K.d_pure 10 rfl (K.mul_i64 rfl rfl (by omega)) (by kernel_rfl) rfl ?_
    refine zn ?_
    refine K.d_call 17 rfl (K.call_g cal_74 (fun F w hF hw => c74 (l := ownS m) (K.PtrL.at_F hM (hF _ (K.m5)) hw (List.cons_ne_nil _ _)) (hP.pass hw) g g.lb hp)) (fun _ h => h) (by kernel_rfl) rfl ?_
    refine zN ?_
    refine K.d_pure 20 rfl (K.mul_i64 rfl rfl (by omega)) (by kernel_rfl) rfl ?_
    refine zn ?_
    refine K.d_pure 21 rfl (K.Pure.eq (K.sub_i64 rfl rfl (by omega)) (show _ = Value.int .i64 (moreE m (ownS m) p u) from rfl)) (by kernel_rfl) rfl ?_
    refine zn ?_
    refine K.d_pure 22 rfl (K.assign) (by kernel_rfl) rfl ?_
    refine zn ?_
    refine K.d_done (by kernel_rfl) ?_
    refine R.out ?_
    refine R.norm_then ?_
    refine R.seq ?_
    refine R.region_lit rfl ?_
    refine qm ?_
    refine qp (K.geq rfl rfl) ?_
    refine K.seq_nil ?_
    refine R.out ?_
    refine R.norm_then ?_
    refine R.cond rfl (fun ht53 => ?_) (fun ht53 => ?_)
    · try replace ht53 := of_decide_eq_true ht53
      have hdv := div_bd (a := moreE m (ownS m) p u) (A := 21600) (b := u.2.2 - u.2.1) (by omega) (by omega)
      refine R.draw_L [10] Tryd_mixed rfl ?_
      refine K.d_mem 0 rfl (K.load1_own one_3 rfl (K.m1) rfl) (fun _ h => h) (by kernel_rfl) (by kernel_rfl) rfl ?_
      refine zN ?_
      refine K.d_pure 1 rfl (K.move) (by kernel_rfl) rfl ?_
      refine zn ?_
      refine K.d_pure 2 rfl (K.fieldAddr_lit fo_114_2 rfl) (by kernel_rfl) rfl ?_
      refine zn ?_
      refine K.d_mem 3 rfl (K.load1_own one_3 rfl (K.m0) rfl) (fun _ h => h) (by kernel_rfl) (by kernel_rfl) rfl ?_
      refine zN ?_
      refine K.d_pure 4 rfl (K.fieldAddr_lit fo_114_1 rfl) (by kernel_rfl) rfl ?_
      refine zn ?_
      refine K.d_mem 5 rfl (K.load1_own one_3 rfl (K.m0) rfl) (fun _ h => h) (by kernel_rfl) (by kernel_rfl) rfl ?_
      refine zN ?_
      refine K.d_pure 6 rfl (K.sub_i64 rfl rfl (by omega)) (by kernel_rfl) rfl ?_
      refine zn ?_
      refine K.d_pure 7 rfl (K.quo_i64 rfl rfl (by omega) (by omega) (by omega)) (by kernel_rfl) rfl ?_
      refine zn ?_
      refine K.d_pure 8 rfl (K.add_i64 rfl rfl (by omega)) (by kernel_rfl) rfl ?_
      refine zn ?_
      refine K.d_pure 9 rfl (K.max_int rfl rfl) (by kernel_rfl) rfl ?_
      refine zn ?_
      refine K.d_last 10 rfl (K.store sz_3 rfl rfl rfl rfl (K.rp1)) rfl (by kernel_rfl) rfl ?_
      intro _ _
      refine zN ?_
      refine K.d_done (by kernel_rfl) ?_
      refine R.out ?_
      refine R.norm_block ?_
      have e1 : (eyeK m (ownS m) (m.ss.getD s default).x (m.ss.getD s default).y p (k + 1)) = max (eyeK m (ownS m) (m.ss.getD s default).x (m.ss.getD s default).y p k) (moreE m (ownS m) p u / (u.2.2 - u.2.1) + 1) := by rw [eye_next hu, eyeE, if_pos ht53]
      exact R.rp_normal (L := [K.blk b10 3 [.int .i64 (max (eyeK m (ownS m) (m.ss.getD s default).x (m.ss.getD s default).y p k) (moreE m (ownS m) p u / (u.2.2 - u.2.1) + 1))], K.blk b8 90 [.pointer (some ⟨q, 0, none⟩)], K.blk b5 3 [.int .i64 (p : Int)], K.blk b3 26 [.int .i64 m.W, .int .i64 m.D, .slice A m.hs.length c, .slice B m.ps.length d, .slice C m.ss.length e]]) (by rw [e1]) (by repeat (first | exact List.Sublist.refl _ | apply List.Sublist.cons))
    try replace ht53 := of_decide_eq_false ht53
    refine R.skip ?_
    refine R.norm_block ?_
    have e1 : (eyeK m (ownS m) (m.ss.getD s default).x (m.ss.getD s default).y p (k + 1)) = (eyeK m (ownS m) (m.ss.getD s default).x (m.ss.getD s default).y p k) := by rw [eye_next hu, eyeE, if_neg ht53]; omega
    exact R.rp_normal (L := [K.blk b10 3 [.int .i64 (eyeK m (ownS m) (m.ss.getD s default).x (m.ss.getD s default).y p k)], K.blk b8 90 [.pointer (some ⟨q, 0, none⟩)], K.blk b5 3 [.int .i64 (p : Int)], K.blk b3 26 [.int .i64 m.W, .int .i64 m.D, .slice A m.hs.length c, .slice B m.ps.length d, .slice C m.ss.length e]]) (by rw [e1]) (by repeat (first | exact List.Sublist.refl _ | apply List.Sublist.cons))
  · intro bD L hJ
    subst hJ
    rw [eye_all]
    try dsimp only [List.cons_append, List.nil_append]
    try dsimp only [setd, setn, ev, nth, over, cl, eI, eP, eT, eN, eS, setM, setF, List.map, List.append, List.drop, List.take]
    refine R.norm_block ?_
    refine R.norm_then ?_
    refine R.seq ?_
    refine R.seq ?_
    refine R.region_lit rfl ?_
    refine K.seq_sil (K.load1_own one_3 rfl (K.m0) rfl) rfl ?_
    refine zN ?_
    refine qp (K.gtr rfl rfl) ?_
    refine K.seq_nil ?_
    refine R.out ?_
    refine R.norm_then ?_
    refine R.cond rfl (fun ht65 => ?_) (fun ht65 => ?_)
    · try replace ht65 := of_decide_eq_true ht65
      refine R.seq ?_
      refine R.region_lit rfl ?_
      iterate 2 refine qa ?_
      refine K.seq_nil ?_
      refine R.out ?_
      refine R.norm_then ?_
      refine R.ret ?_
      refine R.ret_then ?_
      refine R.end_ret1 rfl (by dsimp only [List.dropLast]; exact (fun w _ => K.res_tmp2 rfl w)) ?_
      dsimp only [List.dropLast]
      exact K.gives (by rw [hR, if_pos ht65]; rfl)
    try replace ht65 := of_decide_eq_false ht65
    refine R.skip ?_
    refine R.norm_then ?_
    refine R.seq ?_
    refine R.region_lit rfl ?_
    refine K.seq_sil (K.load1_own one_3 rfl (K.m0) rfl) rfl ?_
    refine zN ?_
    iterate 2 refine qa ?_
    refine K.seq_nil ?_
    refine R.out ?_
    refine R.norm_then ?_
    refine R.ret ?_
    refine R.end_ret1 rfl (by dsimp only [List.dropLast]; exact (fun w _ => K.res_tmp2 rfl w)) ?_
    dsimp only [List.dropLast]
    exact K.gives (by rw [hR, if_neg ht65]; rfl)
  · intro bD cX L hJ
    exact hJ.elim
    skip

set_option maxRecDepth 100000 in
theorem e23 {m : Mod} {A B C : Option Addr} {c d e : Nat} {s p : Int} {w : World} (hH : K.Rd w A 1 K.eI m.hs) (hP : K.Rd w B 5 eN m.ps) (hS : K.Rd w C 4 eS m.ss) (hn : m.hs.length ≤ 4611686018427387904) (hm : m.ps.length ≤ 4611686018427387904) (hk : m.ss.length ≤ 4611686018427387904) (hcd : m.ps.length ≤ d) (hc : (chk m).2.2 ≠ 0) :
    Calls Tryd.prog 23 [.agg #[.int .i64 m.W, .int .i64 m.D, .slice A m.hs.length c, .slice B m.ps.length d, .slice C m.ss.length e], .int .i64 s, .int .i64 p].toArray w (K.Gives (.tuple #[.int .i64 (eyeR m s p).1, .int .i64 (eyeR m s p).2]) w) := by
  refine R.enter (args := [.agg #[.int .i64 m.W, .int .i64 m.D, .slice A m.hs.length c, .slice B m.ps.length d, .slice C m.ss.length e], .int .i64 s, .int .i64 p]) Tryd.func23 rfl (m := 64) rfl ?_
  simp only [List.replicate, List.cons_append, List.nil_append]
  refine R.seq ?_
  refine R.region_lit rfl ?_
  refine K.seq_new (K.box) rfl ?_
  intro b3
  refine zN ?_
  refine K.seq_new (K.box) rfl ?_
  intro b5
  refine zN ?_
  iterate 2 refine qa ?_
  refine K.seq_nil ?_
  refine R.out ?_
  refine R.norm_then ?_
  refine R.seq ?_
  refine R.region_lit rfl ?_
  refine K.seq_sil (K.loadA_own ag_26 rfl (K.m1) rfl) rfl ?_
  refine zN ?_
  refine qm ?_
  refine K.seq_sil (K.load1_own one_3 rfl (K.m0) rfl) rfl ?_
  refine zN ?_
  refine K.seq_call (K.call_g cal_61 (fun F w hF hw => e61 (hH.pass hw) (hP.pass hw) (hS.pass hw) hn hm hk hcd hc)) rfl ?_
  refine zN ?_
  refine qm ?_
  refine qx ?_
  refine qx ?_
  refine K.seq_new (K.alloc zr_90) rfl ?_
  intro b8
  refine zN ?_
  refine K.seq_st (K.store sz_90 rfl rfl rfl rfl (K.rp0)) rfl ?_
  refine zN ?_
  refine qa ?_
  refine K.seq_nil ?_
  refine R.out ?_
  refine R.norm_then ?_
  refine R.seq ?_
  refine R.seq ?_
  refine R.region_lit rfl ?_
  refine qm ?_
  refine qp (K.neq rfl rfl) ?_
  refine K.seq_nil ?_
  refine R.out ?_
  refine R.norm_then ?_
  refine R.cond_true (by exact congrArg Value.bool (decide_eq_true hc)) ?_
  refine R.seq ?_
  refine R.region_lit rfl ?_
  refine qm ?_
  iterate 2 refine qa ?_
  refine K.seq_nil ?_
  refine R.out ?_
  refine R.norm_then ?_
  refine R.ret ?_
  refine R.ret_then ?_
  refine R.end_ret (fun w _ => K.res_tmp2 rfl w) ?_
  have ha : askE m s p = (chk m).2.2 := by unfold askE; rw [if_pos hc]
  exact K.gives (by unfold eyeR; rw [if_pos (by omega), ha]; rfl)

set_option maxRecDepth 100000 in
theorem f23 {m : Mod} {A B C : Option Addr} {c d e : Nat} {s p : Int} {w : World} (hH : K.Rd w A 1 K.eI m.hs) (hP : K.Rd w B 5 eN m.ps) (hS : K.Rd w C 4 eS m.ss) (hn : m.hs.length ≤ 4611686018427387904) (hm : m.ps.length ≤ 4611686018427387904) (hk : m.ss.length ≤ 4611686018427387904) (hcd : m.ps.length ≤ d) (hc : (chk m).2.2 = 0) (ha : asE m s p ≠ 0) :
    Calls Tryd.prog 23 [.agg #[.int .i64 m.W, .int .i64 m.D, .slice A m.hs.length c, .slice B m.ps.length d, .slice C m.ss.length e], .int .i64 s, .int .i64 p].toArray w (K.Gives (.tuple #[.int .i64 (eyeR m s p).1, .int .i64 (eyeR m s p).2]) w) := by
  refine R.enter (args := [.agg #[.int .i64 m.W, .int .i64 m.D, .slice A m.hs.length c, .slice B m.ps.length d, .slice C m.ss.length e], .int .i64 s, .int .i64 p]) Tryd.func23 rfl (m := 64) rfl ?_
  simp only [List.replicate, List.cons_append, List.nil_append]
  refine R.seq ?_
  refine R.region_lit rfl ?_
  refine K.seq_new (K.box) rfl ?_
  intro b3
  refine zN ?_
  refine K.seq_new (K.box) rfl ?_
  intro b5
  refine zN ?_
  iterate 2 refine qa ?_
  refine K.seq_nil ?_
  refine R.out ?_
  refine R.norm_then ?_
  refine R.seq ?_
  refine R.region_lit rfl ?_
  refine K.seq_sil (K.loadA_own ag_26 rfl (K.m1) rfl) rfl ?_
  refine zN ?_
  refine qm ?_
  refine K.seq_sil (K.load1_own one_3 rfl (K.m0) rfl) rfl ?_
  refine zN ?_
  refine K.seq_call (K.call_g cal_61 (fun F w hF hw => f61 (hH.pass hw) (hP.pass hw) (hS.pass hw) hn hm hk hcd hc ha)) rfl ?_
  refine zN ?_
  refine qm ?_
  refine qx ?_
  refine qx ?_
  refine K.seq_new (K.alloc zr_90) rfl ?_
  intro b8
  refine zN ?_
  refine K.seq_st (K.store sz_90 rfl rfl rfl rfl (K.rp0)) rfl ?_
  refine zN ?_
  refine qa ?_
  refine K.seq_nil ?_
  refine R.out ?_
  refine R.norm_then ?_
  refine R.seq ?_
  refine R.seq ?_
  refine R.region_lit rfl ?_
  refine qm ?_
  refine qp (K.neq rfl rfl) ?_
  refine K.seq_nil ?_
  refine R.out ?_
  refine R.norm_then ?_
  refine R.cond_true (by rfl) ?_
  refine R.seq ?_
  refine R.region_lit rfl ?_
  refine qm ?_
  iterate 2 refine qa ?_
  refine K.seq_nil ?_
  refine R.out ?_
  refine R.norm_then ?_
  refine R.ret ?_
  refine R.ret_then ?_
  refine R.end_ret (fun w _ => K.res_tmp2 rfl w) ?_
  have hak : askE m s p = 4 := by unfold askE; rw [if_neg (by omega)]; unfold asE at *; split <;> simp_all
  exact K.gives (by unfold eyeR; rw [if_pos (by omega), hak]; rfl)

theorem c23 {m : Mod} {A B C : Option Addr} {c d e : Nat} {s p : Int} {w : World} (hH : K.Rd w A 1 K.eI m.hs) (hP : K.Rd w B 5 eN m.ps) (hS : K.Rd w C 4 eS m.ss) (hn : m.hs.length ≤ 4611686018427387904) (hm : m.ps.length ≤ 4611686018427387904) (hk : m.ss.length ≤ 4611686018427387904) (hcd : m.ps.length ≤ d) : Calls Tryd.prog 23 [.agg #[.int .i64 m.W, .int .i64 m.D, .slice A m.hs.length c, .slice B m.ps.length d, .slice C m.ss.length e], .int .i64 s, .int .i64 p].toArray w (K.Gives (.tuple #[.int .i64 (eyeR m s p).1, .int .i64 (eyeR m s p).2]) w) := by
  by_cases hc : (chk m).2.2 = 0
  · by_cases ha : asE m s p = 0
    · have hb : (0 ≤ s ∧ s ≤ (m.ss.length : Int) - 1) ∧ (0 ≤ p ∧ p ≤ (m.ps.length : Int) - 1) := by
        unfold asE at ha; split at ha
        · cases ha
        · rename_i h; exact Decidable.not_not.1 h
      obtain ⟨s', rfl⟩ := Int.eq_ofNat_of_zero_le hb.1.1
      obtain ⟨p', rfl⟩ := Int.eq_ofNat_of_zero_le hb.2.1
      exact g23 hH hP hS hn hm hk hcd hc (by omega) (by omega)
    · exact f23 hH hP hS hn hm hk hcd hc ha
  · exact e23 hH hP hS hn hm hk hcd hc


end Go.Proofs.YthkgnhcknkjgdaaDoor
