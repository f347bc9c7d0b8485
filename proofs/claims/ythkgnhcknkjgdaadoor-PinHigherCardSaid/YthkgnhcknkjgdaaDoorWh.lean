/-
  Walks of the program's functions, printed by program: what each returns.
  Conditions stand in each theorem.
-/
import Derived.WalkArith
import Derived.Laws.Closers25b
import Derived.Test.YthkgnhcknkjgdaaDoorK8
import Derived.Test.YthkgnhcknkjgdaaDoorWg
set_option linter.unusedSimpArgs false
set_option linter.unusedVariables false
namespace Go.Proofs.YthkgnhcknkjgdaaDoor
open Go.RowKit Go
open Go.K (setd setn ev nth over cl eI eP eT setM setF)
attribute [local irreducible] K.blk K.row
theorem bl114 (a b c : Int) : K.Bl Tryd.prog 114 [(0, .int .i64 a), (1, .int .i64 b), (2, .int .i64 c)] (.agg #[.int .i64 a, .int .i64 b, .int .i64 c]) := fun w => by kernel_rfl
theorem c101g {m : Mod} {x y : Int} {i : Nat} (w : World) (ha : -1000 ≤ (m.ps.getD i default).x - x ∧ (m.ps.getD i default).x - x ≤ 1000) (hb : -1000 ≤ (m.ps.getD i default).y - y ∧ (m.ps.getD i default).y - y ≤ 1000) : Calls Tryd.prog 101 [.int .i64 ((m.ps.getD i default).x - x), .int .i64 ((m.ps.getD i default).y - y)].toArray w (K.Gives (.int .i64 (gS m x y i)) w) := c101 w ha hb
theorem c97g {m : Mod} {x y : Int} {i : Nat} (w : World) (ha : -1000 ≤ (m.ps.getD i default).x - x ∧ (m.ps.getD i default).x - x ≤ 1000) (hb : -1000 ≤ (m.ps.getD i default).y - y ∧ (m.ps.getD i default).y - y ≤ 1000) : Calls Tryd.prog 97 [.int .i64 ((m.ps.getD i default).x - x), .int .i64 ((m.ps.getD i default).y - y)].toArray w (K.Gives (.int .i64 (gS m x y i)) w) := c97 w ha hb

set_option maxRecDepth 100000 in
set_option maxHeartbeats 1000000 in
theorem c100 {m : Mod} {A B C : Option Addr} {c d e b i : Nat} {x y : Int} {p1 p2 p3 : Addr} (hW : Way m x y i) :
    R.IterC Tryd.prog 100 [] [.pointer (some p1), .pointer (some p2), .pointer (some p3)] (fun f w => R.Own1 f w p1 [.pointer (some ⟨b, 0, none⟩)] ∧ R.Own1 f w p2 [.int .i64 (i : Int)] ∧ R.Own1 f w p3 [.int .i64 x, .int .i64 y] ∧ R.Own1 f w ⟨b, 0, none⟩ (mdl m A B C c d e) ∧ K.Rd w B 5 eN m.ps) (fun s : Int × Int × Int => Value.agg #[.int .i64 s.1, .int .i64 s.2.1, .int .i64 s.2.2]) (stepsS m x y i) := by
  intro lr B0 J Jx f w hB hJa hJxa hf hR hJ0 hpre
  obtain ⟨h1, h2, h3, h4, hP⟩ := hpre
  have hM := h4.ptr
  have hi := hW.i
  refine R.enter (args := [.func (.yield lr) #[] #[], .pointer (some p1), .pointer (some p2), .pointer (some p3)]) Tryd.func100 rfl (m := 79) rfl ?_
  simp only [List.replicate, List.cons_append, List.nil_append]
  refine R.seq ?_
  refine R.draw_L [9] Tryd_mixed rfl ?_
  refine K.d_mem 0 rfl (K.load1 one_90 rfl (h1.ptr.any)) (fun _ h => h) (by kernel_rfl) (by kernel_rfl) rfl ?_
  refine zN ?_
  refine K.d_pure 1 rfl (K.nilCheck rfl) (by kernel_rfl) rfl ?_
  refine zn ?_
  refine K.d_pure 2 rfl (K.fieldAddr_lit fo_101_0 rfl) (by kernel_rfl) rfl ?_
  refine zn ?_
  refine K.d_pure 3 rfl (K.fieldAddr_lit fo_26_3 rfl) (by kernel_rfl) rfl ?_
  refine zn ?_
  refine K.d_mem 4 rfl (K.load_at one_23 rfl (hM.any) rfl) (fun _ h => h) (by kernel_rfl) (by kernel_rfl) rfl ?_
  refine zN ?_
  refine K.d_mem 5 rfl (K.load1 one_3 rfl (h2.ptr.any)) (fun _ h => h) (by kernel_rfl) (by kernel_rfl) rfl ?_
  refine zN ?_
  refine K.d_ix (M := []) 6 _ rfl hP.sl sl_23 rfl rfl rfl (by omega) (by kernel_rfl) rfl ?_
  intro p15 hp15
  refine zN ?_
  refine K.d_mem 7 rfl (K.loadA_p ag_54 rfl (hp15.any) rfl) (fun _ h => h) (by kernel_rfl) (by kernel_rfl) rfl ?_
  refine zN ?_
  refine K.d_new 8 rfl (K.alloc zr_54) (fun _ h => h) (by kernel_rfl) rfl ?_
  intro b5
  refine zN ?_
  refine K.d_last 9 rfl (K.store_all sz_54 rfl rfl rfl rfl (K.rp0)) rfl (by kernel_rfl) rfl ?_
  intro _ _
  refine zN ?_
  refine K.d_done (by kernel_rfl) ?_
  refine R.out ?_
  refine R.norm_then ?_
  refine R.seq ?_
  have hp := hW.p
  have hgb := hW.gb
  have hx0 := hW.x
  have hy0 := hW.y
  refine R.region_lit rfl ?_
  refine qp (K.fieldAddr_lit fo_54_1 rfl) ?_
  refine K.seq_sil (K.load1_own one_3 rfl (K.m0) rfl) rfl ?_
  refine zN ?_
  refine qp (K.fieldAddr fo_80_0 rfl) ?_
  refine K.seq_sil (K.load1 one_3 rfl ((K.PtrL.fld h3.ptr (k := 0)).any)) rfl ?_
  refine zN ?_
  refine qp (K.sub_i64 rfl rfl (by omega)) ?_
  refine qp (K.fieldAddr_lit fo_54_2 rfl) ?_
  refine K.seq_sil (K.load1_own one_3 rfl (K.m0) rfl) rfl ?_
  refine zN ?_
  refine qp (K.fieldAddr fo_80_1 rfl) ?_
  refine K.seq_sil (K.load1 one_3 rfl ((K.PtrL.fld h3.ptr (k := 1)).any)) rfl ?_
  refine zN ?_
  refine qp (K.sub_i64 rfl rfl (by omega)) ?_
  refine K.seq_call (K.call_g cal_101 (fun F w hF hw => c101g w (by omega) (by omega))) rfl ?_
  refine zN ?_
  refine qa ?_
  refine K.seq_nil ?_
  refine R.out ?_
  refine R.norm_then ?_
  refine R.seq ?_
  refine R.region_lit rfl ?_
  refine qa ?_
  refine K.seq_nil ?_
  refine R.out ?_
  refine R.norm_then ?_
  refine R.block ?_
  refine R.loopY [7] [8, 28, 29, 30, 31, 32, 33, 34, 35, 36, 37, 38, 39, 40, 41, 42, 43, 44, 45, 46, 47, 48, 49, 50, 51, 52, 53, 54, 55, 56, 57, 58, 59, 60, 61, 62, 63, 64, 65, 66, 67, 68, 69, 70, 71, 72, 73, 74, 75, 76, 77, 78, 79, 80, 81, 82] (fun vi W => ∃ (k : Nat) (f1 : Nat → Prop), vi = [.int .i64 ((k : Int) + 1)] ∧ (k : Int) ≤ (gS m x y i) ∧ (k = 0 ∨ (k : Int) + 1 ≤ (gS m x y i)) ∧ J (stK m x y i k).length f1 W ∧ (∀ i, f1 i → i < W.heap.size) ∧ B0 ≤ b5 ∧ R.Own1 f1 W p1 [.pointer (some ⟨b, 0, none⟩)] ∧ R.Own1 f1 W p3 [.int .i64 x, .int .i64 y] ∧ R.Own1 f1 W ⟨b, 0, none⟩ (mdl m A B C c d e) ∧ R.Own1 f1 W ⟨b5, 0, none⟩ [.string (m.ps.getD i default).nm, .int .i64 (m.ps.getD i default).x, .int .i64 (m.ps.getD i default).y, .int .i64 (m.ps.getD i default).len, .int .i64 (m.ps.getD i default).most]) (fun vi => 30 - (intOf (K.nth vi 0)).toNat) ?_ ?_
  · intro w1 hw1
    exact ⟨0, f, rfl, hgb.1, .inl rfl, hJa.below hJ0 hf hB hw1.1, fun i hi => Nat.lt_of_lt_of_le (hf i hi) hw1.1.size, Nat.le_trans hB (K.blk_own hw1 K.m0), h1.keep (R.Keep.below hw1.1), h3.keep (R.Keep.below hw1.1), h4.keep (R.Keep.below hw1.1), R.Own1.blk hw1 K.m0 hf⟩
  intro vi vr W hJ
  obtain ⟨k, f1, rfl, hkg, hk1, hJ1, hfb, hB5, h1, h3, hMo, h5⟩ := hJ
  have hB1 : B0 ≤ W.heap.size := Nat.le_of_lt (Nat.lt_of_le_of_lt hB5 h5.1)
  have hM := hMo.ptr
  have hgb := hW.gb
  try dsimp only [setd, setn, ev, nth, over, cl, eI, eP, eT, eN, eS, setM, setF, List.map, List.append, List.drop, List.take]
  refine R.seq ?_
  refine R.seq ?_
  refine R.region_lit rfl ?_
  iterate 2 refine qm ?_
  refine qp (K.lss rfl rfl) ?_
  refine K.seq_nil ?_
  refine R.out ?_
  refine R.norm_then ?_
  refine R.cond rfl (fun ht30 => ?_) (fun ht30 => ?_)
  · try replace ht30 := of_decide_eq_true ht30
    have ha := hW.at (k := k) (by omega)
    have hdx := dv_bd (gS_x (m := m) (x := x) (y := y) (i := i)) (by omega) (by omega)
    have hdy := dv_bd (gS_y (m := m) (x := x) (y := y) (i := i)) (by omega) (by omega)
    refine R.skip ?_
    refine R.norm_then ?_
    refine R.seq ?_
    refine R.block ?_
    refine R.seq ?_
    refine R.draw_L [26] Tryd_mixed rfl ?_
    refine K.d_pure 0 rfl (K.fieldAddr fo_80_0 rfl) (by kernel_rfl) rfl ?_
    refine zn ?_
    refine K.d_mem 1 rfl (K.load1 one_3 rfl ((K.PtrL.fld h3.ptr (k := 0)).any)) (fun _ h => h) (by kernel_rfl) (by kernel_rfl) rfl ?_
    refine zN ?_
    refine K.d_pure 2 rfl (K.fieldAddr_lit fo_54_1 rfl) (by kernel_rfl) rfl ?_
    refine zn ?_
    refine K.d_mem 3 rfl (K.load_at one_3 rfl (h5.ptr.any) rfl) (fun _ h => h) (by kernel_rfl) (by kernel_rfl) rfl ?_
    refine zN ?_
    refine K.d_pure 4 rfl (K.fieldAddr fo_80_0 rfl) (by kernel_rfl) rfl ?_
    refine zn ?_
    refine K.d_mem 5 rfl (K.load1 one_3 rfl ((K.PtrL.fld h3.ptr (k := 0)).any)) (fun _ h => h) (by kernel_rfl) (by kernel_rfl) rfl ?_
    refine zN ?_
    refine K.d_pure 6 rfl (K.sub_i64 rfl rfl (by omega)) (by kernel_rfl) rfl ?_
    refine zn ?_
    refine K.d_pure 7 rfl (K.move) (by kernel_rfl) rfl ?_
    refine zn ?_
    refine K.d_pure 8 rfl (K.Pure.eq (K.quo_t rfl rfl (by omega) (by omega)) (show _ = Value.int .i64 (((m.ps.getD i default).x - x) / (gS m x y i)) from by rw [way_quo gS_x])) (by kernel_rfl) rfl ?_
    refine zn ?_
    refine K.d_pure 9 rfl (K.move) (by kernel_rfl) rfl ?_
    refine zn ?_
    refine K.d_pure 10 rfl (K.mul_i64 rfl rfl (by omega)) (by kernel_rfl) rfl ?_
    refine zn ?_
    refine K.d_pure 11 rfl (K.add_i64 rfl rfl (by omega)) (by kernel_rfl) rfl ?_
    refine zn ?_
    refine K.d_pure 12 rfl (K.fieldAddr fo_80_1 rfl) (by kernel_rfl) rfl ?_
    refine zn ?_
    refine K.d_mem 13 rfl (K.load1 one_3 rfl ((K.PtrL.fld h3.ptr (k := 1)).any)) (fun _ h => h) (by kernel_rfl) (by kernel_rfl) rfl ?_
    refine zN ?_
    refine K.d_pure 14 rfl (K.fieldAddr_lit fo_54_2 rfl) (by kernel_rfl) rfl ?_
    refine zn ?_
    refine K.d_mem 15 rfl (K.load_at one_3 rfl (h5.ptr.any) rfl) (fun _ h => h) (by kernel_rfl) (by kernel_rfl) rfl ?_
    refine zN ?_
    refine K.d_pure 16 rfl (K.fieldAddr fo_80_1 rfl) (by kernel_rfl) rfl ?_
    refine zn ?_
    refine K.d_mem 17 rfl (K.load1 one_3 rfl ((K.PtrL.fld h3.ptr (k := 1)).any)) (fun _ h => h) (by kernel_rfl) (by kernel_rfl) rfl ?_
    refine zN ?_
    refine K.d_pure 18 rfl (K.sub_i64 rfl rfl (by omega)) (by kernel_rfl) rfl ?_
    refine zn ?_
    refine K.d_pure 19 rfl (K.move) (by kernel_rfl) rfl ?_
    refine zn ?_
    refine K.d_pure 20 rfl (K.Pure.eq (K.quo_t rfl rfl (by omega) (by omega)) (show _ = Value.int .i64 (((m.ps.getD i default).y - y) / (gS m x y i)) from by rw [way_quo gS_y])) (by kernel_rfl) rfl ?_
    refine zn ?_
    refine K.d_pure 21 rfl (K.move) (by kernel_rfl) rfl ?_
    refine zn ?_
    refine K.d_pure 22 rfl (K.mul_i64 rfl rfl (by omega)) (by kernel_rfl) rfl ?_
    refine zn ?_
    refine K.d_pure 23 rfl (K.add_i64 rfl rfl (by omega)) (by kernel_rfl) rfl ?_
    refine zn ?_
    refine K.d_pure 24 rfl (K.build (bl80 _ _)) (by kernel_rfl) rfl ?_
    refine zN ?_
    refine K.d_new 25 rfl (K.alloc zr_80) (fun _ h => h) (by kernel_rfl) rfl ?_
    intro b8
    refine zN ?_
    refine K.d_last 26 rfl (K.store_all sz_80 rfl rfl rfl rfl (K.rp0)) rfl (by kernel_rfl) rfl ?_
    intro _ _
    refine zN ?_
    refine K.d_done (by kernel_rfl) ?_
    refine R.out ?_
    refine R.norm_then ?_
    refine R.seq ?_
    refine R.zdraw 22 Tryd_mixed rfl ?_
    refine R.z_mem 0 [0, 1, 2, 3, 5, 6, 7, 8, 9, 10, 11, 12, 13, 14, 15, 16, 17, 18, 19, 20, 21, 22, 23, 24] rfl (K.load1 one_90 rfl (h1.ptr.any)) (fun _ h => h) (by kernel_rfl) (by kernel_rfl) rfl ?_
    refine zN ?_
    refine R.z_pure 1 [1, 2, 3, 5, 6, 7, 8, 9, 10, 11, 12, 13, 14, 15, 16, 17, 18, 19, 20, 21, 22, 23, 24] rfl (K.nilCheck rfl) (fun _ h => h) (by kernel_rfl) (by kernel_rfl) rfl ?_
    refine zn ?_
    refine R.z_pure 2 [2, 3, 5, 6, 7, 8, 9, 10, 11, 12, 13, 14, 15, 16, 17, 18, 19, 20, 21, 22, 23, 24] rfl (K.fieldAddr_lit fo_101_0 rfl) (fun _ h => h) (by kernel_rfl) (by kernel_rfl) rfl ?_
    refine zn ?_
    refine R.z_mem 3 [3, 5, 6, 7, 8, 9, 10, 11, 12, 13, 14, 15, 16, 17, 18, 19, 20, 21, 22, 23, 24] rfl (K.loadA_p ag_26 rfl (K.PtrL.lit (hM.any) (k := 0)) rfl) (fun _ h => h) (by kernel_rfl) (by kernel_rfl) rfl ?_
    refine zN ?_
    refine R.z_mem 4 [4, 5, 6, 7, 8, 9, 10, 11, 12, 13, 14, 15, 16, 17, 18, 19, 20, 21, 22, 23, 24] rfl (K.loadA_own ag_80 rfl (K.m0) rfl) (fun _ h => h) (by kernel_rfl) (by kernel_rfl) rfl ?_
    refine zN ?_
    refine R.z_call 5 rfl rfl (K.call_g cal_56 (fun F w hF hw => c56 hW.g.w hW.g.d)) (fun _ h => h) (by kernel_rfl) rfl ?_
    refine zN ?_
    refine R.z_pure 6 [6, 7, 8, 9, 10, 11, 12, 13, 14, 15, 16, 17, 18, 19, 20, 21, 22, 23, 24] rfl (K.move) (fun _ h => h) (by kernel_rfl) (by kernel_rfl) rfl ?_
    refine zn ?_
    refine R.zsplit 64 rfl (fun hg64 => ?_) (fun hg64 => ?_)
    · try replace hg64 := of_decide_eq_true hg64
      have hss := st1_some (m := m) (x := x) (y := y) (i := i) (k := k) hg64
      have hfd := fld_bd hW.g.w hW.g.d hg64
      refine R.z_pure 7 [7, 22, 23, 24] rfl (K.move) (fun _ h => h) (by kernel_rfl) (by kernel_rfl) rfl ?_
      refine zn ?_
      refine R.z_pure 8 [8, 9, 15, 18, 21, 22, 23, 24] rfl (K.fieldAddr_lit fo_80_1 rfl) (fun _ h => h) (by kernel_rfl) (by kernel_rfl) rfl ?_
      refine zn ?_
      refine R.z_mem 9 [9, 15, 18, 21, 22, 23, 24] rfl (K.load1_own one_3 rfl (K.m0) rfl) (fun _ h => h) (by kernel_rfl) (by kernel_rfl) rfl ?_
      refine zN ?_
      refine R.z_mem 10 [10, 11, 12, 13, 14, 15, 18, 21, 22, 23, 24] rfl (K.load1 one_90 rfl (h1.ptr.any)) (fun _ h => h) (by kernel_rfl) (by kernel_rfl) rfl ?_
      refine zN ?_
      refine R.z_pure 11 [11, 12, 13, 14, 15, 18, 21, 22, 23, 24] rfl (K.nilCheck rfl) (fun _ h => h) (by kernel_rfl) (by kernel_rfl) rfl ?_
      refine zn ?_
      refine R.z_pure 12 [12, 13, 14, 15, 18, 21, 22, 23, 24] rfl (K.fieldAddr_lit fo_101_0 rfl) (fun _ h => h) (by kernel_rfl) (by kernel_rfl) rfl ?_
      refine zn ?_
      refine R.z_pure 13 [13, 14, 15, 18, 21, 22, 23, 24] rfl (K.fieldAddr_lit fo_26_0 rfl) (fun _ h => h) (by kernel_rfl) (by kernel_rfl) rfl ?_
      refine zn ?_
      refine R.z_mem 14 [14, 15, 18, 21, 22, 23, 24] rfl (K.load_at one_3 rfl (hM.any) rfl) (fun _ h => h) (by kernel_rfl) (by kernel_rfl) rfl ?_
      refine zN ?_
      refine R.z_pure 15 [15, 18, 21, 22, 23, 24] rfl (K.mul_i64 rfl rfl (by omega)) (fun _ h => h) (by kernel_rfl) (by kernel_rfl) rfl ?_
      refine zn ?_
      refine R.z_pure 16 [16, 17, 18, 21, 22, 23, 24] rfl (K.fieldAddr_lit fo_80_0 rfl) (fun _ h => h) (by kernel_rfl) (by kernel_rfl) rfl ?_
      refine zn ?_
      refine R.z_mem 17 [17, 18, 21, 22, 23, 24] rfl (K.load1_own one_3 rfl (K.m0) rfl) (fun _ h => h) (by kernel_rfl) (by kernel_rfl) rfl ?_
      refine zN ?_
      refine R.z_pure 18 [18, 21, 22, 23, 24] rfl (K.add_i64 rfl rfl (by omega)) (fun _ h => h) (by kernel_rfl) (by kernel_rfl) rfl ?_
      refine zn ?_
      refine R.z_pure 19 [19, 21, 22, 23, 24] rfl (K.move) (fun _ h => h) (by kernel_rfl) (by kernel_rfl) rfl ?_
      refine zn ?_
      refine R.z_pure 20 [20, 21, 22, 23, 24] rfl (K.move) (fun _ h => h) (by kernel_rfl) (by kernel_rfl) rfl ?_
      refine zn ?_
      refine R.z_pure 21 [21, 22, 23, 24] rfl (K.build (bl114 _ _ _)) (fun _ h => h) (by kernel_rfl) (by kernel_rfl) rfl ?_
      refine zN ?_
      refine R.z_yield rfl rfl rfl (by kernel_rfl) rfl (fun w1 hw1 => R.yield_step2 hR (stK_at hss (n := (gS m x y i).toNat - 1) (by omega)) (hJa.below hJ1 hfb hB1 hw1.1)) ?_
      intro w1 hw1 bb w2 hst
      refine zN ?_
      first | refine R.y_pure 23 rfl (by kernel_rfl) (K.not_d rfl) rfl rfl ?_ | refine R.y_pure 23 rfl (by kernel_rfl) (K.not_ rfl) rfl rfl ?_
      refine zN ?_
      refine R.y_pure 24 rfl (by kernel_rfl) (K.pick_t rfl) rfl rfl ?_
      refine zn ?_
      refine R.y_done (by kernel_rfl) ?_
      refine R.norm_then ?_
      refine R.cond rfl (fun ht82 => ?_) (fun ht82 => ?_)
      · try replace ht82 := of_decide_eq_true ht82
        refine R.ret ?_
        refine R.ret_block ?_
        refine R.ret_then ?_
        refine R.ret_then ?_
        refine R.ret_block ?_
        refine R.end_ret (fun w _ => K.res_none rfl w) ?_
        intro w3 hw3
        refine ⟨⟨_, rfl⟩, .inr ?_⟩
        have hbf : bb = false := by simpa using ht82
        subst hbf
        rcases hst with ⟨h, _⟩ | ⟨_, k2, f2, hk2, hJ2, hkp, _, hf2⟩
        · cases h
        have hB2 : B0 ≤ w2.heap.size := Nat.le_of_lt (Nat.lt_of_le_of_lt hB5 ((h5.keep ((R.Keep.below (f := f1) hw1.1).trans hkp)).1))
        exact ⟨k2, f2, hk2, hJxa.below hJ2 hf2 hB2 hw3.1⟩
      try replace ht82 := of_decide_eq_false ht82
      refine R.skip ?_
      refine R.norm_block ?_
      refine R.norm_then ?_
      refine R.region_lit rfl ?_
      refine qm ?_
      refine qp (K.add_i64 rfl rfl (by omega)) ?_
      refine qa ?_
      refine K.seq_nil ?_
      refine R.out ?_
      refine R.roundY [.int .i64 ((k : Int) + 1 + 1)] (fun w4 hw4 => ?_) (by simp [K.nth, intOf]; omega) (by kernel_rfl)
      have hbt : bb = true := by simpa using ht82
      subst hbt
      rcases hst with ⟨_, f2, hJ2, hk2, _, hf2⟩ | ⟨h, _⟩
      case inr => cases h
      have ek := ((R.Keep.below (f := f1) hw1.1).trans hk2).trans (R.Keep.below (f := f2) hw4.1)
      have hB2 : B0 ≤ w2.heap.size := Nat.le_of_lt (Nat.lt_of_le_of_lt hB5 ((h5.keep ((R.Keep.below (f := f1) hw1.1).trans hk2)).1))
      refine ⟨k + 1, f2, by rw [show (((k + 1 : Nat) : Int) + 1) = (k : Int) + 1 + 1 by omega], by omega, .inr (by omega), ?_, fun i hi => Nat.lt_of_lt_of_le (hf2 i hi) hw4.1.size, hB5, h1.keep ek, h3.keep ek, hMo.keep ek, h5.keep ek⟩
      rw [stK_some hss, List.length_append]
      exact hJa.below hJ2 hf2 hB2 hw4.1
    try replace hg64 := of_decide_eq_false hg64
    refine R.z_skip 7 [7, 22, 23, 24] rfl (fun _ h => h) (by kernel_rfl) (by kernel_rfl) rfl ?_
    refine zN ?_
    refine R.z_skip 8 [8, 9, 15, 18, 21, 22, 23, 24] rfl (fun _ h => h) (by kernel_rfl) (by kernel_rfl) rfl ?_
    refine zN ?_
    refine R.z_skip 9 [9, 15, 18, 21, 22, 23, 24] rfl (fun _ h => h) (by kernel_rfl) (by kernel_rfl) rfl ?_
    refine zN ?_
    refine R.z_skip 10 [10, 11, 12, 13, 14, 15, 18, 21, 22, 23, 24] rfl (fun _ h => h) (by kernel_rfl) (by kernel_rfl) rfl ?_
    refine zN ?_
    refine R.z_skip 11 [11, 12, 13, 14, 15, 18, 21, 22, 23, 24] rfl (fun _ h => h) (by kernel_rfl) (by kernel_rfl) rfl ?_
    refine zN ?_
    refine R.z_skip 12 [12, 13, 14, 15, 18, 21, 22, 23, 24] rfl (fun _ h => h) (by kernel_rfl) (by kernel_rfl) rfl ?_
    refine zN ?_
    refine R.z_skip 13 [13, 14, 15, 18, 21, 22, 23, 24] rfl (fun _ h => h) (by kernel_rfl) (by kernel_rfl) rfl ?_
    refine zN ?_
    refine R.z_skip 14 [14, 15, 18, 21, 22, 23, 24] rfl (fun _ h => h) (by kernel_rfl) (by kernel_rfl) rfl ?_
    refine zN ?_
    refine R.z_skip 15 [15, 18, 21, 22, 23, 24] rfl (fun _ h => h) (by kernel_rfl) (by kernel_rfl) rfl ?_
    refine zN ?_
    refine R.z_skip 16 [16, 17, 18, 21, 22, 23, 24] rfl (fun _ h => h) (by kernel_rfl) (by kernel_rfl) rfl ?_
    refine zN ?_
    refine R.z_skip 17 [17, 18, 21, 22, 23, 24] rfl (fun _ h => h) (by kernel_rfl) (by kernel_rfl) rfl ?_
    refine zN ?_
    refine R.z_skip 18 [18, 21, 22, 23, 24] rfl (fun _ h => h) (by kernel_rfl) (by kernel_rfl) rfl ?_
    refine zN ?_
    refine R.z_skip 19 [19, 21, 22, 23, 24] rfl (fun _ h => h) (by kernel_rfl) (by kernel_rfl) rfl ?_
    refine zN ?_
    refine R.z_skip 20 [20, 21, 22, 23, 24] rfl (fun _ h => h) (by kernel_rfl) (by kernel_rfl) rfl ?_
    refine zN ?_
    refine R.z_skip 21 [21, 22, 23, 24] rfl (fun _ h => h) (by kernel_rfl) (by kernel_rfl) rfl ?_
    refine zN ?_
    refine R.z_none rfl (by kernel_rfl) rfl ?_
    refine zN ?_
    refine R.y_skip 23 rfl (by kernel_rfl) rfl ?_
    refine zN ?_
    refine R.y_pure 24 rfl (by kernel_rfl) (K.pick_f rfl) rfl rfl ?_
    refine zn ?_
    refine R.y_done (by kernel_rfl) ?_
    refine R.norm_then ?_
    refine R.cond_false rfl ?_
    refine R.skip ?_
    refine R.norm_block ?_
    refine R.norm_then ?_
    refine R.region_lit rfl ?_
    refine qm ?_
    refine qp (K.add_i64 rfl rfl (by omega)) ?_
    refine qa ?_
    refine K.seq_nil ?_
    refine R.out ?_
    refine R.roundY [.int .i64 ((k : Int) + 1 + 1)] (fun w4 hw4 => ?_) (by simp [K.nth, intOf]; omega) (by kernel_rfl)
    have ek := R.Keep.below (f := f1) hw4.1
    refine ⟨k + 1, f1, by rw [show (((k + 1 : Nat) : Int) + 1) = (k : Int) + 1 + 1 by omega], by omega, .inr (by omega), ?_, fun i hi => Nat.lt_of_lt_of_le (hfb i hi) hw4.1.size, hB5, h1.keep ek, h3.keep ek, hMo.keep ek, h5.keep ek⟩
    rw [stK_none (st1_none hg64)]
    exact hJa.below hJ1 hfb hB1 hw4.1
  try replace ht30 := of_decide_eq_false ht30
  refine R.exit ?_
  refine R.exit_then ?_
  refine R.exit_then ?_
  refine R.exit_here ?_
  refine R.end_normal (fun w _ => K.res_none rfl w) ?_
  intro w3 hw3
  refine ⟨⟨_, rfl⟩, .inl ⟨f1, ?_⟩⟩
  have e0 : k = (gS m x y i).toNat - 1 := by omega
  rw [stepsS_eq, ← e0]
  exact hJa.below hJ1 hfb hB1 hw3.1

end Go.Proofs.YthkgnhcknkjgdaaDoor
