/-
  Walks of the program's functions, printed by program: what each returns.
  Conditions stand in each theorem.
-/
import Derived.WalkArith
import Derived.Laws.Closers25b
import Derived.Test.YthkgnhcknkjgdaaDoorS3
import Derived.Test.YthkgnhcknkjgdaaDoorWk
set_option linter.unusedSimpArgs false
set_option linter.unusedVariables false
namespace Go.Proofs.YthkgnhcknkjgdaaDoor
open Go.RowKit Go
open Go.K (setd setn ev nth over cl eI eP eT setM setF)
attribute [local irreducible] K.blk K.row

set_option maxRecDepth 100000 in
set_option maxHeartbeats 1000000 in
theorem c102 {m : Mod} {A B C : Option Addr} {c d e : Nat} {b i : Nat} {l : List Int} {w : World} (hM : K.PtrL w [] ⟨b, 0, none⟩ (mdl m A B C c d e)) (hMb : b < w.heap.size) (hP : K.Rd w B 5 eN m.ps) (hS : K.Rd w C 4 eS m.ss) (g : Good m) (hl : LB l) (hi : i < m.ps.length) :
    Calls Tryd.prog 102 [.pointer (some ⟨b, 0, none⟩), .agg #[iI (l.getD 0 default), iI (l.getD 1 default), iI (l.getD 2 default), iI (l.getD 3 default), iI (l.getD 4 default), iI (l.getD 5 default)], .int .i64 (i : Int)].toArray w (K.Gives (.int .i64 (needS m l i)) w) := by
  have hgn := g.n
  have hgk := g.k
  have hhd := head_bd g hl i
  have hli := hl i
  refine R.enter (args := [.pointer (some ⟨b, 0, none⟩), .agg #[iI (l.getD 0 default), iI (l.getD 1 default), iI (l.getD 2 default), iI (l.getD 3 default), iI (l.getD 4 default), iI (l.getD 5 default)], .int .i64 (i : Int)]) Tryd.func102 rfl (m := 69) rfl ?_
  simp only [List.replicate, List.cons_append, List.nil_append]
  refine R.seq ?_
  refine R.region_lit rfl ?_
  refine K.seq_new (K.box) rfl ?_
  intro b3
  refine zN ?_
  refine K.seq_new (K.box) rfl ?_
  intro b4
  refine zN ?_
  refine K.seq_new (K.alloc zr_3) rfl ?_
  intro b6
  refine zN ?_
  refine K.seq_nil ?_
  refine R.out ?_
  refine R.norm_then ?_
  refine R.seq ?_
  refine R.draw_L [9] Tryd_mixed rfl ?_
  refine K.d_mem 0 rfl (K.load1_own one_90 rfl (K.m2) rfl) (fun _ h => h) (by kernel_rfl) (by kernel_rfl) rfl ?_
  refine zN ?_
  refine K.d_mem 1 rfl (K.loadA_own ag_98 rfl (K.m1) rfl) (fun _ h => h) (by kernel_rfl) (by kernel_rfl) rfl ?_
  refine zN ?_
  refine K.d_pure 2 rfl (K.move) (by kernel_rfl) rfl ?_
  refine zn ?_
  refine K.d_pure 4 rfl (K.move) (by kernel_rfl) rfl ?_
  refine zn ?_
  refine K.d_pure 5 rfl (K.indexAddr_ar ar_98 rfl rfl (by omega) (by omega)) (by kernel_rfl) rfl ?_
  refine zN ?_
  refine K.d_mem 6 rfl (K.load_at one_3 rfl (K.PtrL.own' ((K.m1))) (ln_at' (l := l) (by omega))) (fun _ h => h) (by kernel_rfl) (by kernel_rfl) rfl ?_
  refine zN ?_
  refine K.d_two 3 8 (by kernel_rfl) ?_ ?_
  · refine K.s_call 3 rfl (K.call_g cal_74 (fun F w hF hw => c74 (hM.into hMb hw) (hP.pass hw) g hl hi)) (fun _ h => h) (by kernel_rfl) rfl ?_
    refine zN ?_
    refine K.d_pure 7 rfl (K.Pure.eq (K.sub_i64 rfl rfl (by omega)) (show _ = Value.int .i64 (hgS m i) from by rw [head_eq]; exact congrArg _ (by omega))) (by kernel_rfl) rfl ?_
    refine zn ?_
    refine K.d_new 8 rfl (K.alloc zr_3) (fun _ h => h) (by kernel_rfl) rfl ?_
    intro b7
    refine zN ?_
    refine K.d_last 9 rfl (K.store sz_3 rfl rfl rfl rfl (K.rp0)) rfl (by kernel_rfl) rfl ?_
    intro _ _
    refine zN ?_
    refine K.d_done (by kernel_rfl) ?_
    refine R.out ?_
    refine R.norm_then ?_
    refine R.seq ?_
    refine R.seq ?_
    refine R.region_lit rfl ?_
    refine K.seq_sil (K.load1_own one_90 rfl (K.m3) rfl) rfl ?_
    refine zN ?_
    refine qp (K.nilCheck rfl) ?_
    refine qp (K.fieldAddr_lit fo_101_0 rfl) ?_
    refine qp (K.fieldAddr_lit fo_26_4 rfl) ?_
    refine K.seq_sil (K.load_at one_24 rfl (hM.any) rfl) rfl ?_
    refine zN ?_
    refine qp (K.len_sl sl_24 rfl) ?_
    refine qm ?_
    refine K.seq_nil ?_
    refine R.out ?_
    refine R.norm_then ?_
    refine R.block ?_
    refine R.loopD [26] [8, 9, 10, 11, 27, 28, 29, 30, 31, 32, 33, 34, 35, 36, 38, 39, 40, 41, 42, 43, 44, 45, 46, 47, 48, 49, 50, 51, 52, 53, 54, 55, 56, 57, 58, 59, 60, 61, 62, 63, 64, 65, 66, 67, 68, 69, 70] (fun vi L => ∃ j : Nat, vi = [.int .i64 (j : Int)] ∧ L = [K.blk b7 3 [.int .i64 (hgS m i)], K.blk b6 3 [.int .i64 (needK m l i j)], K.blk b4 98 (ln l), K.blk b3 90 [.pointer (some ⟨b, 0, none⟩)]] ∧ j ≤ m.ss.length) (fun vi => m.ss.length - (intOf (K.nth vi 0)).toNat) ?_ ?_
    · exact ⟨0, rfl, rfl, Nat.zero_le _⟩
    intro vi vr L bs hJ
    obtain ⟨j, rfl, rfl, hjn⟩ := hJ
    try dsimp only [List.cons_append, List.nil_append]
    try dsimp only [setd, setn, ev, nth, over, cl, eI, eP, eT, eN, eS, setM, setF, List.map, List.append, List.drop, List.take]
    refine R.seq ?_
    refine R.region_lit rfl ?_
    refine qp (K.lss rfl rfl) ?_
    refine K.seq_nil ?_
    refine R.out ?_
    refine R.norm_then ?_
    refine R.seq ?_
    refine R.cond rfl (fun ht27 => ?_) (fun ht27 => ?_)
    · try replace ht27 := of_decide_eq_true ht27
      have hj : j < m.ss.length := by omega
      have hst := g.st hj
      have hW : Way m (m.ss.getD j default).x (m.ss.getD j default).y i := ⟨g, hi, by omega, by omega⟩
      have hnb := needK_bd (k := j) g hl hi (by omega)
      refine R.skip ?_
      refine R.norm_then ?_
      refine R.seq ?_
      refine R.block ?_
      refine R.seq ?_
      refine R.region_lit rfl ?_
      refine qm ?_
      refine K.seq_ix (M := []) _ hS.sl sl_24 rfl rfl rfl (by omega) rfl ?_
      intro p29 hp29
      refine zN ?_
      refine K.seq_sil (K.loadA_p ag_63 rfl (hp29.any) rfl) rfl ?_
      refine zN ?_
      refine K.seq_new (K.alloc zr_63) rfl ?_
      intro b9
      refine zN ?_
      refine qa ?_
      refine K.seq_st (K.store_all sz_63 rfl rfl rfl rfl (K.rp0)) rfl ?_
      refine zN ?_
      refine K.seq_nil ?_
      refine R.out ?_
      refine R.norm_then ?_
      refine R.seq ?_
      refine R.draw_L [] Tryd_mixed rfl ?_
      refine K.d_mem 0 rfl (K.load1_own one_90 rfl (K.m4) rfl) (fun _ h => h) (by kernel_rfl) (by kernel_rfl) rfl ?_
      refine zN ?_
      refine K.d_mem 1 rfl (K.load1_own one_90 rfl (K.m4) rfl) (fun _ h => h) (by kernel_rfl) (by kernel_rfl) rfl ?_
      refine zN ?_
      refine K.d_pure 2 rfl (K.move) (by kernel_rfl) rfl ?_
      refine zn ?_
      refine K.d_pure 4 rfl (K.move) (by kernel_rfl) rfl ?_
      refine zn ?_
      refine K.d_call 3 rfl (K.call_g cal_64 (fun F w hF hw => c64 (hM.into hMb hw) (hS.pass hw) hj)) (fun _ h => h) (by kernel_rfl) rfl ?_
      refine zN ?_
      refine K.d_loud 5 rfl (K.call_f cal_72 (fun F w hF hw => c72 w)) (fun _ h => h) (by kernel_rfl) rfl ?_
      rintro ⟨q1, q2, q3⟩ _
      refine zN ?_
      refine K.d_done (by kernel_rfl) ?_
      refine R.out ?_
      refine R.norm_then ?_
      refine R.block ?_
      refine R.rangeC (gf := 100) (first := []) (cap := [.pointer (some ⟨q1, 0, none⟩), .pointer (some ⟨q3, 0, none⟩), .pointer (some ⟨q2, 0, none⟩)]) (enc := (fun s : Int × Int × Int => Value.agg #[.int .i64 s.1, .int .i64 s.2.1, .int .i64 s.2.2])) (XS := stepsS m (m.ss.getD j default).x (m.ss.getD j default).y i) rfl cal_100 [K.blk b9 63 [.int .i64 (m.ss.getD j default).x, .int .i64 (m.ss.getD j default).y, .int .i64 (m.ss.getD j default).lo, .int .i64 (m.ss.getD j default).hi], K.blk b7 3 [.int .i64 (hgS m i)], K.blk b6 3 [.int .i64 (needK m l i j)], K.blk b4 98 (ln l), K.blk b3 90 [.pointer (some ⟨b, 0, none⟩)], R.dfs bs] [K.blk q3 3 [.int .i64 (i : Int)], K.blk q2 80 [.int .i64 (m.ss.getD j default).x, .int .i64 (m.ss.getD j default).y], K.blk q1 90 [.pointer (some ⟨b, 0, none⟩)]] (K.st_perm (show List.Perm [K.blk q3 3 [.int .i64 (i : Int)], K.blk q2 80 [.int .i64 (m.ss.getD j default).x, .int .i64 (m.ss.getD j default).y], K.blk q1 90 [.pointer (some ⟨b, 0, none⟩)], K.blk b9 63 [.int .i64 (m.ss.getD j default).x, .int .i64 (m.ss.getD j default).y, .int .i64 (m.ss.getD j default).lo, .int .i64 (m.ss.getD j default).hi], K.blk b7 3 [.int .i64 (hgS m i)], K.blk b6 3 [.int .i64 (needK m l i j)], K.blk b4 98 (ln l), K.blk b3 90 [.pointer (some ⟨b, 0, none⟩)], R.dfs bs] ([K.blk b9 63 [.int .i64 (m.ss.getD j default).x, .int .i64 (m.ss.getD j default).y, .int .i64 (m.ss.getD j default).lo, .int .i64 (m.ss.getD j default).hi], K.blk b7 3 [.int .i64 (hgS m i)], K.blk b6 3 [.int .i64 (needK m l i j)], K.blk b4 98 (ln l), K.blk b3 90 [.pointer (some ⟨b, 0, none⟩)], R.dfs bs] ++ [K.blk q3 3 [.int .i64 (i : Int)], K.blk q2 80 [.int .i64 (m.ss.getD j default).x, .int .i64 (m.ss.getD j default).y], K.blk q1 90 [.pointer (some ⟨b, 0, none⟩)]]) from (List.Perm.trans (List.perm_middle (l₁ := [_, _, _])) (List.Perm.cons _ (List.Perm.trans (List.perm_middle (l₁ := [_, _, _])) (List.Perm.cons _ (List.Perm.trans (List.perm_middle (l₁ := [_, _, _])) (List.Perm.cons _ (List.Perm.trans (List.perm_middle (l₁ := [_, _, _])) (List.Perm.cons _ (List.Perm.trans (List.perm_middle (l₁ := [_, _, _])) (List.Perm.cons _ (List.Perm.trans (List.perm_middle (l₁ := [_, _, _])) (List.Perm.cons _ (List.Perm.refl _))))))))))))))) (R.fixC (R.fixC (R.fixC R.fixN))) (c100 (c := c) (d := d) (e := e) (A := A) (B := B) (C := C) (b := b) hW) (fun f w hf => ⟨hf.own1 K.m2, hf.own1 K.m0, hf.own1 K.m1, hf.old1 hM hMb, hP.pass hf.1⟩) (fun k L => L = [K.blk b9 63 [.int .i64 (m.ss.getD j default).x, .int .i64 (m.ss.getD j default).y, .int .i64 (m.ss.getD j default).lo, .int .i64 (m.ss.getD j default).hi], K.blk b7 3 [.int .i64 (hgS m i)], K.blk b6 3 [.int .i64 (needAK m l i j (needK m l i j) k)], K.blk b4 98 (ln l), K.blk b3 90 [.pointer (some ⟨b, 0, none⟩)], R.dfs bs]) (fun cX L => False) ?_ ?_ ?_ ?_
      · rw [need_0]
      · intro k u L lr E hu hE hJ
        subst hJ
        have hstp := hW.step hu
        have hbd := need_bd1 (lo := (m.ss.getD j default).lo) hW hl (by omega) hu
        have hkb := needA_bd (s := j) (k := k) g hl hi hj hnb
        have hmo : topS m l u.1 * u.2.2 - (m.ss.getD j default).lo * (u.2.2 - u.2.1) - hgS m i * u.2.1 = more2 m l (m.ss.getD j default).lo i u := rfl
        try dsimp only [List.cons_append, List.nil_append]
        try dsimp only [setd, setn, ev, nth, over, cl, eI, eP, eT, eN, eS, setM, setF, List.map, List.append, List.drop, List.take]
        refine R.region_lit rfl ?_
        refine K.seq_new (K.alloc zr_114) rfl ?_
        intro b10
        refine zN ?_
        refine K.seq_st (K.store_all sz_114 rfl rfl rfl rfl (K.rp0)) rfl ?_
        refine zN ?_
        refine K.seq_nil ?_
        refine R.out ?_
        refine R.norm_then ?_
        refine R.bodyC' rfl (fun E hE => ?_)
        dsimp only [List.dropLast, List.cons_append, List.nil_append]
        refine zN ?_
        refine R.block ?_
        refine R.seq ?_
        refine R.draw_L [] Tryd_mixed rfl ?_
        refine K.d_mem 0 rfl (K.load1_own one_90 rfl (K.m5) rfl) (fun _ h => h) (by kernel_rfl) (by kernel_rfl) rfl ?_
        refine zN ?_
        refine K.d_mem 1 rfl (K.loadA_own ag_98 rfl (K.m4) rfl) (fun _ h => h) (by kernel_rfl) (by kernel_rfl) rfl ?_
        refine zN ?_
        refine K.d_pure 2 rfl (K.fieldAddr_lit fo_114_0 rfl) (by kernel_rfl) rfl ?_
        refine zn ?_
        refine K.d_mem 3 rfl (K.load1_own one_3 rfl (K.m0) rfl) (fun _ h => h) (by kernel_rfl) (by kernel_rfl) rfl ?_
        refine zN ?_
        refine K.d_pure 5 rfl (K.fieldAddr_lit fo_114_2 rfl) (by kernel_rfl) rfl ?_
        refine zn ?_
        refine K.d_mem 6 rfl (K.load1_own one_3 rfl (K.m0) rfl) (fun _ h => h) (by kernel_rfl) (by kernel_rfl) rfl ?_
        refine zN ?_
        refine K.d_pure 8 rfl (K.fieldAddr_lit fo_63_2 rfl) (by kernel_rfl) rfl ?_
        refine zn ?_
        refine K.d_pure 9 rfl (K.fieldAddr_lit fo_61_0 rfl) (by kernel_rfl) rfl ?_
        refine zn ?_
        refine K.d_mem 10 rfl (K.load1_own one_3 rfl (K.m1) rfl) (fun _ h => h) (by kernel_rfl) (by kernel_rfl) rfl ?_
        refine zN ?_
        refine K.d_pure 11 rfl (K.fieldAddr_lit fo_114_2 rfl) (by kernel_rfl) rfl ?_
        refine zn ?_
        refine K.d_mem 12 rfl (K.load1_own one_3 rfl (K.m0) rfl) (fun _ h => h) (by kernel_rfl) (by kernel_rfl) rfl ?_
        refine zN ?_
        refine K.d_pure 13 rfl (K.fieldAddr_lit fo_114_1 rfl) (by kernel_rfl) rfl ?_
        refine zn ?_
        refine K.d_mem 14 rfl (K.load1_own one_3 rfl (K.m0) rfl) (fun _ h => h) (by kernel_rfl) (by kernel_rfl) rfl ?_
        refine zN ?_
        refine K.d_pure 15 rfl (K.sub_i64 rfl rfl (by omega)) (by kernel_rfl) rfl ?_
        refine zn ?_
        refine K.d_pure 16 rfl (K.mul_i64 rfl rfl (by omega)) (by kernel_rfl) rfl ?_
        refine zn ?_
        refine K.d_mem 18 rfl (K.load1_own one_3 rfl (K.m2) rfl) (fun _ h => h) (by kernel_rfl) (by kernel_rfl) rfl ?_
        refine zN ?_
        refine K.d_pure 19 rfl (K.fieldAddr_lit fo_114_1 rfl) (by kernel_rfl) rfl ?_
        refine zn ?_
        refine K.d_mem 20 rfl (K.load1_own one_3 rfl (K.m0) rfl) (fun _ h => h) (by kernel_rfl) (by kernel_rfl) rfl ?_
        refine zN ?_
        refine K.d_pure 21 rfl (K.mul_i64 rfl rfl (by omega)) (by kernel_rfl) rfl ?_
        refine zn ?_
        refine K.d_call 4 rfl (K.call_g cal_73 (fun F w hF hw => c73 (hM.into hMb hw) g hl (by omega))) (fun _ h => h) (by kernel_rfl) rfl ?_
        refine zN ?_
        refine K.d_pure 7 rfl (K.mul_i64 rfl rfl (by omega)) (by kernel_rfl) rfl ?_
        refine zn ?_
        refine K.d_pure 17 rfl (K.sub_i64 rfl rfl (by omega)) (by kernel_rfl) rfl ?_
        refine zn ?_
        refine K.d_pure 22 rfl (K.Pure.eq (K.sub_i64 rfl rfl (by omega)) (show _ = Value.int .i64 (more2 m l (m.ss.getD j default).lo i u) from rfl)) (by kernel_rfl) rfl ?_
        refine zn ?_
        refine K.d_pure 23 rfl (K.assign) (by kernel_rfl) rfl ?_
        refine zn ?_
        refine K.d_done (by kernel_rfl) ?_
        refine R.out ?_
        refine R.norm_then ?_
        refine R.seq ?_
        refine R.region_lit rfl ?_
        refine qm ?_
        refine qp (K.geq rfl rfl) ?_
        refine K.seq_nil ?_
        refine R.out ?_
        refine R.norm_then ?_
        refine R.cond rfl (fun ht62 => ?_) (fun ht62 => ?_)
        · try replace ht62 := of_decide_eq_true ht62
          have hdv := div_bd (a := more2 m l (m.ss.getD j default).lo i u) (A := 21600) (b := u.2.1) (by omega) (by omega)
          refine R.draw_L [7] Tryd_mixed rfl ?_
          refine K.d_mem 0 rfl (K.load1_own one_3 rfl (K.m3) rfl) (fun _ h => h) (by kernel_rfl) (by kernel_rfl) rfl ?_
          refine zN ?_
          refine K.d_pure 1 rfl (K.move) (by kernel_rfl) rfl ?_
          refine zn ?_
          refine K.d_pure 2 rfl (K.fieldAddr_lit fo_114_1 rfl) (by kernel_rfl) rfl ?_
          refine zn ?_
          refine K.d_mem 3 rfl (K.load1_own one_3 rfl (K.m0) rfl) (fun _ h => h) (by kernel_rfl) (by kernel_rfl) rfl ?_
          refine zN ?_
          refine K.d_pure 4 rfl (K.quo_i64 rfl rfl (by omega) (by omega) (by omega)) (by kernel_rfl) rfl ?_
          refine zn ?_
          refine K.d_pure 5 rfl (K.add_i64 rfl rfl (by omega)) (by kernel_rfl) rfl ?_
          refine zn ?_
          refine K.d_pure 6 rfl (K.max_int rfl rfl) (by kernel_rfl) rfl ?_
          refine zn ?_
          refine K.d_last 7 rfl (K.store sz_3 rfl rfl rfl rfl (K.rp3)) rfl (by kernel_rfl) rfl ?_
          intro _ _
          refine zN ?_
          refine K.d_done (by kernel_rfl) ?_
          refine R.out ?_
          refine R.norm_block ?_
          have e1 : needAK m l i j (needK m l i j) (k + 1) = max (needAK m l i j (needK m l i j) k) (more2 m l (m.ss.getD j default).lo i u / u.2.1 + 1) := by rw [need_next hu, needE, if_pos ht62]
          exact R.rp_normal (L := [K.blk b9 63 [.int .i64 (m.ss.getD j default).x, .int .i64 (m.ss.getD j default).y, .int .i64 (m.ss.getD j default).lo, .int .i64 (m.ss.getD j default).hi], K.blk b7 3 [.int .i64 (hgS m i)], K.blk b6 3 [.int .i64 (max (needAK m l i j (needK m l i j) k) (more2 m l (m.ss.getD j default).lo i u / u.2.1 + 1))], K.blk b4 98 (ln l), K.blk b3 90 [.pointer (some ⟨b, 0, none⟩)], R.dfs bs]) (by rw [e1]) (by repeat (first | exact List.Sublist.refl _ | apply List.Sublist.cons))
        try replace ht62 := of_decide_eq_false ht62
        refine R.skip ?_
        refine R.norm_block ?_
        have e1 : needAK m l i j (needK m l i j) (k + 1) = needAK m l i j (needK m l i j) k := by rw [need_next hu, needE, if_neg ht62]; omega
        exact R.rp_normal (L := [K.blk b9 63 [.int .i64 (m.ss.getD j default).x, .int .i64 (m.ss.getD j default).y, .int .i64 (m.ss.getD j default).lo, .int .i64 (m.ss.getD j default).hi], K.blk b7 3 [.int .i64 (hgS m i)], K.blk b6 3 [.int .i64 (needAK m l i j (needK m l i j) k)], K.blk b4 98 (ln l), K.blk b3 90 [.pointer (some ⟨b, 0, none⟩)], R.dfs bs]) (by rw [e1]) (by repeat (first | exact List.Sublist.refl _ | apply List.Sublist.cons))
      · intro bD L hJ
        subst hJ
        rw [need_all]
        try dsimp only [List.cons_append, List.nil_append]
        try dsimp only [setd, setn, ev, nth, over, cl, eI, eP, eT, eN, eS, setM, setF, List.map, List.append, List.drop, List.take]
        refine R.markJ (L := [K.blk b7 3 [.int .i64 (hgS m i)], K.blk b6 3 [.int .i64 (needA m l i j (needK m l i j))], K.blk b4 98 (ln l), K.blk b3 90 [.pointer (some ⟨b, 0, none⟩)]]) (K.st_sub (List.Sublist.cons _ (List.Sublist.cons_cons _ (List.Sublist.cons_cons _ (List.Sublist.cons_cons _ (List.Sublist.cons_cons _ (List.Sublist.cons_cons _ (List.Sublist.cons _ (List.Sublist.cons _ (List.Sublist.cons _ (List.Sublist.cons_cons _ (List.Sublist.refl _)))))))))))) ?_
        try dsimp only [List.cons_append, List.nil_append]
        refine zN ?_
        refine R.norm_block ?_
        refine R.norm_block ?_
        refine R.norm_then ?_
        refine R.region_lit rfl ?_
        refine qp (K.add_i64 rfl rfl (by omega)) ?_
        refine qm ?_
        refine K.seq_nil ?_
        refine R.out ?_
        exact R.round_endD (L'' := [K.blk b7 3 [.int .i64 (hgS m i)], K.blk b6 3 [.int .i64 (needK m l i (j + 1))], K.blk b4 98 (ln l), K.blk b3 90 [.pointer (some ⟨b, 0, none⟩)]]) [.int .i64 ((j : Int) + 1)] ⟨j + 1, rfl, rfl, by omega⟩ (by simp [K.nth, intOf]; omega) (by repeat (first | exact List.Sublist.refl _ | apply List.Sublist.cons)) (by kernel_rfl)
      · intro bD cX L hJ
        exact hJ.elim
        skip
    try replace ht27 := of_decide_eq_false ht27
    refine R.exit ?_
    refine R.exit_then ?_
    refine R.exit_then ?_
    refine R.exit_here ?_
    refine R.norm_then ?_
    refine R.seq ?_
    refine R.region_lit rfl ?_
    refine K.seq_sil (K.load1_own one_3 rfl (K.m1) rfl) rfl ?_
    refine zN ?_
    refine K.seq_st (K.store sz_3 rfl rfl rfl rfl (K.rp1)) rfl ?_
    refine zN ?_
    refine K.seq_nil ?_
    refine R.out ?_
    refine R.norm_then ?_
    refine R.ret ?_
    refine R.end_retD rfl (by dsimp only [List.dropLast]; exact (fun w hw => K.res_c rfl rfl (K.run_cell1 one_3 rfl (K.m1) w hw))) ?_
    dsimp only [List.dropLast]
    have e0 : j = m.ss.length := by omega
    exact K.gives_i rfl (by rw [e0]; rfl)
  refine K.s_new 8 rfl (K.alloc zr_3) (fun _ h => h) (by kernel_rfl) rfl ?_
  intro b7
  refine zN ?_
  refine K.d_call 3 rfl (K.call_g cal_74 (fun F w hF hw => c74 (hM.into hMb hw) (hP.pass hw) g hl hi)) (fun _ h => K.tl h) (by kernel_rfl) rfl ?_
  refine zN ?_
  refine K.d_pure 7 rfl (K.Pure.eq (K.sub_i64 rfl rfl (by omega)) (show _ = Value.int .i64 (hgS m i) from by rw [head_eq]; exact congrArg _ (by omega))) (by kernel_rfl) rfl ?_
  refine zn ?_
  refine K.d_last 9 rfl (K.store sz_3 rfl rfl rfl rfl (K.rp0)) rfl (by kernel_rfl) rfl ?_
  intro _ _
  refine zN ?_
  refine K.d_done (by kernel_rfl) ?_
  refine R.out ?_
  refine R.norm_then ?_
  refine R.seq ?_
  refine R.seq ?_
  refine R.region_lit rfl ?_
  refine K.seq_sil (K.load1_own one_90 rfl (K.m3) rfl) rfl ?_
  refine zN ?_
  refine qp (K.nilCheck rfl) ?_
  refine qp (K.fieldAddr_lit fo_101_0 rfl) ?_
  refine qp (K.fieldAddr_lit fo_26_4 rfl) ?_
  refine K.seq_sil (K.load_at one_24 rfl (hM.any) rfl) rfl ?_
  refine zN ?_
  refine qp (K.len_sl sl_24 rfl) ?_
  refine qm ?_
  refine K.seq_nil ?_
  refine R.out ?_
  refine R.norm_then ?_
  refine R.block ?_
  refine R.loopD [26] [8, 9, 10, 11, 27, 28, 29, 30, 31, 32, 33, 34, 35, 36, 38, 39, 40, 41, 42, 43, 44, 45, 46, 47, 48, 49, 50, 51, 52, 53, 54, 55, 56, 57, 58, 59, 60, 61, 62, 63, 64, 65, 66, 67, 68, 69, 70] (fun vi L => ∃ j : Nat, vi = [.int .i64 (j : Int)] ∧ L = [K.blk b7 3 [.int .i64 (hgS m i)], K.blk b6 3 [.int .i64 (needK m l i j)], K.blk b4 98 (ln l), K.blk b3 90 [.pointer (some ⟨b, 0, none⟩)]] ∧ j ≤ m.ss.length) (fun vi => m.ss.length - (intOf (K.nth vi 0)).toNat) ?_ ?_
  · exact ⟨0, rfl, rfl, Nat.zero_le _⟩
  intro vi vr L bs hJ
  obtain ⟨j, rfl, rfl, hjn⟩ := hJ
  try dsimp only [List.cons_append, List.nil_append]
  try dsimp only [setd, setn, ev, nth, over, cl, eI, eP, eT, eN, eS, setM, setF, List.map, List.append, List.drop, List.take]
  refine R.seq ?_
  refine R.region_lit rfl ?_
  refine qp (K.lss rfl rfl) ?_
  refine K.seq_nil ?_
  refine R.out ?_
  refine R.norm_then ?_
  refine R.seq ?_
  refine R.cond rfl (fun ht27 => ?_) (fun ht27 => ?_)
  · try replace ht27 := of_decide_eq_true ht27
    have hj : j < m.ss.length := by omega
    have hst := g.st hj
    have hW : Way m (m.ss.getD j default).x (m.ss.getD j default).y i := ⟨g, hi, by omega, by omega⟩
    have hnb := needK_bd (k := j) g hl hi (by omega)
    refine R.skip ?_
    refine R.norm_then ?_
    refine R.seq ?_
    refine R.block ?_
    refine R.seq ?_
    refine R.region_lit rfl ?_
    refine qm ?_
    refine K.seq_ix (M := []) _ hS.sl sl_24 rfl rfl rfl (by omega) rfl ?_
    intro p29 hp29
    refine zN ?_
    refine K.seq_sil (K.loadA_p ag_63 rfl (hp29.any) rfl) rfl ?_
    refine zN ?_
    refine K.seq_new (K.alloc zr_63) rfl ?_
    intro b9
    refine zN ?_
    refine qa ?_
    refine K.seq_st (K.store_all sz_63 rfl rfl rfl rfl (K.rp0)) rfl ?_
    refine zN ?_
    refine K.seq_nil ?_
    refine R.out ?_
    refine R.norm_then ?_
    refine R.seq ?_
    refine R.draw_L [] Tryd_mixed rfl ?_
    refine K.d_mem 0 rfl (K.load1_own one_90 rfl (K.m4) rfl) (fun _ h => h) (by kernel_rfl) (by kernel_rfl) rfl ?_
    refine zN ?_
    refine K.d_mem 1 rfl (K.load1_own one_90 rfl (K.m4) rfl) (fun _ h => h) (by kernel_rfl) (by kernel_rfl) rfl ?_
    refine zN ?_
    refine K.d_pure 2 rfl (K.move) (by kernel_rfl) rfl ?_
    refine zn ?_
    refine K.d_pure 4 rfl (K.move) (by kernel_rfl) rfl ?_
    refine zn ?_
    refine K.d_call 3 rfl (K.call_g cal_64 (fun F w hF hw => c64 (hM.into hMb hw) (hS.pass hw) hj)) (fun _ h => h) (by kernel_rfl) rfl ?_
    refine zN ?_
    refine K.d_loud 5 rfl (K.call_f cal_72 (fun F w hF hw => c72 w)) (fun _ h => h) (by kernel_rfl) rfl ?_
    rintro ⟨q1, q2, q3⟩ _
    refine zN ?_
    refine K.d_done (by kernel_rfl) ?_
    refine R.out ?_
    refine R.norm_then ?_
    refine R.block ?_
    refine R.rangeC (gf := 100) (first := []) (cap := [.pointer (some ⟨q1, 0, none⟩), .pointer (some ⟨q3, 0, none⟩), .pointer (some ⟨q2, 0, none⟩)]) (enc := (fun s : Int × Int × Int => Value.agg #[.int .i64 s.1, .int .i64 s.2.1, .int .i64 s.2.2])) (XS := stepsS m (m.ss.getD j default).x (m.ss.getD j default).y i) rfl cal_100 [K.blk b9 63 [.int .i64 (m.ss.getD j default).x, .int .i64 (m.ss.getD j default).y, .int .i64 (m.ss.getD j default).lo, .int .i64 (m.ss.getD j default).hi], K.blk b7 3 [.int .i64 (hgS m i)], K.blk b6 3 [.int .i64 (needK m l i j)], K.blk b4 98 (ln l), K.blk b3 90 [.pointer (some ⟨b, 0, none⟩)], R.dfs bs] [K.blk q3 3 [.int .i64 (i : Int)], K.blk q2 80 [.int .i64 (m.ss.getD j default).x, .int .i64 (m.ss.getD j default).y], K.blk q1 90 [.pointer (some ⟨b, 0, none⟩)]] (K.st_perm (show List.Perm [K.blk q3 3 [.int .i64 (i : Int)], K.blk q2 80 [.int .i64 (m.ss.getD j default).x, .int .i64 (m.ss.getD j default).y], K.blk q1 90 [.pointer (some ⟨b, 0, none⟩)], K.blk b9 63 [.int .i64 (m.ss.getD j default).x, .int .i64 (m.ss.getD j default).y, .int .i64 (m.ss.getD j default).lo, .int .i64 (m.ss.getD j default).hi], K.blk b7 3 [.int .i64 (hgS m i)], K.blk b6 3 [.int .i64 (needK m l i j)], K.blk b4 98 (ln l), K.blk b3 90 [.pointer (some ⟨b, 0, none⟩)], R.dfs bs] ([K.blk b9 63 [.int .i64 (m.ss.getD j default).x, .int .i64 (m.ss.getD j default).y, .int .i64 (m.ss.getD j default).lo, .int .i64 (m.ss.getD j default).hi], K.blk b7 3 [.int .i64 (hgS m i)], K.blk b6 3 [.int .i64 (needK m l i j)], K.blk b4 98 (ln l), K.blk b3 90 [.pointer (some ⟨b, 0, none⟩)], R.dfs bs] ++ [K.blk q3 3 [.int .i64 (i : Int)], K.blk q2 80 [.int .i64 (m.ss.getD j default).x, .int .i64 (m.ss.getD j default).y], K.blk q1 90 [.pointer (some ⟨b, 0, none⟩)]]) from (List.Perm.trans (List.perm_middle (l₁ := [_, _, _])) (List.Perm.cons _ (List.Perm.trans (List.perm_middle (l₁ := [_, _, _])) (List.Perm.cons _ (List.Perm.trans (List.perm_middle (l₁ := [_, _, _])) (List.Perm.cons _ (List.Perm.trans (List.perm_middle (l₁ := [_, _, _])) (List.Perm.cons _ (List.Perm.trans (List.perm_middle (l₁ := [_, _, _])) (List.Perm.cons _ (List.Perm.trans (List.perm_middle (l₁ := [_, _, _])) (List.Perm.cons _ (List.Perm.refl _))))))))))))))) (R.fixC (R.fixC (R.fixC R.fixN))) (c100 (c := c) (d := d) (e := e) (A := A) (B := B) (C := C) (b := b) hW) (fun f w hf => ⟨hf.own1 K.m2, hf.own1 K.m0, hf.own1 K.m1, hf.old1 hM hMb, hP.pass hf.1⟩) (fun k L => L = [K.blk b9 63 [.int .i64 (m.ss.getD j default).x, .int .i64 (m.ss.getD j default).y, .int .i64 (m.ss.getD j default).lo, .int .i64 (m.ss.getD j default).hi], K.blk b7 3 [.int .i64 (hgS m i)], K.blk b6 3 [.int .i64 (needAK m l i j (needK m l i j) k)], K.blk b4 98 (ln l), K.blk b3 90 [.pointer (some ⟨b, 0, none⟩)], R.dfs bs]) (fun cX L => False) ?_ ?_ ?_ ?_
    · rw [need_0]
    · intro k u L lr E hu hE hJ
      subst hJ
      have hstp := hW.step hu
      have hbd := need_bd1 (lo := (m.ss.getD j default).lo) hW hl (by omega) hu
      have hkb := needA_bd (s := j) (k := k) g hl hi hj hnb
      have hmo : topS m l u.1 * u.2.2 - (m.ss.getD j default).lo * (u.2.2 - u.2.1) - hgS m i * u.2.1 = more2 m l (m.ss.getD j default).lo i u := rfl
      try dsimp only [List.cons_append, List.nil_append]
      try dsimp only [setd, setn, ev, nth, over, cl, eI, eP, eT, eN, eS, setM, setF, List.map, List.append, List.drop, List.take]
      refine R.region_lit rfl ?_
      refine K.seq_new (K.alloc zr_114) rfl ?_
      intro b10
      refine zN ?_
      refine K.seq_st (K.store_all sz_114 rfl rfl rfl rfl (K.rp0)) rfl ?_
      refine zN ?_
      refine K.seq_nil ?_
      refine R.out ?_
      refine R.norm_then ?_
      refine R.bodyC' rfl (fun E hE => ?_)
      dsimp only [List.dropLast, List.cons_append, List.nil_append]
      refine zN ?_
      refine R.block ?_
      refine R.seq ?_
      refine R.draw_L [] Tryd_mixed rfl ?_
      refine K.d_mem 0 rfl (K.load1_own one_90 rfl (K.m5) rfl) (fun _ h => h) (by kernel_rfl) (by kernel_rfl) rfl ?_
      refine zN ?_
      refine K.d_mem 1 rfl (K.loadA_own ag_98 rfl (K.m4) rfl) (fun _ h => h) (by kernel_rfl) (by kernel_rfl) rfl ?_
      refine zN ?_
      refine K.d_pure 2 rfl (K.fieldAddr_lit fo_114_0 rfl) (by kernel_rfl) rfl ?_
      refine zn ?_
      refine K.d_mem 3 rfl (K.load1_own one_3 rfl (K.m0) rfl) (fun _ h => h) (by kernel_rfl) (by kernel_rfl) rfl ?_
      refine zN ?_
      refine K.d_pure 5 rfl (K.fieldAddr_lit fo_114_2 rfl) (by kernel_rfl) rfl ?_
      refine zn ?_
      refine K.d_mem 6 rfl (K.load1_own one_3 rfl (K.m0) rfl) (fun _ h => h) (by kernel_rfl) (by kernel_rfl) rfl ?_
      refine zN ?_
      refine K.d_pure 8 rfl (K.fieldAddr_lit fo_63_2 rfl) (by kernel_rfl) rfl ?_
      refine zn ?_
      refine K.d_pure 9 rfl (K.fieldAddr_lit fo_61_0 rfl) (by kernel_rfl) rfl ?_
      refine zn ?_
      refine K.d_mem 10 rfl (K.load1_own one_3 rfl (K.m1) rfl) (fun _ h => h) (by kernel_rfl) (by kernel_rfl) rfl ?_
      refine zN ?_
      refine K.d_pure 11 rfl (K.fieldAddr_lit fo_114_2 rfl) (by kernel_rfl) rfl ?_
      refine zn ?_
      refine K.d_mem 12 rfl (K.load1_own one_3 rfl (K.m0) rfl) (fun _ h => h) (by kernel_rfl) (by kernel_rfl) rfl ?_
      refine zN ?_
      refine K.d_pure 13 rfl (K.fieldAddr_lit fo_114_1 rfl) (by kernel_rfl) rfl ?_
      refine zn ?_
      refine K.d_mem 14 rfl (K.load1_own one_3 rfl (K.m0) rfl) (fun _ h => h) (by kernel_rfl) (by kernel_rfl) rfl ?_
      refine zN ?_
      refine K.d_pure 15 rfl (K.sub_i64 rfl rfl (by omega)) (by kernel_rfl) rfl ?_
      refine zn ?_
      refine K.d_pure 16 rfl (K.mul_i64 rfl rfl (by omega)) (by kernel_rfl) rfl ?_
      refine zn ?_
      refine K.d_mem 18 rfl (K.load1_own one_3 rfl (K.m2) rfl) (fun _ h => h) (by kernel_rfl) (by kernel_rfl) rfl ?_
      refine zN ?_
      refine K.d_pure 19 rfl (K.fieldAddr_lit fo_114_1 rfl) (by kernel_rfl) rfl ?_
      refine zn ?_
      refine K.d_mem 20 rfl (K.load1_own one_3 rfl (K.m0) rfl) (fun _ h => h) (by kernel_rfl) (by kernel_rfl) rfl ?_
      refine zN ?_
      refine K.d_pure 21 rfl (K.mul_i64 rfl rfl (by omega)) (by kernel_rfl) rfl ?_
      refine zn ?_
      refine K.d_call 4 rfl (K.call_g cal_73 (fun F w hF hw => c73 (hM.into hMb hw) g hl (by omega))) (fun _ h => h) (by kernel_rfl) rfl ?_
      refine zN ?_
      refine K.d_pure 7 rfl (K.mul_i64 rfl rfl (by omega)) (by kernel_rfl) rfl ?_
      refine zn ?_
      refine K.d_pure 17 rfl (K.sub_i64 rfl rfl (by omega)) (by kernel_rfl) rfl ?_
      refine zn ?_
      refine K.d_pure 22 rfl (K.Pure.eq (K.sub_i64 rfl rfl (by omega)) (show _ = Value.int .i64 (more2 m l (m.ss.getD j default).lo i u) from rfl)) (by kernel_rfl) rfl ?_
      refine zn ?_
      refine K.d_pure 23 rfl (K.assign) (by kernel_rfl) rfl ?_
      refine zn ?_
      refine K.d_done (by kernel_rfl) ?_
      refine R.out ?_
      refine R.norm_then ?_
      refine R.seq ?_
      refine R.region_lit rfl ?_
      refine qm ?_
      refine qp (K.geq rfl rfl) ?_
      refine K.seq_nil ?_
      refine R.out ?_
      refine R.norm_then ?_
      refine R.cond rfl (fun ht62 => ?_) (fun ht62 => ?_)
      · try replace ht62 := of_decide_eq_true ht62
        have hdv := div_bd (a := more2 m l (m.ss.getD j default).lo i u) (A := 21600) (b := u.2.1) (by omega) (by omega)
        refine R.draw_L [7] Tryd_mixed rfl ?_
        refine K.d_mem 0 rfl (K.load1_own one_3 rfl (K.m3) rfl) (fun _ h => h) (by kernel_rfl) (by kernel_rfl) rfl ?_
        refine zN ?_
        refine K.d_pure 1 rfl (K.move) (by kernel_rfl) rfl ?_
        refine zn ?_
        refine K.d_pure 2 rfl (K.fieldAddr_lit fo_114_1 rfl) (by kernel_rfl) rfl ?_
        refine zn ?_
        refine K.d_mem 3 rfl (K.load1_own one_3 rfl (K.m0) rfl) (fun _ h => h) (by kernel_rfl) (by kernel_rfl) rfl ?_
        refine zN ?_
        refine K.d_pure 4 rfl (K.quo_i64 rfl rfl (by omega) (by omega) (by omega)) (by kernel_rfl) rfl ?_
        refine zn ?_
        refine K.d_pure 5 rfl (K.add_i64 rfl rfl (by omega)) (by kernel_rfl) rfl ?_
        refine zn ?_
        refine K.d_pure 6 rfl (K.max_int rfl rfl) (by kernel_rfl) rfl ?_
        refine zn ?_
        refine K.d_last 7 rfl (K.store sz_3 rfl rfl rfl rfl (K.rp3)) rfl (by kernel_rfl) rfl ?_
        intro _ _
        refine zN ?_
        refine K.d_done (by kernel_rfl) ?_
        refine R.out ?_
        refine R.norm_block ?_
        have e1 : needAK m l i j (needK m l i j) (k + 1) = max (needAK m l i j (needK m l i j) k) (more2 m l (m.ss.getD j default).lo i u / u.2.1 + 1) := by rw [need_next hu, needE, if_pos ht62]
        exact R.rp_normal (L := [K.blk b9 63 [.int .i64 (m.ss.getD j default).x, .int .i64 (m.ss.getD j default).y, .int .i64 (m.ss.getD j default).lo, .int .i64 (m.ss.getD j default).hi], K.blk b7 3 [.int .i64 (hgS m i)], K.blk b6 3 [.int .i64 (max (needAK m l i j (needK m l i j) k) (more2 m l (m.ss.getD j default).lo i u / u.2.1 + 1))], K.blk b4 98 (ln l), K.blk b3 90 [.pointer (some ⟨b, 0, none⟩)], R.dfs bs]) (by rw [e1]) (by repeat (first | exact List.Sublist.refl _ | apply List.Sublist.cons))
      try replace ht62 := of_decide_eq_false ht62
      refine R.skip ?_
      refine R.norm_block ?_
      have e1 : needAK m l i j (needK m l i j) (k + 1) = needAK m l i j (needK m l i j) k := by rw [need_next hu, needE, if_neg ht62]; omega
      exact R.rp_normal (L := [K.blk b9 63 [.int .i64 (m.ss.getD j default).x, .int .i64 (m.ss.getD j default).y, .int .i64 (m.ss.getD j default).lo, .int .i64 (m.ss.getD j default).hi], K.blk b7 3 [.int .i64 (hgS m i)], K.blk b6 3 [.int .i64 (needAK m l i j (needK m l i j) k)], K.blk b4 98 (ln l), K.blk b3 90 [.pointer (some ⟨b, 0, none⟩)], R.dfs bs]) (by rw [e1]) (by repeat (first | exact List.Sublist.refl _ | apply List.Sublist.cons))
    · intro bD L hJ
      subst hJ
      rw [need_all]
      try dsimp only [List.cons_append, List.nil_append]
      try dsimp only [setd, setn, ev, nth, over, cl, eI, eP, eT, eN, eS, setM, setF, List.map, List.append, List.drop, List.take]
      refine R.markJ (L := [K.blk b7 3 [.int .i64 (hgS m i)], K.blk b6 3 [.int .i64 (needA m l i j (needK m l i j))], K.blk b4 98 (ln l), K.blk b3 90 [.pointer (some ⟨b, 0, none⟩)]]) (K.st_sub (List.Sublist.cons _ (List.Sublist.cons_cons _ (List.Sublist.cons_cons _ (List.Sublist.cons_cons _ (List.Sublist.cons_cons _ (List.Sublist.cons_cons _ (List.Sublist.cons _ (List.Sublist.cons _ (List.Sublist.cons _ (List.Sublist.cons_cons _ (List.Sublist.refl _)))))))))))) ?_
      try dsimp only [List.cons_append, List.nil_append]
      refine zN ?_
      refine R.norm_block ?_
      refine R.norm_block ?_
      refine R.norm_then ?_
      refine R.region_lit rfl ?_
      refine qp (K.add_i64 rfl rfl (by omega)) ?_
      refine qm ?_
      refine K.seq_nil ?_
      refine R.out ?_
      exact R.round_endD (L'' := [K.blk b7 3 [.int .i64 (hgS m i)], K.blk b6 3 [.int .i64 (needK m l i (j + 1))], K.blk b4 98 (ln l), K.blk b3 90 [.pointer (some ⟨b, 0, none⟩)]]) [.int .i64 ((j : Int) + 1)] ⟨j + 1, rfl, rfl, by omega⟩ (by simp [K.nth, intOf]; omega) (by repeat (first | exact List.Sublist.refl _ | apply List.Sublist.cons)) (by kernel_rfl)
    · intro bD cX L hJ
      exact hJ.elim
      skip
  try replace ht27 := of_decide_eq_false ht27
  refine R.exit ?_
  refine R.exit_then ?_
  refine R.exit_then ?_
  refine R.exit_here ?_
  refine R.norm_then ?_
  refine R.seq ?_
  refine R.region_lit rfl ?_
  refine K.seq_sil (K.load1_own one_3 rfl (K.m1) rfl) rfl ?_
  refine zN ?_
  refine K.seq_st (K.store sz_3 rfl rfl rfl rfl (K.rp1)) rfl ?_
  refine zN ?_
  refine K.seq_nil ?_
  refine R.out ?_
  refine R.norm_then ?_
  refine R.ret ?_
  refine R.end_retD rfl (by dsimp only [List.dropLast]; exact (fun w hw => K.res_c rfl rfl (K.run_cell1 one_3 rfl (K.m1) w hw))) ?_
  dsimp only [List.dropLast]
  have e0 : j = m.ss.length := by omega
  exact K.gives_i rfl (by rw [e0]; rfl)

end Go.Proofs.YthkgnhcknkjgdaaDoor
