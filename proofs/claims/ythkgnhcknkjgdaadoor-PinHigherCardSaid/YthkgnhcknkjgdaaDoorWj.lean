/-
  Walks of the program's functions, printed by program: what each returns.
  Conditions stand in each theorem.
-/
import Derived.WalkArith
import Derived.Laws.Closers25b
import Derived.Test.YthkgnhcknkjgdaaDoorWi
set_option linter.unusedSimpArgs false
set_option linter.unusedVariables false
namespace Go.Proofs.YthkgnhcknkjgdaaDoor
open Go.RowKit Go
open Go.K (setd setn ev nth over cl eI eP eT setM setF)
attribute [local irreducible] K.blk K.row

set_option maxRecDepth 100000 in
theorem c69 {m : Mod} {A B C : Option Addr} {c d e : Nat} {b : Nat} {l : List Int} {x y eye : Int} {w : World} (hM : K.PtrL w [] ⟨b, 0, none⟩ (mdl m A B C c d e)) (hMb : b < w.heap.size) (hP : K.Rd w B 5 eN m.ps) (g : Good m) (hl : LB l) (hx : -20 ≤ x ∧ x ≤ 20) (hy : -20 ≤ y ∧ y ≤ 20) (he : 0 ≤ eye ∧ eye ≤ 3000) :
    Calls Tryd.prog 69 [.pointer (some ⟨b, 0, none⟩), .agg #[iI (l.getD 0 default), iI (l.getD 1 default), iI (l.getD 2 default), iI (l.getD 3 default), iI (l.getD 4 default), iI (l.getD 5 default)], .agg #[.int .i64 x, .int .i64 y], .int .i64 eye].toArray w (K.Gives (.int .i64 (setN (seesB m l x y eye) m.ps.length)) w) := by
  have hWy : ∀ k, k < m.ps.length → Way m x y k := fun k hk => ⟨g, hk, hx, hy⟩
  have hgn := g.n
  refine R.enter (args := [.pointer (some ⟨b, 0, none⟩), .agg #[iI (l.getD 0 default), iI (l.getD 1 default), iI (l.getD 2 default), iI (l.getD 3 default), iI (l.getD 4 default), iI (l.getD 5 default)], .agg #[.int .i64 x, .int .i64 y], .int .i64 eye]) Tryd.func69 rfl (m := 28) rfl ?_
  simp only [List.replicate, List.cons_append, List.nil_append]
  refine R.seq ?_
  refine R.region_lit rfl ?_
  refine K.seq_new (K.box) rfl ?_
  intro b5
  refine zN ?_
  refine K.seq_new (K.box) rfl ?_
  intro b6
  refine zN ?_
  refine qa ?_
  refine K.seq_nil ?_
  refine R.out ?_
  refine R.norm_then ?_
  refine R.scope ?_
  refine R.seq ?_
  refine R.label ?_
  refine R.norm_then ?_
  refine R.seq ?_
  refine R.seq ?_
  refine R.region_lit rfl ?_
  refine qm ?_
  refine qp (K.nilCheck rfl) ?_
  refine qp (K.fieldAddr_lit fo_101_0 rfl) ?_
  refine qp (K.fieldAddr_lit fo_26_3 rfl) ?_
  refine K.seq_sil (K.load_at one_23 rfl (hM.any) rfl) rfl ?_
  refine zN ?_
  refine qp (K.len_sl sl_23 rfl) ?_
  refine qm ?_
  refine K.seq_nil ?_
  refine R.out ?_
  refine R.norm_then ?_
  refine R.block ?_
  refine R.loopD [8, 16] [9, 17, 18, 19, 20, 21, 22, 23, 24, 26, 27, 28, 29, 30] (fun vi L => ∃ k : Nat, vi = [.int .i64 (setN (seesB m l x y eye) k), .int .i64 (k : Int)] ∧ L = [K.blk b6 80 [.int .i64 x, .int .i64 y], K.blk b5 98 (ln l)] ∧ k ≤ m.ps.length) (fun vi => m.ps.length - (intOf (K.nth vi 1)).toNat) ?_ ?_
  · exact ⟨0, rfl, rfl, Nat.zero_le _⟩
  intro vi vr L bs hJ
  obtain ⟨k, rfl, rfl, hkn⟩ := hJ
  try dsimp only [List.cons_append, List.nil_append]
  try dsimp only [setd, setn, ev, nth, over, cl, eI, eP, eT, eN, eS, setM, setF, List.map, List.append, List.drop, List.take]
  refine R.seq ?_
  refine R.region_lit rfl ?_
  refine qp (K.lss rfl rfl) ?_
  refine K.seq_nil ?_
  refine R.out ?_
  refine R.norm_then ?_
  refine R.seq ?_
  refine R.cond rfl (fun ht17 => ?_) (fun ht17 => ?_)
  · try replace ht17 := of_decide_eq_true ht17
    have hk : k < m.ps.length := by omega
    have hsb := setN_bd (p := (seesB m l x y eye)) (n := k) (by omega)
    refine R.skip ?_
    refine R.norm_then ?_
    refine R.seq ?_
    refine R.block ?_
    refine R.seq ?_
    refine R.region_lit rfl ?_
    refine qm ?_
    refine qa ?_
    refine K.seq_nil ?_
    refine R.out ?_
    refine R.norm_then ?_
    refine R.seq ?_
    refine R.seq ?_
    refine R.region_lit rfl ?_
    refine qm ?_
    refine K.seq_sil (K.loadA_own ag_98 rfl (K.m1) rfl) rfl ?_
    refine zN ?_
    refine K.seq_sil (K.loadA_own ag_80 rfl (K.m0) rfl) rfl ?_
    refine zN ?_
    iterate 2 refine qm ?_
    refine K.seq_loud (K.call_f cal_63 (fun F w hF hw => c63 w)) rfl ?_
    rintro ⟨q1, q2, q3, q4, q5⟩ _
    refine zN ?_
    refine K.seq_nil ?_
    refine R.out ?_
    refine R.norm_then ?_
    refine R.block ?_
    refine R.rangeC (gf := 96) (first := []) (cap := [.pointer (some ⟨q1, 0, none⟩), .pointer (some ⟨q2, 0, none⟩), .pointer (some ⟨q5, 0, none⟩), .pointer (some ⟨q3, 0, none⟩), .pointer (some ⟨q4, 0, none⟩)]) (enc := (fun n : Int => Value.int .i64 n)) (XS := hidesS m l x y eye k) rfl cal_96 [K.blk b6 80 [.int .i64 x, .int .i64 y], K.blk b5 98 (ln l), R.dfs bs] [K.blk q5 3 [.int .i64 (k : Int)], K.blk q4 3 [.int .i64 eye], K.blk q3 80 [.int .i64 x, .int .i64 y], K.blk q2 98 (ln l), K.blk q1 90 [.pointer (some ⟨b, 0, none⟩)]] (K.st_perm (show List.Perm [K.blk q5 3 [.int .i64 (k : Int)], K.blk q4 3 [.int .i64 eye], K.blk q3 80 [.int .i64 x, .int .i64 y], K.blk q2 98 (ln l), K.blk q1 90 [.pointer (some ⟨b, 0, none⟩)], K.blk b6 80 [.int .i64 x, .int .i64 y], K.blk b5 98 (ln l), R.dfs bs] ([K.blk b6 80 [.int .i64 x, .int .i64 y], K.blk b5 98 (ln l), R.dfs bs] ++ [K.blk q5 3 [.int .i64 (k : Int)], K.blk q4 3 [.int .i64 eye], K.blk q3 80 [.int .i64 x, .int .i64 y], K.blk q2 98 (ln l), K.blk q1 90 [.pointer (some ⟨b, 0, none⟩)]]) from (List.Perm.trans (List.perm_middle (l₁ := [_, _, _, _, _])) (List.Perm.cons _ (List.Perm.trans (List.perm_middle (l₁ := [_, _, _, _, _])) (List.Perm.cons _ (List.Perm.trans (List.perm_middle (l₁ := [_, _, _, _, _])) (List.Perm.cons _ (List.Perm.refl _))))))))) (R.fixC (R.fixC (R.fixC (R.fixC (R.fixC R.fixN))))) (c96 (c := c) (d := d) (e := e) (A := A) (B := B) (C := C) (b := b) (hWy k hk) hl he) (fun f w hf => ⟨hf.own1 K.m4, hf.own1 K.m3, hf.own1 K.m0, hf.own1 K.m2, hf.own1 K.m1, hf.old1 hM hMb, hP.pass hf.1⟩) (fun k L => k = 0 ∧ L = [K.blk b6 80 [.int .i64 x, .int .i64 y], K.blk b5 98 (ln l), R.dfs bs]) (fun cX L => cX = Code.exit 1 ∧ L = [K.blk b6 80 [.int .i64 x, .int .i64 y], K.blk b5 98 (ln l), R.dfs bs] ∧ hidesS m l x y eye k ≠ []) ?_ ?_ ?_ ?_
    · exact ⟨rfl, rfl⟩
    · intro k s L lr E hs hE hJ
      obtain ⟨rfl, rfl⟩ := hJ
      try dsimp only [List.cons_append, List.nil_append]
      try dsimp only [setd, setn, ev, nth, over, cl, eI, eP, eT, eN, eS, setM, setF, List.map, List.append, List.drop, List.take]
      refine R.skip ?_
      refine R.norm_then ?_
      refine R.bodyC' rfl (fun E hE => ?_)
      dsimp only [List.dropLast, List.cons_append, List.nil_append]
      refine zN ?_
      refine R.block ?_
      refine R.exit ?_
      refine R.exit_out rfl ?_
      refine R.rp_exit ⟨rfl, rfl, fun h => by rw [h] at hs; simp at hs⟩ (List.Sublist.refl _)
    · intro bD L hJ
      obtain ⟨hlen, rfl⟩ := hJ
      have hse : seesB m l x y eye k = true := by unfold seesB; rw [List.eq_nil_of_length_eq_zero hlen]; rfl
      try dsimp only [List.cons_append, List.nil_append]
      try dsimp only [setd, setn, ev, nth, over, cl, eI, eP, eT, eN, eS, setM, setF, List.map, List.append, List.drop, List.take]
      refine R.markJ (L := [K.blk b6 80 [.int .i64 x, .int .i64 y], K.blk b5 98 (ln l)]) (K.st_sub (List.Sublist.cons_cons _ (List.Sublist.cons_cons _ (List.Sublist.cons_cons _ (List.Sublist.cons _ (List.Sublist.cons _ (List.Sublist.cons _ (List.Sublist.cons _ (List.Sublist.cons _ (List.Sublist.cons_cons _ (List.Sublist.refl _))))))))))) ?_
      try dsimp only [List.cons_append, List.nil_append]
      refine zN ?_
      refine R.norm_block ?_
      refine R.norm_then ?_
      refine R.region_lit rfl ?_
      iterate 2 refine qm ?_
      refine qp (K.shl_int rfl rfl (by omega)) ?_
      refine qp (K.Pure.eq (K.or_int rfl rfl) (show _ = Value.int .i64 (setN (seesB m l x y eye) k + 2 ^ k) from by rw [or_bit (by omega) hsb.1 hsb.2])) ?_
      refine qa ?_
      refine K.seq_nil ?_
      refine R.out ?_
      refine R.norm_block ?_
      refine R.norm_then ?_
      refine R.region_lit rfl ?_
      refine qp (K.add_i64 rfl rfl (by omega)) ?_
      refine qm ?_
      refine K.seq_nil ?_
      refine R.out ?_
      first
        | (rw [← setN_yes hse]
           exact R.round_endD (L'' := [K.blk b6 80 [.int .i64 x, .int .i64 y], K.blk b5 98 (ln l)]) [.int .i64 (setN (seesB m l x y eye) (k + 1)), .int .i64 ((k : Int) + 1)] ⟨k + 1, rfl, rfl, by omega⟩ (by simp [K.nth, intOf]; omega) (List.Sublist.refl _) (by kernel_rfl))
        | exact R.round_endD (L'' := [K.blk b6 80 [.int .i64 x, .int .i64 y], K.blk b5 98 (ln l)]) [.int .i64 (setN (seesB m l x y eye) k), .int .i64 ((k : Int) + 1)] ⟨k + 1, by rw [setN_no hse]; rfl, rfl, by omega⟩ (by simp [K.nth, intOf]; omega) (List.Sublist.refl _) (by kernel_rfl)
    · intro bD cX L hJ
      obtain ⟨rfl, rfl, hne⟩ := hJ
      have hse : seesB m l x y eye k = false := by unfold seesB; rw [List.isEmpty_eq_false_iff]; exact hne
      try dsimp only [List.cons_append, List.nil_append]
      try dsimp only [setd, setn, ev, nth, over, cl, eI, eP, eT, eN, eS, setM, setF, List.map, List.append, List.drop, List.take]
      refine R.markJ (L := [K.blk b6 80 [.int .i64 x, .int .i64 y], K.blk b5 98 (ln l)]) (K.st_sub (List.Sublist.cons_cons _ (List.Sublist.cons_cons _ (List.Sublist.cons_cons _ (List.Sublist.cons _ (List.Sublist.cons _ (List.Sublist.cons _ (List.Sublist.cons _ (List.Sublist.cons _ (List.Sublist.cons_cons _ (List.Sublist.refl _))))))))))) ?_
      try dsimp only [List.cons_append, List.nil_append]
      refine zN ?_
      refine R.exit ?_
      refine R.exit_out rfl ?_
      refine R.exit_then ?_
      refine R.exit_here ?_
      refine R.norm_then ?_
      refine R.region_lit rfl ?_
      refine qp (K.add_i64 rfl rfl (by omega)) ?_
      refine qm ?_
      refine K.seq_nil ?_
      refine R.out ?_
      first
        | (rw [← setN_yes hse]
           exact R.round_endD (L'' := [K.blk b6 80 [.int .i64 x, .int .i64 y], K.blk b5 98 (ln l)]) [.int .i64 (setN (seesB m l x y eye) (k + 1)), .int .i64 ((k : Int) + 1)] ⟨k + 1, rfl, rfl, by omega⟩ (by simp [K.nth, intOf]; omega) (List.Sublist.refl _) (by kernel_rfl))
        | exact R.round_endD (L'' := [K.blk b6 80 [.int .i64 x, .int .i64 y], K.blk b5 98 (ln l)]) [.int .i64 (setN (seesB m l x y eye) k), .int .i64 ((k : Int) + 1)] ⟨k + 1, by rw [setN_no hse]; rfl, rfl, by omega⟩ (by simp [K.nth, intOf]; omega) (List.Sublist.refl _) (by kernel_rfl)
  try replace ht17 := of_decide_eq_false ht17
  refine R.exit ?_
  refine R.exit_then ?_
  refine R.exit_then ?_
  refine R.exit_here ?_
  refine R.norm_then ?_
  refine R.seq ?_
  refine R.region_lit rfl ?_
  refine qm ?_
  refine qa ?_
  refine K.seq_nil ?_
  refine R.out ?_
  refine R.norm_then ?_
  refine R.ret ?_
  refine R.ng_ret ?_
  refine R.end_retD rfl (by dsimp only [List.dropLast]; exact (fun w _ => K.res_tmp rfl w)) ?_
  dsimp only [List.dropLast]
  have e0 : k = m.ps.length := by omega
  exact K.gives_i rfl (by rw [e0])

end Go.Proofs.YthkgnhcknkjgdaaDoor
