/-
  Walks of the program's functions, printed by program: what each returns.
  Conditions stand in each theorem.
-/
import Derived.WalkArith
import Derived.Laws.Closers25b
import Derived.Test.YtoemnobfnnjopaaDoorK9
import Derived.Test.YtoemnobfnnjopaaDoorWi
set_option linter.unusedSimpArgs false
set_option linter.unusedVariables false
namespace Go.Proofs.YtoemnobfnnjopaaDoor
open Go.RowKit Go
open Go.K (setd setn ev nth over cl eI eP eT setM setF)
attribute [local irreducible] K.blk K.row
theorem mk1_26 : K.mk1 Tryd.prog 26 = some (3, 8, .int .i64 0) := by kernel_rfl
/-- What Fill has after i points. -/
def fillN (r : List RvT) (i : Nat) : List Int := (List.range i).map fun j => fillI r j (dep r j + 1)
theorem fillN_s {r : List RvT} {i : Nat} : fillN r (i + 1) = fillN r i ++ [fillI r i (dep r i + 1)] := by unfold fillN; rw [List.range_succ, List.map_append]; rfl
theorem fillN_len {r : List RvT} {i : Nat} : (fillN r i).length = i := by unfold fillN; rw [List.length_map, List.length_range]
theorem fillN_all {r : List RvT} (g : Good r) : fillN r r.length = fillS r (ownS r) := by
  unfold fillN fillS; apply List.map_congr_left; intro p hp; exact fillI_eq g (List.mem_range.1 hp)
/-- The greatest heights, for the first k points. -/
def capL (r : List RvT) (k : Nat) : List Int := (List.range r.length).map fun j => if j < k then 9000 else 0
theorem capL_len {r : List RvT} {k : Nat} : (capL r k).length = r.length := by unfold capL; rw [List.length_map, List.length_range]
theorem cap_0 {r : List RvT} : List.replicate r.length (0 : Int) = capL r 0 := by
  unfold capL
  apply List.ext_getElem?
  intro j
  rw [List.getElem?_replicate, List.getElem?_map]
  by_cases h : j < r.length
  · rw [if_pos h, List.getElem?_range h]; simp
  · rw [if_neg h, List.getElem?_eq_none (by simp; omega)]; rfl
theorem cap_set {r : List RvT} {k : Nat} : (capL r k).set k 9000 = capL r (k + 1) := by
  unfold capL
  apply List.ext_getElem?
  intro j
  rw [List.getElem?_set, List.length_map, List.length_range, List.getElem?_map, List.getElem?_map]
  by_cases h : j < r.length
  · rw [List.getElem?_range h]
    by_cases h2 : k = j
    · rw [if_pos h2, if_pos (by omega)]; simp; omega
    · rw [if_neg h2]
      simp only [Option.map_some]
      by_cases h3 : j < k
      · rw [if_pos h3, if_pos (by omega)]
      · rw [if_neg h3, if_neg (by omega)]
  · rw [List.getElem?_eq_none (by simp; omega)]
    split
    · rename_i h1; rw [if_neg (by omega)]; rfl
    · rfl
theorem cap_all {r : List RvT} : capL r r.length = cutL r 0 0 := by
  rw [cutL_0]
  unfold capL; apply List.map_congr_left; intro p hp
  rw [if_pos (List.mem_range.1 hp)]; rfl
theorem eI_at {xs : List Int} {k : Nat} (h : k < xs.length) : (List.drop 0 (xs.flatMap K.eI))[0 + k * 1]? = some (.int .i64 (xs.getD k default)) := by
  rw [List.drop_zero, show 0 + k * 1 = k by omega]
  induction xs generalizing k with
  | nil => simp at h
  | cons x xs ih =>
    rw [List.flatMap_cons]
    cases k with
    | zero => rfl
    | succ k => rw [List.getD_cons_succ]; exact ih (by simpa using h)
theorem eI_len {xs : List Int} : (xs.flatMap K.eI).length = xs.length := by
  have := K.flat_len (e := K.eI) (size := 1) (fun _ => rfl) xs
  rw [this]; omega

set_option maxRecDepth 100000 in
theorem e21 {r : List RvT} {A : Option Addr} {c : Nat} {w : World} (hR : K.Rd w A 4 eR r) (hn : r.length ≤ 4611686018427387904) (hc : (chk r).2.2 ≠ 0) :
    Calls Tryd.prog 21 [.slice A r.length c].toArray w (K.RetSE 3 1 K.eI (fillL r) (fillE r) w) := by
  have he : fillE r = (chk r).2.2 := by unfold fillE; rw [if_pos hc]
  refine R.enter (args := [.slice A r.length c]) Tryd.func21 rfl (m := 46) rfl ?_
  simp only [List.replicate, List.cons_append, List.nil_append]
  refine R.seq ?_
  refine R.region_lit rfl ?_
  refine K.seq_new (K.box) rfl ?_
  intro b1
  refine zN ?_
  iterate 2 refine qa ?_
  refine K.seq_nil ?_
  refine R.out ?_
  refine R.norm_then ?_
  refine R.seq ?_
  refine R.region_lit rfl ?_
  refine K.seq_sil (K.load1_own one_22 rfl (K.m0) rfl) rfl ?_
  refine zN ?_
  refine K.seq_call (K.call_g cal_52 (fun F w hF hw => e52 (hR.pass hw) hn hc)) rfl ?_
  refine zN ?_
  refine qm ?_
  refine qx ?_
  refine qx ?_
  iterate 2 refine qa ?_
  refine K.seq_nil ?_
  refine R.out ?_
  refine R.norm_then ?_
  refine R.seq ?_
  refine R.seq ?_
  refine R.region_lit rfl ?_
  refine qm ?_
  refine qp (K.neq rfl rfl) ?_
  refine K.seq_nil ?_
  refine R.out ?_
  refine R.norm_then ?_
  refine R.cond_true (by exact congrArg Value.bool (decide_eq_true hc)) ?_
  refine R.seq ?_
  refine R.region_lit rfl ?_
  refine qm ?_
  iterate 2 refine qa ?_
  refine K.seq_nil ?_
  refine R.out ?_
  refine R.norm_then ?_
  refine R.ret ?_
  refine R.ret_then ?_
  refine R.end_ret (fun w _ => K.res_tmp2 rfl w) ?_
  exact K.rets_se0 (by unfold fillL; rw [if_neg (by omega)]) he.symm rfl

set_option maxRecDepth 100000 in
set_option maxHeartbeats 1000000 in
theorem g21 {r : List RvT} {A : Option Addr} {c : Nat} {w : World} (hR : K.Rd w A 4 eR r) (hn : r.length ≤ 4611686018427387904) (hc : (chk r).2.2 = 0) :
    Calls Tryd.prog 21 [.slice A r.length c].toArray w (K.RetSE 3 1 K.eI (fillL r) (fillE r) w) := by
  have g : Good r := chk_good hc
  have hgn := g.n
  refine R.enter (args := [.slice A r.length c]) Tryd.func21 rfl (m := 46) rfl ?_
  simp only [List.replicate, List.cons_append, List.nil_append]
  refine R.seq ?_
  refine R.region_lit rfl ?_
  refine K.seq_new (K.box) rfl ?_
  intro b1
  refine zN ?_
  iterate 2 refine qa ?_
  refine K.seq_nil ?_
  refine R.out ?_
  refine R.norm_then ?_
  refine R.seq ?_
  refine R.region_lit rfl ?_
  refine K.seq_sil (K.load1_own one_22 rfl (K.m0) rfl) rfl ?_
  refine zN ?_
  refine K.seq_loud (K.call_f cal_52 (fun F w hF hw => g52 (hR.pass hw) hn hc)) rfl ?_
  rintro q _
  refine zN ?_
  refine qm ?_
  refine qx ?_
  refine qx ?_
  iterate 2 refine qa ?_
  refine K.seq_nil ?_
  refine R.out ?_
  refine R.norm_then ?_
  refine R.seq ?_
  refine R.seq ?_
  refine R.region_lit rfl ?_
  refine qm ?_
  refine qp (K.neq rfl rfl) ?_
  refine K.seq_nil ?_
  refine R.out ?_
  refine R.norm_then ?_
  refine R.cond_false (by rfl) ?_
  refine R.skip ?_
  refine R.norm_then ?_
  refine R.seq ?_
  refine R.seq ?_
  refine R.region_lit rfl ?_
  refine K.nil_row (e := 3) (size := 1) ?_
  refine K.seq_sil (K.load1_own one_22 rfl (K.m2) rfl) rfl ?_
  refine zN ?_
  refine qp (K.len_sl sl_22 rfl) ?_
  refine qm ?_
  refine K.seq_nil ?_
  refine R.out ?_
  refine R.norm_then ?_
  refine R.block ?_
  refine R.loopD [2, 19] [3, 5, 6, 7, 8, 20, 21, 22, 23, 24, 25, 26, 27, 30, 31, 32, 33, 34, 35, 36, 37, 38, 39, 40, 41, 42, 43, 44, 45] (fun vi L => ∃ (i : Nat) (Q1 : Option Addr) (q1 : Nat), vi = [.slice Q1 (fillN r i).length q1, .int .i64 (i : Int)] ∧ L = [K.row (.slice Q1 (fillN r i).length q1) 3 1 (fillN r i).length ((fillN r i).flatMap K.eI), K.blk q 79 (.slice A r.length c :: dcell (drT r)), K.blk b1 22 [.slice A r.length c]] ∧ i ≤ r.length ∧ ∀ j, j < i → fillI r j (dep r j + 1) ≤ 9000) (fun vi => r.length - (intOf (K.nth vi 1)).toNat) ?_ ?_
  · exact ⟨0, none, 0, rfl, rfl, Nat.zero_le _, fun j hj => absurd hj (Nat.not_lt_zero j)⟩
  intro vi vr L bs hJ
  obtain ⟨i, Q1, q1, rfl, rfl, hin, hall⟩ := hJ
  try dsimp only [List.cons_append, List.nil_append]
  try dsimp only [setd, setn, ev, nth, over, cl, eI, eP, eT, eR, setM, setF, List.map, List.append, List.drop, List.take]
  refine R.seq ?_
  refine R.region_lit rfl ?_
  refine qp (K.lss rfl rfl) ?_
  refine K.seq_nil ?_
  refine R.out ?_
  refine R.norm_then ?_
  refine R.seq ?_
  refine R.cond rfl (fun ht20 => ?_) (fun ht20 => ?_)
  · try replace ht20 := of_decide_eq_true ht20
    have hi : i < r.length := by omega
    refine R.skip ?_
    refine R.norm_then ?_
    refine R.seq ?_
    refine R.block ?_
    refine R.seq ?_
    refine R.region_lit rfl ?_
    refine qm ?_
    refine qa ?_
    refine K.seq_nil ?_
    refine R.out ?_
    refine R.norm_then ?_
    refine R.seq ?_
    refine R.region_lit rfl ?_
    refine K.seq_new (K.alloc zr_3) rfl ?_
    intro b6
    refine zN ?_
    refine K.seq_st (K.store sz_3 rfl rfl rfl rfl (K.rp0)) rfl ?_
    refine zN ?_
    refine K.seq_nil ?_
    refine R.out ?_
    refine R.norm_then ?_
    refine R.seq ?_
    refine R.seq ?_
    refine R.region_lit rfl ?_
    refine qm ?_
    refine qp (K.nilCheck rfl) ?_
    refine qp (K.fieldAddr_lit fo_79_0 rfl) ?_
    refine K.seq_sil (K.load1_own one_75 rfl (K.m2) rfl) rfl ?_
    refine zN ?_
    refine qm ?_
    refine K.seq_loud (K.call_f cal_57 (fun F w hF hw => c57 w)) rfl ?_
    rintro ⟨q4, q2⟩ _
    refine zN ?_
    refine K.seq_nil ?_
    refine R.out ?_
    refine R.norm_then ?_
    refine R.block ?_
    refine R.rangeX (gf := 84) (first := []) (cap := [.pointer (some ⟨q2, 0, none⟩), .pointer (some ⟨q4, 0, none⟩)]) (enc := (fun s : Int × Int => [Value.int .i64 s.1, Value.int .i64 s.2])) (XS := belS r i) (ps := [28, 29]) rfl cal_84 [K.blk b6 3 [.int .i64 0], K.row (.slice Q1 (fillN r i).length q1) 3 1 (fillN r i).length ((fillN r i).flatMap K.eI), K.blk q 79 (.slice A r.length c :: dcell (drT r)), K.blk b1 22 [.slice A r.length c], R.dfs bs] [K.blk q4 75 [.slice A r.length c]] (K.st_perm (show List.Perm [K.blk q2 3 [.int .i64 (i : Int)], K.blk q4 75 [.slice A r.length c], K.blk b6 3 [.int .i64 0], K.row (.slice Q1 (fillN r i).length q1) 3 1 (fillN r i).length ((fillN r i).flatMap K.eI), K.blk q 79 (.slice A r.length c :: dcell (drT r)), K.blk b1 22 [.slice A r.length c], R.dfs bs] ([K.blk b6 3 [.int .i64 0], K.row (.slice Q1 (fillN r i).length q1) 3 1 (fillN r i).length ((fillN r i).flatMap K.eI), K.blk q 79 (.slice A r.length c :: dcell (drT r)), K.blk b1 22 [.slice A r.length c], R.dfs bs] ++ ([K.blk q4 75 [.slice A r.length c]] ++ [K.blk q2 3 [.int .i64 (i : Int)]])) from (List.Perm.trans (List.perm_middle (l₁ := [_, _])) (List.Perm.cons _ (List.Perm.trans (List.perm_middle (l₁ := [_, _])) (List.Perm.cons _ (List.Perm.trans (List.perm_middle (l₁ := [_, _])) (List.Perm.cons _ (List.Perm.trans (List.perm_middle (l₁ := [_, _])) (List.Perm.cons _ (List.Perm.trans (List.perm_middle (l₁ := [_, _])) (List.Perm.cons _ (List.Perm.trans (List.perm_middle (l₁ := [_])) (List.Perm.cons _ (List.Perm.refl _))))))))))))))) (R.fixC R.fixN) (fun _ => rfl) (c84 (c := c) (A := A) (p := ⟨q4, 0, none⟩) (b := q2) g hi) (fun f w hf hb => ⟨hb, hf.own1 K.m0, hf.oldR hR⟩) (fun k L => L = [K.blk b6 3 [.int .i64 (fillI r i k)], K.row (.slice Q1 (fillN r i).length q1) 3 1 (fillN r i).length ((fillN r i).flatMap K.eI), K.blk q 79 (.slice A r.length c :: dcell (drT r)), K.blk b1 22 [.slice A r.length c], R.dfs bs]) (fun cX L => False) ?_ ?_ ?_ ?_
    · rfl
    · intro k s L lr E hs hE hJ
      subst hJ
      obtain ⟨hkd, rfl⟩ := bel_some hs
      have hsl := stps_lt g hi k
      have hpk := g.p _ hsl
      have hdl := DM_le g hi
      have hdk := DM_le g hsl
      dsimp only [R.setP]
      try dsimp only [List.cons_append, List.nil_append]
      try dsimp only [setd, setn, ev, nth, over, cl, eI, eP, eT, eR, setM, setF, List.map, List.append, List.drop, List.take]
      refine R.seq ?_
      refine R.region_lit rfl ?_
      refine qa ?_
      refine K.seq_nil ?_
      refine R.out ?_
      refine R.norm_then ?_
      refine R.region_lit rfl ?_
      refine qa ?_
      refine K.seq_nil ?_
      refine R.out ?_
      refine R.norm_then ?_
      refine R.bodyC' rfl (fun E hE => ?_)
      dsimp only [List.dropLast, List.cons_append, List.nil_append]
      refine zN ?_
      refine R.block ?_
      refine R.draw_L [9] Tryd_mixed rfl ?_
      refine K.d_mem 0 rfl (K.load1_own one_3 rfl (K.m0) rfl) (fun _ h => h) (by kernel_rfl) (by kernel_rfl) rfl ?_
      refine zN ?_
      refine K.d_mem 1 rfl (K.load1_own one_22 rfl (K.m3) rfl) (fun _ h => h) (by kernel_rfl) (by kernel_rfl) rfl ?_
      refine zN ?_
      refine K.d_pure 2 rfl (K.move) (by kernel_rfl) rfl ?_
      refine zn ?_
      refine K.d_ix (M := []) 3 (stps r k i) rfl hR.sl sl_22 rfl rfl (by omega) (by omega) (by kernel_rfl) rfl ?_
      intro p33 hp33
      refine zN ?_
      refine K.d_pure 4 rfl (K.fieldAddr fo_44_3 rfl) (by kernel_rfl) rfl ?_
      refine zn ?_
      refine K.d_mem 5 rfl (K.load1 one_3 rfl ((K.PtrL.fld hp33 (k := 3)).any)) (fun _ h => h) (by kernel_rfl) (by kernel_rfl) rfl ?_
      refine zN ?_
      refine K.d_pure 6 rfl (K.move) (by kernel_rfl) rfl ?_
      refine zn ?_
      refine K.d_pure 7 rfl (K.add_i64 rfl rfl (by omega)) (by kernel_rfl) rfl ?_
      refine zn ?_
      refine K.d_pure 8 rfl (K.max_int rfl rfl) (by kernel_rfl) rfl ?_
      refine zn ?_
      refine K.d_last 9 rfl (K.store sz_3 rfl rfl rfl rfl (K.rp0)) rfl (by kernel_rfl) rfl ?_
      intro _ _
      refine zN ?_
      refine K.d_done (by kernel_rfl) ?_
      refine R.out ?_
      refine R.norm_block ?_
      exact R.rp_normal (L := [K.blk b6 3 [.int .i64 (fillI r i (k + 1))], K.row (.slice Q1 (fillN r i).length q1) 3 1 (fillN r i).length ((fillN r i).flatMap K.eI), K.blk q 79 (.slice A r.length c :: dcell (drT r)), K.blk b1 22 [.slice A r.length c], R.dfs bs]) rfl (List.Sublist.refl _)
    · intro bD L hJ
      subst hJ
      rw [bel_len]
      have hfb := fillI_bd g hi (dep r i + 1)
      try dsimp only [List.cons_append, List.nil_append]
      try dsimp only [setd, setn, ev, nth, over, cl, eI, eP, eT, eR, setM, setF, List.map, List.append, List.drop, List.take]
      refine R.markJ (L := [K.blk b6 3 [.int .i64 (fillI r i (dep r i + 1))], K.row (.slice Q1 (fillN r i).length q1) 3 1 (fillN r i).length ((fillN r i).flatMap K.eI), K.blk q 79 (.slice A r.length c :: dcell (drT r)), K.blk b1 22 [.slice A r.length c]]) (K.st_sub (List.Sublist.cons_cons _ (List.Sublist.cons_cons _ (List.Sublist.cons_cons _ (List.Sublist.cons_cons _ (List.Sublist.cons_cons _ (List.Sublist.cons _ (List.Sublist.cons_cons _ (List.Sublist.refl _))))))))) ?_
      try dsimp only [List.cons_append, List.nil_append]
      refine zN ?_
      refine R.norm_block ?_
      refine R.norm_then ?_
      refine R.seq ?_
      refine R.seq ?_
      refine R.region_lit rfl ?_
      refine K.seq_sil (K.load1_own one_3 rfl (K.m0) rfl) rfl ?_
      refine zN ?_
      refine qp (K.gtr rfl rfl) ?_
      refine K.seq_nil ?_
      refine R.out ?_
      refine R.norm_then ?_
      refine R.cond rfl (fun ht40 => ?_) (fun ht40 => ?_)
      · try replace ht40 := of_decide_eq_true ht40
        refine R.seq ?_
        refine R.region_lit rfl ?_
        iterate 2 refine qa ?_
        refine K.seq_nil ?_
        refine R.out ?_
        refine R.norm_then ?_
        refine R.ret ?_
        refine R.ret_then ?_
        refine R.ret_block ?_
        refine R.ret_then ?_
        refine R.ret_then ?_
        refine R.ret_block ?_
        refine R.ret_then ?_
        refine R.end_retD rfl (by dsimp only [List.dropLast]; exact (fun w _ => K.res_tmp2 rfl w)) ?_
        dsimp only [List.dropLast]
        have he : fillE r = 9 := fillE_9 g hc hi ht40
        exact K.rets_se0 (by unfold fillL; rw [if_neg (by omega)]) he.symm rfl
      try replace ht40 := of_decide_eq_false ht40
      refine R.skip ?_
      refine R.norm_then ?_
      refine R.region_lit rfl ?_
      refine qm ?_
      refine K.seq_sil (K.load1_own one_3 rfl (K.m0) rfl) rfl ?_
      refine zN ?_
      refine K.seq_new (K.buildSlice (bs1 _)) rfl ?_
      intro b43
      refine zN ?_
      refine K.seq_upd (K.append el_26 rfl rfl (K.PtrL.own' (K.m0)) rfl rfl (by decide) (by rw [fillN_len]; omega) (by rw [fillN_len]; omega) (fun _ _ => K.rp2)) rfl ?_
      rintro ⟨g44, c44⟩ _
      refine zN ?_
      refine qa ?_
      refine K.seq_nil ?_
      refine R.out ?_
      refine R.norm_block ?_
      refine R.norm_then ?_
      refine R.region_lit rfl ?_
      refine qp (K.add_i64 rfl rfl (by omega)) ?_
      refine qm ?_
      refine K.seq_nil ?_
      refine R.out ?_
      have hle : fillI r i (dep r i + 1) ≤ 9000 := by omega
      exact R.round_endD (L'' := [K.row (.slice (some ⟨g44, 0, none⟩) ((fillN r i).length + 1) c44) 3 1 ((fillN r i).length + 1) ((fillN r i).flatMap K.eI ++ [.int .i64 (fillI r i (dep r i + 1))]), K.blk q 79 (.slice A r.length c :: dcell (drT r)), K.blk b1 22 [.slice A r.length c]]) [.slice (some ⟨g44, 0, none⟩) ((fillN r i).length + 1) c44, .int .i64 ((i : Int) + 1)] ⟨i + 1, some ⟨g44, 0, none⟩, c44, by rw [fillN_s, List.length_append]; rfl, by rw [fillN_s, List.length_append, List.flatMap_append]; rfl, by omega, K.lt_succ_case hall hle⟩ (by simp [K.nth, intOf]; omega) (List.Sublist.cons _ (List.Sublist.cons _ (List.Sublist.refl _))) (by kernel_rfl)
    · intro bD cX L hJ
      exact hJ.elim
      skip
  try replace ht20 := of_decide_eq_false ht20
  refine R.exit ?_
  refine R.exit_then ?_
  refine R.exit_then ?_
  refine R.exit_here ?_
  refine R.norm_then ?_
  refine R.seq ?_
  refine R.region_lit rfl ?_
  refine qm ?_
  iterate 2 refine qa ?_
  refine K.seq_nil ?_
  refine R.out ?_
  refine R.norm_then ?_
  refine R.ret ?_
  refine R.end_retD rfl (by dsimp only [List.dropLast]; exact (fun w _ => K.res_tmp2 rfl w)) ?_
  dsimp only [List.dropLast]
  have e0 : i = r.length := by omega
  subst e0
  have he : fillE r = 0 := fillE_0 g hc hall
  have hl : fillL r = fillN r r.length := by unfold fillL; rw [if_pos he, fillN_all g]
  rw [hl, he]
  exact K.rets_se K.m0 rfl rfl rfl rfl

theorem c21 {r : List RvT} {A : Option Addr} {c : Nat} {w : World} (hR : K.Rd w A 4 eR r) (hn : r.length ≤ 4611686018427387904) : Calls Tryd.prog 21 [.slice A r.length c].toArray w (K.RetSE 3 1 K.eI (fillL r) (fillE r) w) := by
  by_cases hc : (chk r).2.2 = 0
  · exact g21 hR hn hc
  · exact e21 hR hn hc


set_option maxRecDepth 100000 in
theorem e23 {r : List RvT} {A : Option Addr} {c : Nat} {w : World} (hR : K.Rd w A 4 eR r) (hn : r.length ≤ 4611686018427387904) (hc : (chk r).2.2 ≠ 0) :
    Calls Tryd.prog 23 [.slice A r.length c].toArray w (K.RetSE 3 1 K.eI (carveL r) (carveE r) w) := by
  have he : carveE r = (chk r).2.2 := by unfold carveE; rw [if_pos hc]
  refine R.enter (args := [.slice A r.length c]) Tryd.func23 rfl (m := 65) rfl ?_
  simp only [List.replicate, List.cons_append, List.nil_append]
  refine R.seq ?_
  refine R.region_lit rfl ?_
  refine K.seq_new (K.alloc zr_26) rfl ?_
  intro b2
  refine zN ?_
  refine K.seq_new (K.alloc zr_23) rfl ?_
  intro b3
  refine zN ?_
  refine K.seq_nil ?_
  refine R.out ?_
  refine R.norm_then ?_
  refine R.seq ?_
  refine R.region_lit rfl ?_
  refine qm ?_
  refine K.seq_call (K.call_g cal_52 (fun F w hF hw => e52 (hR.pass hw) hn hc)) rfl ?_
  refine zN ?_
  refine qm ?_
  refine qx ?_
  refine qx ?_
  iterate 2 refine qa ?_
  refine K.seq_nil ?_
  refine R.out ?_
  refine R.norm_then ?_
  refine R.seq ?_
  refine R.seq ?_
  refine R.region_lit rfl ?_
  refine qm ?_
  refine qp (K.neq rfl rfl) ?_
  refine K.seq_nil ?_
  refine R.out ?_
  refine R.norm_then ?_
  refine R.cond_true (by exact congrArg Value.bool (decide_eq_true hc)) ?_
  refine R.seq ?_
  refine R.region_lit rfl ?_
  refine qm ?_
  refine K.seq_st (K.store sz_26 rfl rfl rfl rfl (K.rp1)) rfl ?_
  refine zN ?_
  refine K.seq_st (K.store sz_23 rfl rfl rfl rfl (K.rp0)) rfl ?_
  refine zN ?_
  refine K.seq_nil ?_
  refine R.out ?_
  refine R.norm_then ?_
  refine R.ret ?_
  refine R.ret_then ?_
  refine R.end_ret (fun w hw => K.res_cc rfl rfl rfl (K.run_cell1 one_26 rfl (K.m1) w hw) (K.run_cell1 one_23 rfl (K.m0) w hw)) ?_
  exact K.rets_se0 (by unfold carveL; rw [if_neg (by omega)]) he.symm rfl

set_option maxRecDepth 100000 in
set_option maxHeartbeats 1000000 in
theorem g23 {r : List RvT} {A : Option Addr} {c : Nat} {w : World} (hR : K.Rd w A 4 eR r) (hn : r.length ≤ 4611686018427387904) (hc : (chk r).2.2 = 0) :
    Calls Tryd.prog 23 [.slice A r.length c].toArray w (K.RetSE 3 1 K.eI (carveL r) (carveE r) w) := by
  have g : Good r := chk_good hc
  have hgn := g.n
  refine R.enter (args := [.slice A r.length c]) Tryd.func23 rfl (m := 65) rfl ?_
  simp only [List.replicate, List.cons_append, List.nil_append]
  refine R.seq ?_
  refine R.region_lit rfl ?_
  refine K.seq_new (K.alloc zr_26) rfl ?_
  intro b2
  refine zN ?_
  refine K.seq_new (K.alloc zr_23) rfl ?_
  intro b3
  refine zN ?_
  refine K.seq_nil ?_
  refine R.out ?_
  refine R.norm_then ?_
  refine R.seq ?_
  refine R.region_lit rfl ?_
  refine qm ?_
  refine K.seq_loud (K.call_f cal_52 (fun F w hF hw => g52 (hR.pass hw) hn hc)) rfl ?_
  rintro q _
  refine zN ?_
  refine qm ?_
  refine qx ?_
  refine qx ?_
  iterate 2 refine qa ?_
  refine K.seq_nil ?_
  refine R.out ?_
  refine R.norm_then ?_
  refine R.seq ?_
  refine R.seq ?_
  refine R.region_lit rfl ?_
  refine qm ?_
  refine qp (K.neq rfl rfl) ?_
  refine K.seq_nil ?_
  refine R.out ?_
  refine R.norm_then ?_
  refine R.cond_false (by rfl) ?_
  refine R.skip ?_
  refine R.norm_then ?_
  refine R.seq ?_
  refine R.region_lit rfl ?_
  refine qm ?_
  refine qp (K.len_sl sl_22 rfl) ?_
  refine K.seq_new (K.mkSlice (n := r.length) mk1_26 rfl rfl (by omega) (by omega)) rfl ?_
  intro b22
  refine zN ?_
  rw [K.rep_int, cap_0]
  refine zN ?_
  refine K.seq_new (K.alloc zr_26) rfl ?_
  intro b6
  refine zN ?_
  refine K.seq_st (K.store sz_26 rfl rfl rfl rfl (K.rp0)) rfl ?_
  refine zN ?_
  refine K.seq_nil ?_
  refine R.out ?_
  refine R.norm_then ?_
  refine R.seq ?_
  refine R.seq ?_
  refine R.region_lit rfl ?_
  refine qm ?_
  refine qp (K.len_sl sl_22 rfl) ?_
  refine qm ?_
  refine K.seq_nil ?_
  refine R.out ?_
  refine R.norm_then ?_
  refine R.block ?_
  refine R.loopW [25] [7, 26, 27, 28, 29, 30, 31] (fun vi L => ∃ k : Nat, vi = [.int .i64 (k : Int)] ∧ L = [K.blk b6 26 [.slice (some ⟨b22, 0, none⟩) r.length r.length], K.blk b22 3 ((capL r k).flatMap K.eI), K.blk q 79 (.slice A r.length c :: dcell (drT r)), K.blk b3 23 [.int .i64 0], K.blk b2 26 [.slice none 0 0]] ∧ k ≤ r.length) (fun vi => r.length - (intOf (K.nth vi 0)).toNat) ?_ ?_
  · exact ⟨0, rfl, rfl, Nat.zero_le _⟩
  intro vi vr L hJ
  obtain ⟨k, rfl, rfl, hkn⟩ := hJ
  try dsimp only [setd, setn, ev, nth, over, cl, eI, eP, eT, eR, setM, setF, List.map, List.append, List.drop, List.take]
  refine R.seq ?_
  refine R.region_lit rfl ?_
  refine qp (K.lss rfl rfl) ?_
  refine K.seq_nil ?_
  refine R.out ?_
  refine R.norm_then ?_
  refine R.seq ?_
  refine R.cond rfl (fun ht26 => ?_) (fun ht26 => ?_)
  · try replace ht26 := of_decide_eq_true ht26
    have hk : k < r.length := by omega
    have hkl := @capL_len r k
    have hfit : 0 + k * 1 + 1 ≤ ((capL r k).flatMap K.eI).length := by rw [eI_len]; omega
    have hset : K.over ((capL r k).flatMap K.eI) (0 + k * 1) (K.cl (.int .i64 9000)) = (capL r (k + 1)).flatMap K.eI := by
      rw [← cap_set]
      exact K.set_cut0 (e := K.eI) (size := 1) (x := (9000 : Int)) (fun _ => rfl) (by omega)
    refine R.skip ?_
    refine R.norm_then ?_
    refine R.seq ?_
    refine R.block ?_
    refine R.seq ?_
    refine R.region_lit rfl ?_
    refine qm ?_
    refine qa ?_
    refine K.seq_nil ?_
    refine R.out ?_
    refine R.norm_then ?_
    refine R.region_lit rfl ?_
    refine K.seq_sil (K.load1_own one_26 rfl (K.m0) rfl) rfl ?_
    refine zN ?_
    refine qm ?_
    refine K.seq_pure (K.Pure.eq (K.indexAddr_sl sl_26 rfl rfl (by omega) (by omega)) (show _ = Value.pointer (some ⟨b22, 0 + k * 1, none⟩) from by rw [K.add_lit, Int.toNat_natCast])) rfl ?_
    refine zN ?_
    refine zN ?_
    refine K.seq_st (K.store_ix (cs := (capL r k).flatMap K.eI) sz_3 rfl rfl hfit rfl (K.rpe K.rp1 (congrArg (K.blk b22 3) hset.symm))) rfl ?_
    refine zN ?_
    refine zN ?_
    refine K.seq_nil ?_
    refine R.out ?_
    refine R.norm_block ?_
    refine R.norm_then ?_
    refine R.region_lit rfl ?_
    refine qp (K.add_i64 rfl rfl (by omega)) ?_
    refine qm ?_
    refine K.seq_nil ?_
    refine R.out ?_
    exact R.round_endW (L'' := [K.blk b6 26 [.slice (some ⟨b22, 0, none⟩) r.length r.length], K.blk b22 3 ((capL r (k + 1)).flatMap K.eI), K.blk q 79 (.slice A r.length c :: dcell (drT r)), K.blk b3 23 [.int .i64 0], K.blk b2 26 [.slice none 0 0]]) [.int .i64 ((k : Int) + 1)] ⟨k + 1, rfl, rfl, by omega⟩ (by simp [K.nth, intOf]; omega) (List.Sublist.refl _) (by kernel_rfl)
  try replace ht26 := of_decide_eq_false ht26
  have hkr : k = r.length := by omega
  subst hkr
  rw [cap_all]
  refine R.exit ?_
  refine R.exit_then ?_
  refine R.exit_then ?_
  refine R.exit_here ?_
  refine R.norm_then ?_
  refine R.seq ?_
  refine R.seq ?_
  refine R.region_lit rfl ?_
  refine qm ?_
  refine qp (K.len_sl sl_22 rfl) ?_
  refine qm ?_
  refine K.seq_nil ?_
  refine R.out ?_
  refine R.norm_then ?_
  refine R.block ?_
  refine R.loopD [34] [8, 9, 10, 11, 35, 36, 37, 38, 39, 40, 41, 42, 43, 44, 47, 48, 49, 50, 51, 52, 53, 54, 55, 56, 57, 58, 59, 60, 61, 62, 63, 64] (fun vi L => ∃ i : Nat, vi = [.int .i64 (i : Int)] ∧ L = [K.blk b6 26 [.slice (some ⟨b22, 0, none⟩) r.length r.length], K.blk b22 3 ((cutL r i 0).flatMap K.eI), K.blk q 79 (.slice A r.length c :: dcell (drT r)), K.blk b3 23 [.int .i64 0], K.blk b2 26 [.slice none 0 0]] ∧ i ≤ r.length ∧ ∀ j, j < i → ∀ k, k ≤ dep r j → 0 ≤ cutG r (stps r k j) (j + 1)) (fun vi => r.length - (intOf (K.nth vi 0)).toNat) ?_ ?_
  · exact ⟨0, rfl, rfl, Nat.zero_le _, fun j hj => absurd hj (Nat.not_lt_zero j)⟩
  intro vi vr L bs hJ
  obtain ⟨i, rfl, rfl, hin, hall⟩ := hJ
  try dsimp only [List.cons_append, List.nil_append]
  try dsimp only [setd, setn, ev, nth, over, cl, eI, eP, eT, eR, setM, setF, List.map, List.append, List.drop, List.take]
  refine R.seq ?_
  refine R.region_lit rfl ?_
  refine qp (K.lss rfl rfl) ?_
  refine K.seq_nil ?_
  refine R.out ?_
  refine R.norm_then ?_
  refine R.seq ?_
  refine R.cond rfl (fun ht35 => ?_) (fun ht35 => ?_)
  · try replace ht35 := of_decide_eq_true ht35
    have hi : i < r.length := by omega
    refine R.skip ?_
    refine R.norm_then ?_
    refine R.seq ?_
    refine R.block ?_
    refine R.seq ?_
    refine R.region_lit rfl ?_
    refine qm ?_
    refine K.seq_ix (M := []) i hR.sl sl_22 rfl rfl (by omega) (by omega) rfl ?_
    intro p37 hp37
    refine zN ?_
    refine K.seq_sil (K.loadA_p ag_44 rfl (hp37.any) rfl) rfl ?_
    refine zN ?_
    refine K.seq_new (K.alloc zr_44) rfl ?_
    intro b9
    refine zN ?_
    refine qa ?_
    refine K.seq_st (K.store_all sz_44 rfl rfl rfl rfl (K.rp0)) rfl ?_
    refine zN ?_
    refine K.seq_nil ?_
    refine R.out ?_
    refine R.norm_then ?_
    refine R.seq ?_
    refine R.region_lit rfl ?_
    refine qm ?_
    refine qp (K.nilCheck rfl) ?_
    refine qp (K.fieldAddr_lit fo_79_0 rfl) ?_
    refine K.seq_sil (K.load1_own one_75 rfl (K.m3) rfl) rfl ?_
    refine zN ?_
    refine qm ?_
    refine K.seq_loud (K.call_f cal_57 (fun F w hF hw => c57 w)) rfl ?_
    rintro ⟨q4, q2⟩ _
    refine zN ?_
    refine K.seq_nil ?_
    refine R.out ?_
    refine R.norm_then ?_
    refine R.block ?_
    refine R.rangeX (gf := 84) (first := []) (cap := [.pointer (some ⟨q2, 0, none⟩), .pointer (some ⟨q4, 0, none⟩)]) (enc := (fun s : Int × Int => [Value.int .i64 s.1, Value.int .i64 s.2])) (XS := belS r i) (ps := [45, 46]) rfl cal_84 [K.blk b9 44 [.string (r.getD i default).nm, .int .i64 (r.getD i default).dn, .int .i64 (r.getD i default).ls, .int .i64 (r.getD i default).ht], K.blk b6 26 [.slice (some ⟨b22, 0, none⟩) r.length r.length], K.blk b22 3 ((cutL r i 0).flatMap K.eI), K.blk q 79 (.slice A r.length c :: dcell (drT r)), K.blk b3 23 [.int .i64 0], K.blk b2 26 [.slice none 0 0], R.dfs bs] [K.blk q4 75 [.slice A r.length c]] (K.st_perm (show List.Perm [K.blk q2 3 [.int .i64 (i : Int)], K.blk q4 75 [.slice A r.length c], K.blk b9 44 [.string (r.getD i default).nm, .int .i64 (r.getD i default).dn, .int .i64 (r.getD i default).ls, .int .i64 (r.getD i default).ht], K.blk b6 26 [.slice (some ⟨b22, 0, none⟩) r.length r.length], K.blk b22 3 ((cutL r i 0).flatMap K.eI), K.blk q 79 (.slice A r.length c :: dcell (drT r)), K.blk b3 23 [.int .i64 0], K.blk b2 26 [.slice none 0 0], R.dfs bs] ([K.blk b9 44 [.string (r.getD i default).nm, .int .i64 (r.getD i default).dn, .int .i64 (r.getD i default).ls, .int .i64 (r.getD i default).ht], K.blk b6 26 [.slice (some ⟨b22, 0, none⟩) r.length r.length], K.blk b22 3 ((cutL r i 0).flatMap K.eI), K.blk q 79 (.slice A r.length c :: dcell (drT r)), K.blk b3 23 [.int .i64 0], K.blk b2 26 [.slice none 0 0], R.dfs bs] ++ ([K.blk q4 75 [.slice A r.length c]] ++ [K.blk q2 3 [.int .i64 (i : Int)]])) from (List.Perm.trans (List.perm_middle (l₁ := [_, _])) (List.Perm.cons _ (List.Perm.trans (List.perm_middle (l₁ := [_, _])) (List.Perm.cons _ (List.Perm.trans (List.perm_middle (l₁ := [_, _])) (List.Perm.cons _ (List.Perm.trans (List.perm_middle (l₁ := [_, _])) (List.Perm.cons _ (List.Perm.trans (List.perm_middle (l₁ := [_, _])) (List.Perm.cons _ (List.Perm.trans (List.perm_middle (l₁ := [_, _])) (List.Perm.cons _ (List.Perm.trans (List.perm_middle (l₁ := [_, _])) (List.Perm.cons _ (List.Perm.trans (List.perm_middle (l₁ := [_])) (List.Perm.cons _ (List.Perm.refl _))))))))))))))))))) (R.fixC R.fixN) (fun _ => rfl) (c84 (c := c) (A := A) (p := ⟨q4, 0, none⟩) (b := q2) g hi) (fun f w hf hb => ⟨hb, hf.own1 K.m0, hf.oldR hR⟩) (fun k L => L = [K.blk b9 44 [.string (r.getD i default).nm, .int .i64 (r.getD i default).dn, .int .i64 (r.getD i default).ls, .int .i64 (r.getD i default).ht], K.blk b6 26 [.slice (some ⟨b22, 0, none⟩) r.length r.length], K.blk b22 3 ((cutL r i k).flatMap K.eI), K.blk q 79 (.slice A r.length c :: dcell (drT r)), K.blk b3 23 [.int .i64 0], K.blk b2 26 [.slice none 0 0], R.dfs bs] ∧ ∀ j, j < k → 0 ≤ cutG r (stps r j i) (i + 1)) (fun cX L => cX = Code.ret ∧ ∃ k, L = [K.blk b9 44 [.string (r.getD i default).nm, .int .i64 (r.getD i default).dn, .int .i64 (r.getD i default).ls, .int .i64 (r.getD i default).ht], K.blk b6 26 [.slice (some ⟨b22, 0, none⟩) r.length r.length], K.blk b22 3 ((cutL r i (k + 1)).flatMap K.eI), K.blk q 79 (.slice A r.length c :: dcell (drT r)), K.blk b3 23 [.int .i64 9], K.blk b2 26 [.slice none 0 0], R.dfs bs] ∧ carveE r = 9) ?_ ?_ ?_ ?_
    · exact ⟨rfl, fun j hj => absurd hj (Nat.not_lt_zero j)⟩
    · intro k s L lr E hs hE hJ
      obtain ⟨rfl, hcu⟩ := hJ
      obtain ⟨hkd, rfl⟩ := bel_some hs
      have hsl := stps_lt g hi k
      have hdl := DM_le g hi
      have hdk := DM_le g hsl
      have hpi := g.p i hi
      have hcl := @cutL_len r i k
      have hcl1 := @cutL_len r i (k + 1)
      have hcg := cut_ge (p := stps r k i) g i (by omega)
      have hcv := eI_at (xs := cutL r i k) (k := stps r k i) (by omega)
      rw [cutL_cur g hi hkd] at hcv
      have hcx := cut_next (k := k) g hi
      have hfit : 0 + stps r k i * 1 + 1 ≤ ((cutL r i k).flatMap K.eI).length := by rw [eI_len]; omega
      have hset : K.over ((cutL r i k).flatMap K.eI) (0 + stps r k i * 1) (K.cl (.int .i64 (min (cutG r (stps r k i) i) (((r.getD i default)).ht - (DM r i - DM r (stps r k i)))))) = (cutL r i (k + 1)).flatMap K.eI := by
        rw [← hcx, ← cutL_set g hi hkd]
        exact K.set_cut0 (e := K.eI) (size := 1) (x := cutG r (stps r k i) (i + 1)) (fun _ => rfl) (by omega)
      have hcv2 := eI_at (xs := cutL r i (k + 1)) (k := stps r k i) (by omega)
      rw [cutL_at hsl, if_pos (by simp only [List.contains_iff_mem]; exact mem_step.2 ⟨k, by omega, rfl⟩)] at hcv2
      dsimp only [R.setP]
      try dsimp only [List.cons_append, List.nil_append]
      try dsimp only [setd, setn, ev, nth, over, cl, eI, eP, eT, eR, setM, setF, List.map, List.append, List.drop, List.take]
      refine R.seq ?_
      refine R.region_lit rfl ?_
      refine qa ?_
      refine K.seq_nil ?_
      refine R.out ?_
      refine R.norm_then ?_
      refine R.region_lit rfl ?_
      refine qa ?_
      refine K.seq_nil ?_
      refine R.out ?_
      refine R.norm_then ?_
      refine R.bodyC' rfl (fun E hE => ?_)
      dsimp only [List.dropLast, List.cons_append, List.nil_append]
      refine zN ?_
      refine R.block ?_
      refine R.seq ?_
      refine R.draw_L [12] Tryd_mixed rfl ?_
      refine K.d_mem 0 rfl (K.load1_own one_26 rfl (K.m1) rfl) (fun _ h => h) (by kernel_rfl) (by kernel_rfl) rfl ?_
      refine zN ?_
      refine K.d_pure 1 rfl (K.move) (by kernel_rfl) rfl ?_
      refine zn ?_
      refine K.d_mem 2 rfl (K.load1_own one_26 rfl (K.m1) rfl) (fun _ h => h) (by kernel_rfl) (by kernel_rfl) rfl ?_
      refine zN ?_
      refine K.d_pure 3 rfl (K.move) (by kernel_rfl) rfl ?_
      refine zn ?_
      refine K.d_pure 4 rfl (K.Pure.eq (K.indexAddr_sl sl_26 rfl rfl (by omega) (by omega)) (show _ = Value.pointer (some ⟨b22, 0 + stps r k i * 1, none⟩) from by rw [K.add_lit, Int.toNat_natCast])) (by kernel_rfl) rfl ?_
      refine zN ?_
      refine zN ?_
      refine K.d_mem 5 rfl (K.load_at one_3 rfl (K.PtrL.own' ((K.m2))) hcv) (fun _ h => h) (by kernel_rfl) (by kernel_rfl) rfl ?_
      refine zN ?_
      refine K.d_pure 6 rfl (K.fieldAddr_lit fo_44_3 rfl) (by kernel_rfl) rfl ?_
      refine zn ?_
      refine K.d_mem 7 rfl (K.load1_own one_3 rfl (K.m0) rfl) (fun _ h => h) (by kernel_rfl) (by kernel_rfl) rfl ?_
      refine zN ?_
      refine K.d_pure 8 rfl (K.move) (by kernel_rfl) rfl ?_
      refine zn ?_
      refine K.d_pure 9 rfl (K.sub_i64 rfl rfl (by omega)) (by kernel_rfl) rfl ?_
      refine zn ?_
      refine K.d_pure 10 rfl (K.min_int rfl rfl) (by kernel_rfl) rfl ?_
      refine zn ?_
      refine K.d_pure 11 rfl (K.Pure.eq (K.indexAddr_sl sl_26 rfl rfl (by omega) (by omega)) (show _ = Value.pointer (some ⟨b22, 0 + stps r k i * 1, none⟩) from by rw [K.add_lit, Int.toNat_natCast])) (by kernel_rfl) rfl ?_
      refine zN ?_
      refine zN ?_
      refine K.d_last 12 rfl (K.store_ix (cs := (cutL r i k).flatMap K.eI) sz_3 rfl rfl hfit rfl (K.rpe K.rp2 (congrArg (K.blk b22 3) hset.symm))) rfl (by kernel_rfl) rfl ?_
      intro _ _
      refine zN ?_
      refine zN ?_
      refine K.d_done (by kernel_rfl) ?_
      refine R.out ?_
      refine R.norm_then ?_
      refine R.seq ?_
      refine R.region_lit rfl ?_
      refine K.seq_sil (K.load1_own one_26 rfl (K.m1) rfl) rfl ?_
      refine zN ?_
      refine qm ?_
      refine K.seq_pure (K.Pure.eq (K.indexAddr_sl sl_26 rfl rfl (by omega) (by omega)) (show _ = Value.pointer (some ⟨b22, 0 + stps r k i * 1, none⟩) from by rw [K.add_lit, Int.toNat_natCast])) rfl ?_
      refine zN ?_
      refine zN ?_
      refine K.seq_sil (K.load_at one_3 rfl (K.PtrL.own' ((K.m2))) hcv2) rfl ?_
      refine zN ?_
      refine qp (K.lss rfl rfl) ?_
      refine K.seq_nil ?_
      refine R.out ?_
      refine R.norm_then ?_
      refine R.cond rfl (fun ht63 => ?_) (fun ht63 => ?_)
      · try replace ht63 := of_decide_eq_true ht63
        refine R.seq ?_
        refine R.region_lit rfl ?_
        refine K.seq_st (K.store sz_26 rfl rfl rfl rfl (K.rp5)) rfl ?_
        refine zN ?_
        refine K.seq_st (K.store sz_23 rfl rfl rfl rfl (K.rp4)) rfl ?_
        refine zN ?_
        refine K.seq_nil ?_
        refine R.out ?_
        refine R.norm_then ?_
        refine R.ret ?_
        refine R.ret_block ?_
        exact R.rp_ret (L := [K.blk b9 44 [.string (r.getD i default).nm, .int .i64 (r.getD i default).dn, .int .i64 (r.getD i default).ls, .int .i64 (r.getD i default).ht], K.blk b6 26 [.slice (some ⟨b22, 0, none⟩) r.length r.length], K.blk b22 3 ((cutL r i (k + 1)).flatMap K.eI), K.blk q 79 (.slice A r.length c :: dcell (drT r)), K.blk b3 23 [.int .i64 9], K.blk b2 26 [.slice none 0 0], R.dfs bs]) ⟨rfl, k, rfl, carveE_9 g hc hi ht63⟩ (List.Sublist.refl _)
      try replace ht63 := of_decide_eq_false ht63
      refine R.skip ?_
      refine R.norm_block ?_
      have hnn : 0 ≤ cutG r (stps r k i) (i + 1) := by omega
      exact R.rp_normal (L := [K.blk b9 44 [.string (r.getD i default).nm, .int .i64 (r.getD i default).dn, .int .i64 (r.getD i default).ls, .int .i64 (r.getD i default).ht], K.blk b6 26 [.slice (some ⟨b22, 0, none⟩) r.length r.length], K.blk b22 3 ((cutL r i (k + 1)).flatMap K.eI), K.blk q 79 (.slice A r.length c :: dcell (drT r)), K.blk b3 23 [.int .i64 0], K.blk b2 26 [.slice none 0 0], R.dfs bs]) ⟨rfl, K.lt_succ_case hcu hnn⟩ (List.Sublist.refl _)
    · intro bD L hJ
      obtain ⟨rfl, hcu⟩ := hJ
      rw [bel_len] at hcu ⊢
      rw [cutL_all g hi]
      try dsimp only [List.cons_append, List.nil_append]
      try dsimp only [setd, setn, ev, nth, over, cl, eI, eP, eT, eR, setM, setF, List.map, List.append, List.drop, List.take]
      refine R.markJ (L := [K.blk b6 26 [.slice (some ⟨b22, 0, none⟩) r.length r.length], K.blk b22 3 ((cutL r (i + 1) 0).flatMap K.eI), K.blk q 79 (.slice A r.length c :: dcell (drT r)), K.blk b3 23 [.int .i64 0], K.blk b2 26 [.slice none 0 0]]) (K.st_sub (List.Sublist.cons _ (List.Sublist.cons_cons _ (List.Sublist.cons_cons _ (List.Sublist.cons_cons _ (List.Sublist.cons_cons _ (List.Sublist.cons_cons _ (List.Sublist.cons_cons _ (List.Sublist.cons _ (List.Sublist.cons_cons _ (List.Sublist.refl _))))))))))) ?_
      try dsimp only [List.cons_append, List.nil_append]
      refine zN ?_
      refine R.norm_block ?_
      refine R.norm_block ?_
      refine R.norm_then ?_
      refine R.region_lit rfl ?_
      refine qp (K.add_i64 rfl rfl (by omega)) ?_
      refine qm ?_
      refine K.seq_nil ?_
      refine R.out ?_
      have hci : ∀ k, k ≤ dep r i → 0 ≤ cutG r (stps r k i) (i + 1) := fun k hk => hcu k (by omega)
      exact R.round_endD (L'' := [K.blk b6 26 [.slice (some ⟨b22, 0, none⟩) r.length r.length], K.blk b22 3 ((cutL r (i + 1) 0).flatMap K.eI), K.blk q 79 (.slice A r.length c :: dcell (drT r)), K.blk b3 23 [.int .i64 0], K.blk b2 26 [.slice none 0 0]]) [.int .i64 ((i : Int) + 1)] ⟨i + 1, rfl, rfl, by omega, K.lt_succ_case hall hci⟩ (by simp [K.nth, intOf]; omega) (List.Sublist.refl _) (by kernel_rfl)
    · intro bD cX L hJ
      obtain ⟨rfl, k, rfl, he9⟩ := hJ
      try dsimp only [List.cons_append, List.nil_append]
      try dsimp only [setd, setn, ev, nth, over, cl, eI, eP, eT, eR, setM, setF, List.map, List.append, List.drop, List.take]
      refine R.markJ (L := [K.blk b6 26 [.slice (some ⟨b22, 0, none⟩) r.length r.length], K.blk b22 3 ((cutL r i (k + 1)).flatMap K.eI), K.blk q 79 (.slice A r.length c :: dcell (drT r)), K.blk b3 23 [.int .i64 9], K.blk b2 26 [.slice none 0 0]]) (K.st_sub (List.Sublist.cons _ (List.Sublist.cons_cons _ (List.Sublist.cons_cons _ (List.Sublist.cons_cons _ (List.Sublist.cons_cons _ (List.Sublist.cons_cons _ (List.Sublist.cons_cons _ (List.Sublist.cons _ (List.Sublist.cons_cons _ (List.Sublist.refl _))))))))))) ?_
      try dsimp only [List.cons_append, List.nil_append]
      refine zN ?_
      refine R.ret ?_
      refine R.ret_block ?_
      refine R.ret_block ?_
      refine R.ret_then ?_
      refine R.ret_then ?_
      refine R.ret_block ?_
      refine R.ret_then ?_
      refine R.end_retD rfl (by dsimp only [List.dropLast]; exact (fun w hw => K.res_cc rfl rfl rfl (K.run_cell1 one_26 rfl (K.m4) w hw) (K.run_cell1 one_23 rfl (K.m3) w hw))) ?_
      dsimp only [List.dropLast]
      exact K.rets_se0 (by unfold carveL; rw [if_neg (by omega)]) he9.symm rfl
  try replace ht35 := of_decide_eq_false ht35
  refine R.exit ?_
  refine R.exit_then ?_
  refine R.exit_then ?_
  refine R.exit_here ?_
  refine R.norm_then ?_
  refine R.seq ?_
  refine R.region_lit rfl ?_
  refine K.seq_sil (K.load1_own one_26 rfl (K.m0) rfl) rfl ?_
  refine zN ?_
  refine K.seq_st (K.store sz_26 rfl rfl rfl rfl (K.rp4)) rfl ?_
  refine zN ?_
  refine K.seq_st (K.store sz_23 rfl rfl rfl rfl (K.rp3)) rfl ?_
  refine zN ?_
  refine K.seq_nil ?_
  refine R.out ?_
  refine R.norm_then ?_
  refine R.ret ?_
  refine R.end_retD rfl (by dsimp only [List.dropLast]; exact (fun w hw => K.res_cc rfl rfl rfl (K.run_cell1 one_26 rfl (K.m4) w hw) (K.run_cell1 one_23 rfl (K.m3) w hw))) ?_
  dsimp only [List.dropLast]
  have e0 : i = r.length := by omega
  subst e0
  have he : carveE r = 0 := carveE_0 g hc hall
  have hl : carveL r = cutL r r.length 0 := by unfold carveL; rw [if_pos he, cutL_fin g]
  have hcl := @cutL_len r r.length 0
  rw [hl, he]
  refine K.permH (L' := [_, _, _, _, _]) (List.perm_middle (l₁ := [_])) ?_
  refine K.blk_row (size := 1) (n := r.length) (by rw [eI_len]; omega) (by simp only [maxLen]; omega) ?_
  exact K.rets_se K.m0 hcl.symm rfl rfl rfl

theorem c23 {r : List RvT} {A : Option Addr} {c : Nat} {w : World} (hR : K.Rd w A 4 eR r) (hn : r.length ≤ 4611686018427387904) : Calls Tryd.prog 23 [.slice A r.length c].toArray w (K.RetSE 3 1 K.eI (carveL r) (carveE r) w) := by
  by_cases hc : (chk r).2.2 = 0
  · exact g23 hR hn hc
  · exact e23 hR hn hc


end Go.Proofs.YtoemnobfnnjopaaDoor
