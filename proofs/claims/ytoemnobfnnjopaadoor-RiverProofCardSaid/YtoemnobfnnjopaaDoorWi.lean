/-
  Walks of the program's functions, printed by program: what each returns.
  Conditions stand in each theorem.
-/
import Derived.WalkArith
import Derived.Laws.Closers25b
import Derived.Test.YtoemnobfnnjopaaDoorWh
set_option linter.unusedSimpArgs false
set_option linter.unusedVariables false
namespace Go.Proofs.YtoemnobfnnjopaaDoor
open Go.RowKit Go
open Go.K (setd setn ev nth over cl eI eP eT setM setF)
attribute [local irreducible] K.blk K.row

set_option maxRecDepth 100000 in
theorem e16 {r : List RvT} {A : Option Addr} {c : Nat} {w : World} (hR : K.Rd w A 4 eR r) (hn : r.length ≤ 4611686018427387904) (hc : (chk r).2.2 ≠ 0) :
    Calls Tryd.prog 16 [.slice A r.length c].toArray w (K.RetSE 3 1 K.eI (badL r) (chk r).2.2 w) := by
  refine K.enter (args := [.slice A r.length c]) Tryd.func16 rfl (n := 30) rfl ?_
  simp only [List.replicate, List.cons_append, List.nil_append]
  refine sr ?_
  iterate 2 refine qa ?_
  refine sn ?_
  refine sr ?_
  refine qm ?_
  refine K.seq_call (K.call_g cal_52 (fun F w hF hw => e52 (hR.pass hw) hn hc)) rfl ?_
  refine zN ?_
  refine qm ?_
  refine qx ?_
  refine qx ?_
  iterate 2 refine qa ?_
  refine sn ?_
  refine K.seq ?_
  refine sr ?_
  refine qm ?_
  refine qp (K.neq rfl rfl) ?_
  refine sn ?_
  refine K.cond_true (by exact congrArg Value.bool (decide_eq_true hc)) ?_
  refine sr ?_
  refine qm ?_
  iterate 2 refine qa ?_
  refine sn ?_
  refine K.ret ?_
  refine K.ret_then ?_
  refine K.end_ret (fun w _ => K.res_tmp2 rfl w) ?_
  exact K.rets_se0 (by unfold badL; rw [if_pos hc]) rfl rfl

set_option maxRecDepth 100000 in
theorem g16 {r : List RvT} {A : Option Addr} {c : Nat} {w : World} (hR : K.Rd w A 4 eR r) (hn : r.length ≤ 4611686018427387904) (hc : (chk r).2.2 = 0) :
    Calls Tryd.prog 16 [.slice A r.length c].toArray w (K.RetSE 3 1 K.eI (badL r) (chk r).2.2 w) := by
  have g : Good r := chk_good hc
  have hgn := g.n
  refine K.enter (args := [.slice A r.length c]) Tryd.func16 rfl (n := 30) rfl ?_
  simp only [List.replicate, List.cons_append, List.nil_append]
  refine sr ?_
  iterate 2 refine qa ?_
  refine sn ?_
  refine sr ?_
  refine qm ?_
  refine K.seq_loud (K.call_f cal_52 (fun F w hF hw => g52 (hR.pass hw) hn hc)) rfl ?_
  rintro q _
  refine zN ?_
  refine qm ?_
  refine qx ?_
  refine qx ?_
  iterate 2 refine qa ?_
  refine sn ?_
  refine K.seq ?_
  refine sr ?_
  refine qm ?_
  refine qp (K.neq rfl rfl) ?_
  refine sn ?_
  refine K.cond_false (by rfl) ?_
  refine K.skip ?_
  refine K.norm_then ?_
  refine K.seq ?_
  refine sr ?_
  refine K.nil_row (e := 3) (size := 1) ?_
  refine qm ?_
  refine qp (K.len_sl sl_22 rfl) ?_
  refine qm ?_
  refine sn ?_
  refine K.block ?_
  refine K.loopW [2, 16] [5, 17, 18, 19, 20, 21, 22, 23, 24, 25, 26, 27, 28, 29] (fun vi L => ∃ (i : Nat) (Q1 : Option Addr) (q1 : Nat), vi = [.slice Q1 (selN (badB r (ownS r)) i).length q1, .int .i64 (i : Int)] ∧ L = [K.row (.slice Q1 (selN (badB r (ownS r)) i).length q1) 3 1 (selN (badB r (ownS r)) i).length ((selN (badB r (ownS r)) i).flatMap K.eI), K.blk q 79 (.slice A r.length c :: dcell (drT r))] ∧ i ≤ r.length) (fun vi => r.length - (intOf (K.nth vi 1)).toNat) ?_ ?_
  · exact ⟨0, none, 0, rfl, rfl, Nat.zero_le _⟩
  intro vi vr L hJ
  obtain ⟨i, Q1, q1, rfl, rfl, hin⟩ := hJ
  try dsimp only [setd, setn, ev, nth, over, cl, eI, eP, eT, eR, setM, setF, List.map, List.append, List.drop, List.take]
  refine sr ?_
  refine qp (K.lss rfl rfl) ?_
  refine sn ?_
  refine K.seq ?_
  refine K.cond rfl (fun ht17 => ?_) (fun ht17 => ?_)
  · try replace ht17 := of_decide_eq_true ht17
    have hi : i < r.length := by omega
    have hsl : (selN (badB r (ownS r)) i).length ≤ i := selN_len
    refine K.skip ?_
    refine K.norm_then ?_
    refine K.seq ?_
    refine K.block ?_
    refine sr ?_
    refine qm ?_
    refine qa ?_
    refine sn ?_
    refine sr ?_
    iterate 3 refine qm ?_
    refine K.seq_pure (K.mkFunc) rfl ?_
    refine zN ?_
    refine K.seq_call (K.call_g cal_53 (fun F w hF hw => c53 (K.PtrL.now hw (hF _ (K.m1))) (K.blk_lt hw (hF _ (K.m1))) (hR.pass hw) g hi)) rfl ?_
    refine zN ?_
    first | refine K.seq_pure (K.not_d rfl) rfl ?_ | refine K.seq_pure (K.not_ rfl) rfl ?_
    refine zN ?_
    refine sn ?_
    refine K.cond rfl (fun ht24 => ?_) (fun ht24 => ?_)
    · try replace ht24 := of_decide_eq_true ht24
      refine K.region_lit ?_
      iterate 2 refine qm ?_
      refine K.seq_new (K.buildSlice (bs1 _)) rfl ?_
      intro b27
      refine zN ?_
      refine K.seq_upd (K.append el_26 rfl rfl (K.PtrL.own' (K.m0)) rfl rfl (by decide) (by omega) (by omega) (fun _ _ => K.rp1)) rfl ?_
      rintro ⟨g28, c28⟩ _
      refine zN ?_
      refine qa ?_
      refine K.seq_nil ?_
      refine K.norm_block ?_
      refine K.norm_then ?_
      refine K.region_lit ?_
      refine qp (K.add_i64 rfl rfl (by omega)) ?_
      refine qm ?_
      refine K.seq_nil ?_
      have hb : badB r (ownS r) i = true := by simpa using ht24
      have hsn := selN_yes hb
      exact K.round_endW (L'' := [K.row (.slice (some ⟨g28, 0, none⟩) ((selN (badB r (ownS r)) i).length + 1) c28) 3 1 ((selN (badB r (ownS r)) i).length + 1) ((selN (badB r (ownS r)) i).flatMap K.eI ++ [.int .i64 (i : Int)]), K.blk q 79 (.slice A r.length c :: dcell (drT r))]) [.slice (some ⟨g28, 0, none⟩) ((selN (badB r (ownS r)) i).length + 1) c28, .int .i64 ((i : Int) + 1)] ⟨i + 1, some ⟨g28, 0, none⟩, c28, by rw [hsn, List.length_append]; rfl, by rw [hsn, List.length_append, List.flatMap_append]; rfl, by omega⟩ (by simp [K.nth, intOf]; omega) (List.Sublist.cons _ (List.Sublist.refl _)) (by kernel_rfl)
    try replace ht24 := of_decide_eq_false ht24
    refine K.skip ?_
    refine K.norm_block ?_
    refine K.norm_then ?_
    refine K.region_lit ?_
    refine qp (K.add_i64 rfl rfl (by omega)) ?_
    refine qm ?_
    refine K.seq_nil ?_
    have hb : badB r (ownS r) i = false := by simpa using ht24
    have hsn := selN_no hb
    exact K.round_endW (L'' := [K.row (.slice Q1 (selN (badB r (ownS r)) i).length q1) 3 1 (selN (badB r (ownS r)) i).length ((selN (badB r (ownS r)) i).flatMap K.eI), K.blk q 79 (.slice A r.length c :: dcell (drT r))]) [.slice Q1 (selN (badB r (ownS r)) i).length q1, .int .i64 ((i : Int) + 1)] ⟨i + 1, Q1, q1, by rw [hsn]; rfl, by rw [hsn], by omega⟩ (by simp [K.nth, intOf]; omega) (List.Sublist.refl _) (by kernel_rfl)
  try replace ht17 := of_decide_eq_false ht17
  refine K.exit ?_
  refine K.exit_then ?_
  refine K.exit_then ?_
  refine K.exit_here ?_
  refine K.norm_then ?_
  refine sr ?_
  refine qm ?_
  iterate 2 refine qa ?_
  refine sn ?_
  refine K.ret ?_
  refine K.end_ret (fun w _ => K.res_tmp2 rfl w) ?_
  have e0 : i = r.length := by omega
  subst e0
  have hl : badL r = (selN (badB r (ownS r)) r.length) := by unfold badL badS; rw [if_neg (by omega)]
  rw [hl, hc]
  exact K.rets_se K.m0 rfl rfl rfl rfl

theorem c16 {r : List RvT} {A : Option Addr} {c : Nat} {w : World} (hR : K.Rd w A 4 eR r) (hn : r.length ≤ 4611686018427387904) : Calls Tryd.prog 16 [.slice A r.length c].toArray w (K.RetSE 3 1 K.eI (badL r) (chk r).2.2 w) := by
  by_cases hc : (chk r).2.2 = 0
  · exact g16 hR hn hc
  · exact e16 hR hn hc


set_option maxRecDepth 100000 in
theorem e19 {r : List RvT} {A : Option Addr} {c : Nat} {z : Int} {w : World} (hR : K.Rd w A 4 eR r) (hn : r.length ≤ 4611686018427387904) (hc : (chk r).2.2 ≠ 0) :
    Calls Tryd.prog 19 [.slice A r.length c, .int .i64 z].toArray w (K.RetSE 3 1 K.eI (pouL r z) (pouE r z) w) := by
  have he : pouE r z = (chk r).2.2 := by unfold pouE; rw [if_pos hc]
  refine R.enter (args := [.slice A r.length c, .int .i64 z]) Tryd.func19 rfl (m := 41) rfl ?_
  simp only [List.replicate, List.cons_append, List.nil_append]
  refine R.seq ?_
  refine R.region_lit rfl ?_
  refine K.seq_new (K.alloc zr_26) rfl ?_
  intro b4
  refine zN ?_
  refine qa ?_
  refine K.seq_nil ?_
  refine R.out ?_
  refine R.norm_then ?_
  refine R.seq ?_
  refine R.region_lit rfl ?_
  refine qm ?_
  refine K.seq_call (K.call_g cal_52 (fun F w hF hw => e52 (hR.pass hw) hn hc)) rfl ?_
  refine zN ?_
  refine qm ?_
  refine qx ?_
  refine qx ?_
  refine K.seq_new (K.alloc zr_65) rfl ?_
  intro b6
  refine zN ?_
  refine K.seq_st (K.store sz_65 rfl rfl rfl rfl (K.rp0)) rfl ?_
  refine zN ?_
  refine qa ?_
  refine K.seq_nil ?_
  refine R.out ?_
  refine R.norm_then ?_
  refine R.seq ?_
  refine R.block ?_
  refine R.seq ?_
  refine R.region_lit rfl ?_
  refine qm ?_
  refine qp (K.neq rfl rfl) ?_
  refine qa ?_
  refine K.seq_nil ?_
  refine R.out ?_
  refine R.norm_then ?_
  refine R.cond_true (by exact congrArg Value.bool (decide_eq_true hc)) ?_
  refine R.seq ?_
  refine R.region_lit rfl ?_
  refine qm ?_
  refine K.seq_st (K.store sz_26 rfl rfl rfl rfl (K.rp1)) rfl ?_
  refine zN ?_
  refine qa ?_
  refine K.seq_nil ?_
  refine R.out ?_
  refine R.norm_then ?_
  refine R.ret ?_
  refine R.ret_block ?_
  refine R.ret_then ?_
  refine R.end_ret (fun w hw => K.res_ct rfl rfl (K.run_cell1 one_26 rfl (K.m1) w hw)) ?_
  exact K.rets_se0 (by unfold pouL; rw [if_neg (by omega)]) he.symm rfl

set_option maxRecDepth 100000 in
theorem f19 {r : List RvT} {A : Option Addr} {c : Nat} {z : Int} {w : World} (hR : K.Rd w A 4 eR r) (hn : r.length ≤ 4611686018427387904) (hc : (chk r).2.2 = 0) (hz : ¬ (0 ≤ z ∧ z ≤ (r.length : Int) - 1)) :
    Calls Tryd.prog 19 [.slice A r.length c, .int .i64 z].toArray w (K.RetSE 3 1 K.eI (pouL r z) (pouE r z) w) := by
  have he : pouE r z = 4 := by unfold pouE; rw [if_neg (by omega), if_neg hz]
  have g : Good r := chk_good hc
  have hgn := g.n
  refine R.enter (args := [.slice A r.length c, .int .i64 z]) Tryd.func19 rfl (m := 41) rfl ?_
  simp only [List.replicate, List.cons_append, List.nil_append]
  refine R.seq ?_
  refine R.region_lit rfl ?_
  refine K.seq_new (K.alloc zr_26) rfl ?_
  intro b4
  refine zN ?_
  refine qa ?_
  refine K.seq_nil ?_
  refine R.out ?_
  refine R.norm_then ?_
  refine R.seq ?_
  refine R.region_lit rfl ?_
  refine qm ?_
  refine K.seq_loud (K.call_f cal_52 (fun F w hF hw => g52 (hR.pass hw) hn hc)) rfl ?_
  rintro q _
  refine zN ?_
  refine qm ?_
  refine qx ?_
  refine qx ?_
  refine K.seq_new (K.alloc zr_65) rfl ?_
  intro b6
  refine zN ?_
  refine K.seq_st (K.store sz_65 rfl rfl rfl rfl (K.rp0)) rfl ?_
  refine zN ?_
  refine qa ?_
  refine K.seq_nil ?_
  refine R.out ?_
  refine R.norm_then ?_
  refine R.seq ?_
  refine R.block ?_
  refine R.seq ?_
  refine R.region_lit rfl ?_
  refine qm ?_
  refine qp (K.neq rfl rfl) ?_
  refine qa ?_
  refine K.seq_nil ?_
  refine R.out ?_
  refine R.norm_then ?_
  refine R.cond_false (by rfl) ?_
  refine R.seq ?_
  refine R.region_lit rfl ?_
  refine qm ?_
  refine qp (K.len_sl sl_22 rfl) ?_
  refine qp (K.sub_i64 rfl rfl (by omega)) ?_
  refine qm ?_
  refine K.seq_new (K.buildSlice (bs1 _)) rfl ?_
  intro b22
  refine zN ?_
  refine K.seq_call (K.call_g cal_46 (fun F w hF hw => c46_1 hw (hF _ (K.m0)))) rfl ?_
  refine zN ?_
  refine qa ?_
  refine K.seq_nil ?_
  refine R.out ?_
  refine R.norm_then ?_
  refine R.cond_true (by exact congrArg Value.bool (decide_eq_true (by omega))) ?_
  refine R.seq ?_
  refine R.region_lit rfl ?_
  refine K.seq_st (K.store sz_26 rfl rfl rfl rfl (K.rp3)) rfl ?_
  refine zN ?_
  refine qa ?_
  refine K.seq_nil ?_
  refine R.out ?_
  refine R.norm_then ?_
  refine R.ret ?_
  refine R.ret_block ?_
  refine R.ret_then ?_
  refine R.end_ret (fun w hw => K.res_ct rfl rfl (K.run_cell1 one_26 rfl (K.m3) w hw)) ?_
  exact K.rets_se0 (by unfold pouL; rw [if_neg (by omega)]) he.symm rfl

set_option maxRecDepth 100000 in
set_option maxHeartbeats 1000000 in
theorem g19 {r : List RvT} {A : Option Addr} {c : Nat} {a : Nat} {w : World} (hR : K.Rd w A 4 eR r) (hn : r.length ≤ 4611686018427387904) (hc : (chk r).2.2 = 0) (ha : a < r.length) :
    Calls Tryd.prog 19 [.slice A r.length c, .int .i64 (a : Int)].toArray w (K.RetSE 3 1 K.eI (pouL r (a : Int)) (pouE r (a : Int)) w) := by
  have he : pouE r (a : Int) = 0 := by unfold pouE; rw [if_neg (by omega), if_pos (by omega)]
  have g : Good r := chk_good hc
  have hgn := g.n
  refine R.enter (args := [.slice A r.length c, .int .i64 (a : Int)]) Tryd.func19 rfl (m := 41) rfl ?_
  simp only [List.replicate, List.cons_append, List.nil_append]
  refine R.seq ?_
  refine R.region_lit rfl ?_
  refine K.seq_new (K.alloc zr_26) rfl ?_
  intro b4
  refine zN ?_
  refine qa ?_
  refine K.seq_nil ?_
  refine R.out ?_
  refine R.norm_then ?_
  refine R.seq ?_
  refine R.region_lit rfl ?_
  refine qm ?_
  refine K.seq_loud (K.call_f cal_52 (fun F w hF hw => g52 (hR.pass hw) hn hc)) rfl ?_
  rintro q _
  refine zN ?_
  refine qm ?_
  refine qx ?_
  refine qx ?_
  refine K.seq_new (K.alloc zr_65) rfl ?_
  intro b6
  refine zN ?_
  refine K.seq_st (K.store sz_65 rfl rfl rfl rfl (K.rp0)) rfl ?_
  refine zN ?_
  refine qa ?_
  refine K.seq_nil ?_
  refine R.out ?_
  refine R.norm_then ?_
  refine R.seq ?_
  refine R.block ?_
  refine R.seq ?_
  refine R.region_lit rfl ?_
  refine qm ?_
  refine qp (K.neq rfl rfl) ?_
  refine qa ?_
  refine K.seq_nil ?_
  refine R.out ?_
  refine R.norm_then ?_
  refine R.cond_false (by rfl) ?_
  refine R.seq ?_
  refine R.region_lit rfl ?_
  refine qm ?_
  refine qp (K.len_sl sl_22 rfl) ?_
  refine qp (K.sub_i64 rfl rfl (by omega)) ?_
  refine qm ?_
  refine K.seq_new (K.buildSlice (bs1 _)) rfl ?_
  intro b22
  refine zN ?_
  refine K.seq_call (K.call_g cal_46 (fun F w hF hw => c46_1 hw (hF _ (K.m0)))) rfl ?_
  refine zN ?_
  refine qa ?_
  refine K.seq_nil ?_
  refine R.out ?_
  refine R.norm_then ?_
  refine R.cond_false (by exact congrArg Value.bool (decide_eq_false (by omega))) ?_
  refine R.skip ?_
  refine R.norm_block ?_
  refine R.norm_then ?_
  refine R.seq ?_
  refine R.seq ?_
  refine K.weak (List.Sublist.cons _ (List.Sublist.cons_cons _ (List.Sublist.cons_cons _ (List.Sublist.cons_cons _ (List.Sublist.slnil))))) ?_
  refine R.region_lit rfl ?_
  refine K.nil_row (e := 3) (size := 1) ?_
  refine K.seq_sil (K.load1_own one_65 rfl (K.m1) rfl) rfl ?_
  refine zN ?_
  refine qp (K.nilCheck rfl) ?_
  refine qp (K.fieldAddr_lit fo_79_0 rfl) ?_
  refine K.seq_sil (K.load1_own one_75 rfl (K.m2) rfl) rfl ?_
  refine zN ?_
  refine qm ?_
  refine K.seq_loud (K.call_f cal_57 (fun F w hF hw => c57 w)) rfl ?_
  rintro ⟨q1, q2⟩ _
  refine zN ?_
  refine K.seq_nil ?_
  refine R.out ?_
  refine R.norm_then ?_
  refine R.block ?_
  refine R.rangeX (gf := 84) (first := []) (cap := [.pointer (some ⟨q2, 0, none⟩), .pointer (some ⟨q1, 0, none⟩)]) (enc := (fun s : Int × Int => [Value.int .i64 s.1, Value.int .i64 s.2])) (XS := belS r a) (ps := [30, 31]) rfl cal_84 [K.row (.slice none 0 0) 3 1 0 [], K.blk b6 65 [.pointer (some ⟨q, 0, none⟩)], K.blk q 79 (.slice A r.length c :: dcell (drT r)), K.blk b4 26 [.slice none 0 0]] [K.blk q1 75 [.slice A r.length c]] (K.st_perm (show List.Perm [K.blk q2 3 [.int .i64 (a : Int)], K.blk q1 75 [.slice A r.length c], K.row (.slice none 0 0) 3 1 0 [], K.blk b6 65 [.pointer (some ⟨q, 0, none⟩)], K.blk q 79 (.slice A r.length c :: dcell (drT r)), K.blk b4 26 [.slice none 0 0]] ([K.row (.slice none 0 0) 3 1 0 [], K.blk b6 65 [.pointer (some ⟨q, 0, none⟩)], K.blk q 79 (.slice A r.length c :: dcell (drT r)), K.blk b4 26 [.slice none 0 0]] ++ ([K.blk q1 75 [.slice A r.length c]] ++ [K.blk q2 3 [.int .i64 (a : Int)]])) from (List.Perm.trans (List.perm_middle (l₁ := [_, _])) (List.Perm.cons _ (List.Perm.trans (List.perm_middle (l₁ := [_, _])) (List.Perm.cons _ (List.Perm.trans (List.perm_middle (l₁ := [_, _])) (List.Perm.cons _ (List.Perm.trans (List.perm_middle (l₁ := [_, _])) (List.Perm.cons _ (List.Perm.trans (List.perm_middle (l₁ := [_])) (List.Perm.cons _ (List.Perm.refl _))))))))))))) (R.fixC R.fixN) (fun _ => rfl) (c84 (c := c) (A := A) (p := ⟨q1, 0, none⟩) (b := q2) g ha) (fun f w hf hb => ⟨hb, hf.own1 K.m0, hf.oldR hR⟩) (fun k L => ∃ (Q1 : Option Addr) (q1 : Nat), L = [K.row (.slice Q1 (stepL r a k).length q1) 3 1 (stepL r a k).length ((stepL r a k).flatMap K.eI), K.blk b6 65 [.pointer (some ⟨q, 0, none⟩)], K.blk q 79 (.slice A r.length c :: dcell (drT r)), K.blk b4 26 [.slice Q1 (stepL r a k).length q1]] ∧ ∀ j, j < k → badB r (ownS r) (stps r j a) = false) (fun cX L => cX = Code.exit 1 ∧ ∃ (k : Nat) (Q1 : Option Addr) (q1 : Nat), L = [K.row (.slice Q1 (stepL r a (k + 1)).length q1) 3 1 (stepL r a (k + 1)).length ((stepL r a (k + 1)).flatMap K.eI), K.blk b6 65 [.pointer (some ⟨q, 0, none⟩)], K.blk q 79 (.slice A r.length c :: dcell (drT r)), K.blk b4 26 [.slice Q1 (stepL r a (k + 1)).length q1]] ∧ k ≤ dep r a ∧ (∀ j, j < k → badB r (ownS r) (stps r j a) = false) ∧ badB r (ownS r) (stps r k a) = true) ?_ ?_ ?_ ?_
  · exact ⟨none, 0, rfl, fun j hj => absurd hj (Nat.not_lt_zero j)⟩
  · intro k s L lr E hs hE hJ
    obtain ⟨Q1, q1, rfl, hall⟩ := hJ
    obtain ⟨hkd, rfl⟩ := bel_some hs
    have hsl := stps_lt g ha k
    have hdl := (dep_is g ha).1
    have hsn := step_len (r := r) (a := a) (k := k)
    dsimp only [R.setP]
    try dsimp only [List.cons_append, List.nil_append]
    try dsimp only [setd, setn, ev, nth, over, cl, eI, eP, eT, eR, setM, setF, List.map, List.append, List.drop, List.take]
    refine R.region_lit rfl ?_
    refine qa ?_
    refine K.seq_nil ?_
    refine R.out ?_
    refine R.norm_then ?_
    refine R.bodyC' rfl (fun E hE => ?_)
    dsimp only [List.dropLast, List.cons_append, List.nil_append]
    refine zN ?_
    refine R.block ?_
    refine R.seq ?_
    refine R.region_lit rfl ?_
    refine K.seq_sil (K.load1_own one_26 rfl (K.m3) rfl) rfl ?_
    refine zN ?_
    refine qm ?_
    refine K.seq_new (K.buildSlice (bs1 _)) rfl ?_
    intro b34
    refine zN ?_
    refine K.seq_upd (K.append el_26 rfl rfl (K.PtrL.own' (K.m0)) rfl rfl (by decide) (by omega) (by omega) (fun _ _ => K.rp1)) rfl ?_
    rintro ⟨g35, c35⟩ _
    refine zN ?_
    refine K.seq_st (K.store sz_26 rfl rfl rfl rfl (K.rp4)) rfl ?_
    refine zN ?_
    refine K.seq_nil ?_
    refine R.out ?_
    refine R.norm_then ?_
    refine R.seq ?_
    refine R.region_lit rfl ?_
    refine K.seq_sil (K.load1_own one_65 rfl (K.m2) rfl) rfl ?_
    refine zN ?_
    refine qm ?_
    refine K.seq_sil (K.load1_own one_65 rfl (K.m2) rfl) rfl ?_
    refine zN ?_
    refine K.seq_pure (K.mkFunc) rfl ?_
    refine zN ?_
    refine K.seq_call (K.call_g cal_53 (fun F w hF hw => c53 (K.PtrL.now hw (hF _ (K.m3))) (K.blk_lt hw (hF _ (K.m3))) (hR.pass hw) g hsl)) rfl ?_
    refine zN ?_
    first | refine K.seq_pure (K.not_d rfl) rfl ?_ | refine K.seq_pure (K.not_ rfl) rfl ?_
    refine zN ?_
    refine K.seq_nil ?_
    refine R.out ?_
    refine R.norm_then ?_
    refine R.cond rfl (fun ht41 => ?_) (fun ht41 => ?_)
    · try replace ht41 := of_decide_eq_true ht41
      refine R.exit ?_
      refine R.exit_out rfl ?_
      have hb : badB r (ownS r) (stps r k a) = true := by simpa using ht41
      exact R.rp_exit (L := [K.row (.slice (some ⟨g35, 0, none⟩) ((stepL r a k).length + 1) c35) 3 1 ((stepL r a k).length + 1) ((stepL r a k).flatMap K.eI ++ [.int .i64 ((stps r k a : Nat) : Int)]), K.blk b6 65 [.pointer (some ⟨q, 0, none⟩)], K.blk q 79 (.slice A r.length c :: dcell (drT r)), K.blk b4 26 [.slice (some ⟨g35, 0, none⟩) ((stepL r a k).length + 1) c35]]) ⟨rfl, k, some ⟨g35, 0, none⟩, c35, by rw [step_s, List.length_append, List.flatMap_append]; rfl, hkd, hall, hb⟩ (List.Sublist.cons _ (List.Sublist.refl _))
    try replace ht41 := of_decide_eq_false ht41
    refine R.skip ?_
    refine R.norm_block ?_
    have hb : badB r (ownS r) (stps r k a) = false := by simpa using ht41
    exact R.rp_normal (L := [K.row (.slice (some ⟨g35, 0, none⟩) ((stepL r a k).length + 1) c35) 3 1 ((stepL r a k).length + 1) ((stepL r a k).flatMap K.eI ++ [.int .i64 ((stps r k a : Nat) : Int)]), K.blk b6 65 [.pointer (some ⟨q, 0, none⟩)], K.blk q 79 (.slice A r.length c :: dcell (drT r)), K.blk b4 26 [.slice (some ⟨g35, 0, none⟩) ((stepL r a k).length + 1) c35]]) ⟨some ⟨g35, 0, none⟩, c35, by rw [step_s, List.length_append, List.flatMap_append]; rfl, K.lt_succ_case hall hb⟩ (List.Sublist.cons _ (List.Sublist.refl _))
  · intro bD L hJ
    obtain ⟨Q1, q3, rfl, hall⟩ := hJ
    rw [bel_len] at hall ⊢
    try dsimp only [List.cons_append, List.nil_append]
    try dsimp only [setd, setn, ev, nth, over, cl, eI, eP, eT, eR, setM, setF, List.map, List.append, List.drop, List.take]
    refine R.norm_block ?_
    refine R.norm_then ?_
    refine R.seq ?_
    refine R.region_lit rfl ?_
    refine K.seq_sil (K.load1_own one_26 rfl (K.m3) rfl) rfl ?_
    refine zN ?_
    refine K.seq_st (K.store sz_26 rfl rfl rfl rfl (K.rp3)) rfl ?_
    refine zN ?_
    refine qa ?_
    refine K.seq_nil ?_
    refine R.out ?_
    refine R.norm_then ?_
    refine R.ret ?_
    refine R.end_ret1 rfl (by dsimp only [List.dropLast]; exact (fun w hw => K.res_ct rfl rfl (K.run_cell1 one_26 rfl (K.m3) w hw))) ?_
    dsimp only [List.dropLast]
    have hl : pouL r (a : Int) = (stepL r a (dep r a + 1)) := by unfold pouL; rw [if_pos he, Int.toNat_natCast]; exact poured_all g ha (fun j hj => hall j (by omega))
    rw [hl, he]
    exact K.rets_se K.m0 rfl rfl rfl rfl
  · intro bD cX L hJ
    obtain ⟨rfl, k, Q1, q3, rfl, hkd, hall, hb⟩ := hJ
    try dsimp only [List.cons_append, List.nil_append]
    try dsimp only [setd, setn, ev, nth, over, cl, eI, eP, eT, eR, setM, setF, List.map, List.append, List.drop, List.take]
    refine R.exit ?_
    refine R.exit_here ?_
    refine R.norm_then ?_
    refine R.seq ?_
    refine R.region_lit rfl ?_
    refine K.seq_sil (K.load1_own one_26 rfl (K.m3) rfl) rfl ?_
    refine zN ?_
    refine K.seq_st (K.store sz_26 rfl rfl rfl rfl (K.rp3)) rfl ?_
    refine zN ?_
    refine qa ?_
    refine K.seq_nil ?_
    refine R.out ?_
    refine R.norm_then ?_
    refine R.ret ?_
    refine R.end_ret1 rfl (by dsimp only [List.dropLast]; exact (fun w hw => K.res_ct rfl rfl (K.run_cell1 one_26 rfl (K.m3) w hw))) ?_
    dsimp only [List.dropLast]
    have hl : pouL r (a : Int) = (stepL r a (k + 1)) := by unfold pouL; rw [if_pos he, Int.toNat_natCast]; exact poured_bad g ha hkd hall hb
    rw [hl, he]
    exact K.rets_se K.m0 rfl rfl rfl rfl

theorem c19 {r : List RvT} {A : Option Addr} {c : Nat} {z : Int} {w : World} (hR : K.Rd w A 4 eR r) (hn : r.length ≤ 4611686018427387904) : Calls Tryd.prog 19 [.slice A r.length c, .int .i64 z].toArray w (K.RetSE 3 1 K.eI (pouL r z) (pouE r z) w) := by
  by_cases hc : (chk r).2.2 = 0
  · by_cases hz : 0 ≤ z ∧ z ≤ (r.length : Int) - 1
    · have h := g19 (c := c) (a := z.toNat) hR hn hc (by omega)
      rwa [Int.toNat_of_nonneg hz.1] at h
    · exact f19 hR hn hc hz
  · exact e19 hR hn hc


end Go.Proofs.YtoemnobfnnjopaaDoor
