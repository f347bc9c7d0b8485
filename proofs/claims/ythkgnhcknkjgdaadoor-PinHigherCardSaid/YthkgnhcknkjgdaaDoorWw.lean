/-
  Walks of the program's functions, printed by program: what each returns.
  Conditions stand in each theorem.
-/
import Derived.WalkArith
import Derived.Laws.Closers25b
import Derived.Test.YthkgnhcknkjgdaaDoorWo
import Derived.Test.YthkgnhcknkjgdaaDoorWr
import Derived.Test.YthkgnhcknkjgdaaDoorWv
set_option linter.unusedSimpArgs false
set_option linter.unusedVariables false
namespace Go.Proofs.YthkgnhcknkjgdaaDoor
open Go.RowKit Go
open Go.K (setd setn ev nth over cl eI eP eT setM setF)
attribute [local irreducible] K.blk K.row
theorem bs8 : K.Bs Tryd.prog 22 8 [(0, .int .i64 0), (1, .int .i64 10), (2, .int .i64 0), (3, .int .i64 20), (4, .int .i64 0), (5, .int .i64 0), (6, .int .i64 0), (7, .int .i64 0)] 3 [.int .i64 0, .int .i64 10, .int .i64 0, .int .i64 20, .int .i64 0, .int .i64 0, .int .i64 0, .int .i64 0] := fun w => by kernel_rfl
theorem blO : K.Bl Tryd.prog 54 [(0, .string oakS), (3, .int .i64 30), (4, .int .i64 60)] (.agg #[.string oakS, .int .i64 0, .int .i64 0, .int .i64 30, .int .i64 60]) := fun w => by kernel_rfl
theorem blE : K.Bl Tryd.prog 54 [(0, .string elmS), (1, .int .i64 2), (3, .int .i64 26), (4, .int .i64 100)] (.agg #[.string elmS, .int .i64 2, .int .i64 0, .int .i64 26, .int .i64 100]) := fun w => by kernel_rfl
theorem blA (most : Int) : K.Bl Tryd.prog 54 [(0, .string ashS), (1, .int .i64 3), (3, .int .i64 5), (4, .int .i64 most)] (.agg #[.string ashS, .int .i64 3, .int .i64 0, .int .i64 5, .int .i64 most]) := fun w => by kernel_rfl
theorem bs3P (most : Int) : K.Bs Tryd.prog 23 3 [(0, .agg #[.string oakS, .int .i64 0, .int .i64 0, .int .i64 30, .int .i64 60]), (1, .agg #[.string elmS, .int .i64 2, .int .i64 0, .int .i64 26, .int .i64 100]), (2, .agg #[.string ashS, .int .i64 3, .int .i64 0, .int .i64 5, .int .i64 most])] 54 [.string oakS, .int .i64 0, .int .i64 0, .int .i64 30, .int .i64 60, .string elmS, .int .i64 2, .int .i64 0, .int .i64 26, .int .i64 100, .string ashS, .int .i64 3, .int .i64 0, .int .i64 5, .int .i64 most] := fun w => by kernel_rfl
theorem bl61c : K.Bl Tryd.prog 61 [(0, .int .i64 30), (1, .int .i64 100)] (.agg #[.int .i64 30, .int .i64 100]) := fun w => by kernel_rfl
theorem bl63c : K.Bl Tryd.prog 63 [(0, .int .i64 (-2)), (2, .agg #[.int .i64 30, .int .i64 100])] (.agg #[.int .i64 (-2), .int .i64 0, .int .i64 30, .int .i64 100]) := fun w => by kernel_rfl
theorem bs1S : K.Bs Tryd.prog 24 1 [(0, .agg #[.int .i64 (-2), .int .i64 0, .int .i64 30, .int .i64 100])] 63 [.int .i64 (-2), .int .i64 0, .int .i64 30, .int .i64 100] := fun w => by kernel_rfl
theorem bl26c (a b c : Nat) : K.Bl Tryd.prog 26 [(0, .int .i64 4), (1, .int .i64 2), (2, .slice (some ⟨a, 0, none⟩) 8 8), (3, .slice (some ⟨b, 0, none⟩) 3 3), (4, .slice (some ⟨c, 0, none⟩) 1 1)] (.agg #[.int .i64 4, .int .i64 2, .slice (some ⟨a, 0, none⟩) 8 8, .slice (some ⟨b, 0, none⟩) 3 3, .slice (some ⟨c, 0, none⟩) 1 1]) := fun w => by kernel_rfl
theorem bsI2 (a b : Int) : K.Bs Tryd.prog 22 2 [(0, .int .i64 a), (1, .int .i64 b)] 3 ([a, b].flatMap K.eI) := fun w => by kernel_rfl
theorem bsI1 (a : Int) : K.Bs Tryd.prog 22 1 [(0, .int .i64 a)] 3 ([a].flatMap K.eI) := fun w => by kernel_rfl
theorem bsI3 (a b c : Int) : K.Bs Tryd.prog 22 3 [(0, .int .i64 a), (1, .int .i64 b), (2, .int .i64 c)] 3 ([a, b, c].flatMap K.eI) := fun w => by kernel_rfl

theorem list_ext {a b : List Int} (hl : a.length = b.length) (h : ∀ j, j < a.length → a.getD j default = b.getD j default) : a = b := by
  apply List.ext_getElem hl
  intro i h1 h2
  have := h i h1
  rwa [List.getD_eq_getElem?_getD, List.getD_eq_getElem?_getD, List.getElem?_eq_getElem h1, List.getElem?_eq_getElem h2] at this

set_option maxRecDepth 100000 in
theorem c20 {A B : Option Addr} {c d : Nat} {xs ys : List Int} {w : World} (hX : K.Rd w A 1 K.eI xs) (hY : K.Rd w B 1 K.eI ys) (hn : xs.length ≤ 1000000) (hm : ys.length ≤ 1000000) :
    Calls Tryd.prog 20 [.slice A xs.length c, .slice B ys.length d].toArray w (K.Gives (.bool (decide (xs = ys))) w) := by
  refine K.enter (args := [.slice A xs.length c, .slice B ys.length d]) Tryd.func20 rfl (n := 24) rfl ?_
  simp only [List.replicate, List.cons_append, List.nil_append]
  refine sr ?_
  refine qa ?_
  refine sn ?_
  refine K.seq ?_
  refine sr ?_
  refine qm ?_
  refine qp (K.len_sl sl_22 rfl) ?_
  refine qm ?_
  refine qp (K.len_sl sl_22 rfl) ?_
  refine qp (K.neq rfl rfl) ?_
  refine sn ?_
  refine K.cond rfl (fun ht10 => ?_) (fun ht10 => ?_)
  · try replace ht10 := of_decide_eq_true ht10
    refine sr ?_
    refine qa ?_
    refine sn ?_
    refine K.ret ?_
    refine K.ret_then ?_
    refine K.end_ret (fun w _ => K.res_tmp rfl w) ?_
    exact K.gives_b rfl (by rw [eq_comm, decide_eq_false_iff_not]; intro h; subst h; omega)
  try replace ht10 := of_decide_eq_false ht10
  have hlen : xs.length = ys.length := by omega
  refine K.skip ?_
  refine K.norm_then ?_
  refine K.seq ?_
  refine sr ?_
  refine qa ?_
  refine sn ?_
  refine K.block ?_
  refine K.loopW [5] [4, 11, 12, 13, 14, 15, 16, 17, 18, 19, 20, 21, 22, 23, 24, 25] (fun vi L => ∃ k : Nat, vi = [.int .i64 (k : Int)] ∧ L = [] ∧ k ≤ xs.length ∧ ∀ j, j < k → xs.getD j default = ys.getD j default) (fun vi => xs.length - (intOf (K.nth vi 0)).toNat) ?_ ?_
  · exact ⟨0, rfl, rfl, Nat.zero_le _, fun j hj => absurd hj (Nat.not_lt_zero j)⟩
  intro vi vr L hJ
  obtain ⟨k, rfl, rfl, hkn, hall⟩ := hJ
  try dsimp only [setd, setn, ev, nth, over, cl, eI, eP, eT, eN, eS, setM, setF, List.map, List.append, List.drop, List.take]
  refine K.seq ?_
  refine sr ?_
  iterate 2 refine qm ?_
  refine qp (K.len_sl sl_22 rfl) ?_
  refine qp (K.lss rfl rfl) ?_
  refine sn ?_
  refine K.cond rfl (fun ht14 => ?_) (fun ht14 => ?_)
  · try replace ht14 := of_decide_eq_true ht14
    have hk : k < xs.length := by omega
    refine K.skip ?_
    refine K.norm_then ?_
    refine K.seq ?_
    refine K.block ?_
    refine K.seq ?_
    refine K.draw_L [] Tryd_mixed ?_
    refine K.d_pure 0 rfl (K.move) (by kernel_rfl) rfl ?_
    refine zn ?_
    refine K.d_pure 1 rfl (K.move) (by kernel_rfl) rfl ?_
    refine zn ?_
    refine K.d_ix (M := []) 2 k rfl hX.sl sl_22 rfl rfl rfl (by omega) (by kernel_rfl) rfl ?_
    intro p19 hp19
    refine zN ?_
    refine K.d_mem 3 rfl (K.load1 one_3 rfl hp19.any) (fun _ h => h) (by kernel_rfl) (by kernel_rfl) rfl ?_
    refine zN ?_
    refine K.d_pure 4 rfl (K.move) (by kernel_rfl) rfl ?_
    refine zn ?_
    refine K.d_pure 5 rfl (K.move) (by kernel_rfl) rfl ?_
    refine zn ?_
    refine K.d_ix (M := []) 6 k rfl hY.sl sl_22 rfl rfl rfl (by omega) (by kernel_rfl) rfl ?_
    intro p23 hp23
    refine zN ?_
    refine K.d_mem 7 rfl (K.load1 one_3 rfl hp23.any) (fun _ h => h) (by kernel_rfl) (by kernel_rfl) rfl ?_
    refine zN ?_
    refine K.d_pure 8 rfl (K.neq rfl rfl) (by kernel_rfl) rfl ?_
    refine zn ?_
    refine K.d_done (by kernel_rfl) ?_
    refine K.norm_then ?_
    refine K.cond rfl (fun ht25 => ?_) (fun ht25 => ?_)
    · try replace ht25 := of_decide_eq_true ht25
      refine sr ?_
      refine qa ?_
      refine sn ?_
      refine K.ret ?_
      refine K.ret_block ?_
      refine K.ret_then ?_
      refine K.ret_then ?_
      refine K.ret_block ?_
      refine K.ret_then ?_
      refine K.end_ret (fun w _ => K.res_tmp rfl w) ?_
      exact K.gives_b rfl (by rw [eq_comm, decide_eq_false_iff_not]; intro h; rw [h] at ht25; exact ht25 rfl)
    try replace ht25 := of_decide_eq_false ht25
    refine K.skip ?_
    refine K.norm_block ?_
    refine K.norm_then ?_
    refine K.region_lit ?_
    refine qm ?_
    refine qp (K.add_i64 rfl rfl (by omega)) ?_
    refine qa ?_
    refine K.seq_nil ?_
    exact K.round_endW [.int .i64 ((k : Int) + 1)] ⟨k + 1, rfl, rfl, by omega, K.lt_succ_case hall (Decidable.not_not.1 ht25)⟩ (by simp [K.nth, intOf]; omega) (List.Sublist.refl _) (by kernel_rfl)
  try replace ht14 := of_decide_eq_false ht14
  refine K.exit ?_
  refine K.exit_then ?_
  refine K.exit_then ?_
  refine K.exit_here ?_
  refine K.norm_then ?_
  refine sr ?_
  refine qa ?_
  refine sn ?_
  refine K.ret ?_
  refine K.end_ret (fun w _ => K.res_tmp rfl w) ?_
  exact K.gives_b rfl (by rw [eq_comm, decide_eq_true_iff]; exact list_ext hlen (fun j hj => hall j (by omega)))

theorem c20t {A B : Option Addr} {c d : Nat} {xs : List Int} {w : World} (hX : K.Rd w A 1 K.eI xs) (hY : K.Rd w B 1 K.eI xs) (hn : xs.length ≤ 1000000) : Calls Tryd.prog 20 [.slice A xs.length c, .slice B xs.length d].toArray w (K.Gives (.bool true) w) := by
  have h := c20 (c := c) (d := d) hX hY hn hn
  rwa [decide_eq_true rfl] at h


set_option maxRecDepth 100000 in
theorem c36 {most : Int} (w : World) :
    Calls Tryd.prog 36 [.int .i64 most].toArray w (K.Ret (fun _ : Nat × Nat × Nat => True) (fun r => .agg #[.int .i64 4, .int .i64 2, .slice (some ⟨r.1, 0, none⟩) 8 8, .slice (some ⟨r.2.1, 0, none⟩) 3 3, .slice (some ⟨r.2.2, 0, none⟩) 1 1]) (fun r => [K.blk r.2.2 63 [.int .i64 (-2), .int .i64 0, .int .i64 30, .int .i64 100], K.blk r.2.1 54 [.string oakS, .int .i64 0, .int .i64 0, .int .i64 30, .int .i64 60, .string elmS, .int .i64 2, .int .i64 0, .int .i64 26, .int .i64 100, .string ashS, .int .i64 3, .int .i64 0, .int .i64 5, .int .i64 most], K.blk r.1 3 [.int .i64 0, .int .i64 10, .int .i64 0, .int .i64 20, .int .i64 0, .int .i64 0, .int .i64 0, .int .i64 0]]) w) := by
  refine K.enter (args := [.int .i64 most]) Tryd.func36 rfl (n := 12) rfl ?_
  simp only [List.replicate, List.cons_append, List.nil_append]
  refine sr ?_
  refine K.seq_new (K.alloc zr_26) rfl ?_
  intro b2
  refine zN ?_
  refine sn ?_
  refine sr ?_
  refine K.seq_new (K.buildSlice (bs8)) rfl ?_
  intro b3
  refine zN ?_
  refine K.seq_pure (K.build (blO)) rfl ?_
  refine zN ?_
  refine K.seq_pure (K.build (blE)) rfl ?_
  refine zN ?_
  refine qm ?_
  refine K.seq_pure (K.build (blA _)) rfl ?_
  refine zN ?_
  refine K.seq_new (K.buildSlice (bs3P _)) rfl ?_
  intro b8
  refine zN ?_
  refine K.seq_pure (K.build (bl61c)) rfl ?_
  refine zN ?_
  refine K.seq_pure (K.build (bl63c)) rfl ?_
  refine zN ?_
  refine K.seq_new (K.buildSlice (bs1S)) rfl ?_
  intro b11
  refine zN ?_
  refine K.seq_pure (K.build (bl26c _ _ _)) rfl ?_
  refine zN ?_
  refine K.seq_st (K.store_all sz_26 rfl rfl rfl rfl (K.rp3)) rfl ?_
  refine zN ?_
  refine sn ?_
  refine K.ret ?_
  refine K.end_ret (fun w hw => K.res_c rfl rfl (K.run_cellA ag_26 rfl (K.m3) rfl w hw)) ?_
  exact K.rets_v (b3, b8, b11) trivial rfl rfl (List.Sublist.cons_cons _ (List.Sublist.cons_cons _ (List.Sublist.cons_cons _ (List.nil_sublist _))))

end Go.Proofs.YthkgnhcknkjgdaaDoor
