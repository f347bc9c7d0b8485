/-
  Walks of the program's functions, printed by program: what each returns.
  Conditions stand in each theorem.
-/
import Derived.WalkArith
import Derived.Laws.Closers25b
import Derived.Test.YthkgnhcknkjgdaaDoorWj
set_option linter.unusedSimpArgs false
set_option linter.unusedVariables false
namespace Go.Proofs.YthkgnhcknkjgdaaDoor
open Go.RowKit Go
open Go.K (setd setn ev nth over cl eI eP eT setM setF)
attribute [local irreducible] K.blk K.row
/-- The table of math/bits lies where it was laid. -/
def Tab (w : World) : Prop := 1 < w.heap.size ∧ K.PtrL w [] ⟨1, 0, none⟩ tab64
theorem Tab.pass {w0 w : World} {F : List K.Chunk} (h : Tab w0) (hw : K.St w0 F w) : Tab w := ⟨K.lt_into h.1 hw, h.2.into h.1 hw⟩

set_option maxRecDepth 100000 in
theorem c109 {x : Int} {w : World} (hT : Tab w) (hx : 1 ≤ x ∧ x ≤ 63) :
    Calls Tryd.prog 109 [.int .u64 x].toArray w (K.Gives (.int .i64 (tzS x)) w) := by
  obtain ⟨hi, hta, htz⟩ := idx_at hx
  refine K.enter (args := [.int .u64 x]) Tryd.func109 rfl (n := 13) rfl ?_
  simp only [List.replicate, List.cons_append, List.nil_append]
  refine sr ?_
  refine qa ?_
  refine sn ?_
  refine K.seq ?_
  refine sr ?_
  refine qm ?_
  refine qp (K.eql rfl rfl) ?_
  refine sn ?_
  refine K.cond_false (by exact congrArg Value.bool (decide_eq_false (by omega))) ?_
  refine K.skip ?_
  refine K.norm_then ?_
  refine sr ?_
  iterate 2 refine qm ?_
  refine qp (K.neg_wrap rfl) ?_
  refine qp (K.and_int rfl rfl) ?_
  refine qp (K.mul_wrap rfl rfl) ?_
  refine qp (K.Pure.eq (K.shr_int rfl rfl (by omega)) (show _ = Value.int .u64 (idxZ x) from rfl)) ?_
  refine K.seq_pure (K.indexAddr_ar ar_150 rfl rfl (by omega) (by omega)) rfl ?_
  refine zN ?_
  refine K.seq_sil (K.load_at one_5 rfl hT.2.any hta) rfl ?_
  refine zN ?_
  refine K.seq_pure (K.Pure.eq (K.conv_int ik_5 ik_3 rfl) (show _ = Value.int .i64 (tzS x) from by rw [IntWalk.i64_in _ (by omega)])) rfl ?_
  refine zN ?_
  refine qa ?_
  refine sn ?_
  refine K.ret ?_
  refine K.end_ret (fun w _ => K.res_tmp rfl w) ?_
  exact K.gives rfl

set_option maxRecDepth 100000 in
theorem c99 {x : Int} {w : World} (hT : Tab w) (hx : 1 ≤ x ∧ x ≤ 63) :
    Calls Tryd.prog 99 [.int .u64 x].toArray w (K.Gives (.int .i64 (tzS x)) w) := by
  refine K.enter (args := [.int .u64 x]) Tryd.func99 rfl (n := 7) rfl ?_
  simp only [List.replicate, List.cons_append, List.nil_append]
  refine sr ?_
  refine qa ?_
  refine sn ?_
  refine K.seq ?_
  refine K.cond_false rfl ?_
  refine K.skip ?_
  refine K.norm_then ?_
  refine sr ?_
  refine qm ?_
  refine K.seq_call (K.call_g cal_109 (fun F w hF hw => c109 (hT.pass hw) hx)) rfl ?_
  refine zN ?_
  refine qa ?_
  refine sn ?_
  refine K.ret ?_
  refine K.end_ret (fun w _ => K.res_tmp rfl w) ?_
  exact K.gives rfl

set_option maxRecDepth 100000 in
theorem c68 {s : Int} {w : World} (hT : Tab w) (hs : 0 ≤ s ∧ s ≤ 63) :
    Calls Tryd.prog 68 [.int .i64 s].toArray w (K.RetS 3 1 K.eI (bitsL s) w) := by
  refine K.enter (args := [.int .i64 s]) Tryd.func68 rfl (n := 15) rfl ?_
  simp only [List.replicate, List.cons_append, List.nil_append]
  refine sr ?_
  refine qa ?_
  refine sn ?_
  refine K.seq ?_
  refine K.block ?_
  refine K.nil_row (e := 3) (size := 1) ?_
  refine K.loopW [0, 2] [3, 4, 5, 6, 7, 8, 9, 10, 11, 12, 13, 14] (fun vi L => ∃ (c1 : Int) (xs : List Int) (Q1 : Option Addr) (q1 : Nat), vi = [.int .i64 c1, .slice Q1 xs.length q1] ∧ L = [K.row (.slice Q1 xs.length q1) 3 1 xs.length (xs.flatMap K.eI)] ∧ (0 ≤ c1 ∧ c1 ≤ 63) ∧ bitsL s = xs ++ bitsL c1) (fun vi => (intOf (K.nth vi 0)).toNat) ?_ ?_
  · exact ⟨s, [], none, 0, rfl, rfl, hs, rfl⟩
  intro vi vr L hJ
  obtain ⟨c1, xs, Q1, q1, rfl, rfl, hc, hxs⟩ := hJ
  try dsimp only [setd, setn, ev, nth, over, cl, eI, eP, eT, eN, eS, setM, setF, List.map, List.append, List.drop, List.take]
  refine K.seq ?_
  refine sr ?_
  refine qm ?_
  refine qp (K.neq rfl rfl) ?_
  refine sn ?_
  refine K.cond rfl (fun ht4 => ?_) (fun ht4 => ?_)
  · try replace ht4 := of_decide_eq_true ht4
    have hb1 := bits_at (x := c1) (by omega)
    have hxl : xs.length ≤ 6 := by have := congrArg List.length hxs; rw [List.length_append] at this; have := bits_len (x := s); omega
    refine K.skip ?_
    refine K.norm_then ?_
    refine K.seq ?_
    refine K.block ?_
    refine K.region_lit ?_
    iterate 2 refine qm ?_
    refine K.seq_pure (K.Pure.eq (K.conv_int ik_3 ik_124 rfl) (show _ = Value.int .u64 c1 from by rw [IntWalk.u64_in _ (by omega)])) rfl ?_
    refine zN ?_
    refine K.seq_call (K.call_g cal_99 (fun F w hF hw => c99 (hT.pass hw) (by omega))) rfl ?_
    refine zN ?_
    refine K.seq_new (K.buildSlice (bs1 _)) rfl ?_
    intro b13
    refine zN ?_
    refine K.seq_upd (K.append el_22 rfl rfl (K.PtrL.own' (K.m0)) rfl rfl (by decide) (by omega) (by omega) (fun _ _ => K.rp1)) rfl ?_
    rintro ⟨g14, c14⟩ _
    refine zN ?_
    refine qa ?_
    refine K.seq_nil ?_
    refine K.norm_block ?_
    refine K.norm_then ?_
    refine K.region_lit ?_
    iterate 2 refine qm ?_
    refine qp (K.sub_i64 rfl rfl (by omega)) ?_
    refine qp (K.Pure.eq (K.and_int rfl rfl) (show _ = Value.int .i64 (andS c1) from rfl)) ?_
    refine qa ?_
    refine K.seq_nil ?_
    have hm1 : (andS c1).toNat < c1.toNat := by omega
    exact K.round_endW (L'' := [K.row (.slice (some ⟨g14, 0, none⟩) (xs.length + 1) c14) 3 1 (xs.length + 1) (xs.flatMap K.eI ++ [.int .i64 (tzS c1)])]) [.int .i64 (andS c1), .slice (some ⟨g14, 0, none⟩) (xs.length + 1) c14] ⟨andS c1, xs ++ [tzS c1], some ⟨g14, 0, none⟩, c14, by rw [List.length_append]; rfl, by rw [List.length_append, List.flatMap_append]; rfl, by omega, by rw [hxs, hb1.2, List.append_assoc]; rfl⟩ hm1 (by repeat (first | exact List.Sublist.refl _ | apply List.Sublist.cons)) (by kernel_rfl)
  try replace ht4 := of_decide_eq_false ht4
  refine K.exit ?_
  refine K.exit_then ?_
  refine K.exit_then ?_
  refine K.exit_here ?_
  refine K.norm_then ?_
  refine sr ?_
  refine qm ?_
  refine qa ?_
  refine sn ?_
  refine K.ret ?_
  refine K.end_ret (fun w _ => K.res_tmp rfl w) ?_
  have h0 : c1 = 0 := Decidable.not_not.1 ht4
  subst h0
  rw [bits_0, List.append_nil] at hxs
  exact K.rets_s K.m0 (by rw [hxs]) (by rw [hxs]) rfl

end Go.Proofs.YthkgnhcknkjgdaaDoor
