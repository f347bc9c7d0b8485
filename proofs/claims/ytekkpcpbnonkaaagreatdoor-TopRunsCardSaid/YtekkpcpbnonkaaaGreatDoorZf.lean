/-
  Lemmas and walks of functions, joined and with only what the claim needs.
  Conditions stand in each theorem.
-/
import Derived.Test.YtekkpcpbnonkaaaGreatDoorProg
import Derived.Test.YtekkpcpbnonkaaaGreatDoorRows
import Derived.Below
import Derived.Laws.AppendOwn
import Derived.Laws.Rows
import Derived.Laws.Slices
import Derived.Tactics
import Derived.OrdersHeld
import Derived.KernelRfl
import Derived.WalkKit
import Derived.Deep.AppendLies
import Derived.IntWalk
import Derived.Scope
import Derived.WalkSpells
import Derived.DeepKeys
import Derived.Deep.Upon
import Derived.Laws.Small
import Derived.RangeFuncLeaves
import Derived.RangeFuncSeq
import Derived.OrdersIn
import Derived.Sort.LoopGhostIn
import Derived.TacticsIn
import Derived.RangeFuncOwn
import Derived.WideKeyMaps
import Derived.DeepKeys4
import Derived.Carry
import Derived.Laws.CopyRow
import Derived.Laws.Strings
import Derived.WalkArith
import Derived.Laws.Closers25b
import Derived.ProofKit
import Derived.OpenShut
import Derived.LaidMore
import Derived.Lay
import Derived.Stop.Joined
import Derived.ChangeOld
import Derived.SizedLaws
import Derived.Deep.Slices
import Derived.Deep.Fields
import Derived.ChangeSame
import Derived.Lib.SmallJoins
import Derived.Laws.MakeOwn
import Derived.Shelf.Sort.Plain
import Derived.Sort.OwnSortedInts
import Derived.SevenTiedAt
import Derived.Test.YtekkpcpbnonkaaaGreatDoorZe
section
set_option linter.unusedSimpArgs false
set_option linter.unusedVariables false
namespace Go.Proofs.YtekkpcpbnonkaaaGreatDoor.Rv
open Go.RowKit Go
open Go.K (setd setn ev nth over cl eI eP eT setM setF)
attribute [local irreducible] K.blk K.row
theorem bl79 {A : Option Addr} {n c : Nat} (S : Value) (h : S = .slice A n c) : K.Bl Tryz.prog 82 [(0, S)] (.agg (S :: dcell (fun _ _ => 0)).toArray) := fun w => by subst h; kernel_rfl

set_option maxRecDepth 100000 in
theorem c54 {r : List RvT} {A : Option Addr} {c : Nat} {b i : Nat} {w : World} (hX : K.PtrL w [] ⟨b, 0, none⟩ (.slice A r.length c :: dcell (drT r))) (hXb : b < w.heap.size) (hR : K.Rd w A 4 eR r) (hi : i < r.length) :
    Calls Tryz.prog 48 [.pointer (some ⟨b, 0, none⟩), .int .i64 (i : Int)].toArray w (K.Gives (.int .i64 (r.getD i default).ht) w) := by
  refine K.enter (args := [.pointer (some ⟨b, 0, none⟩), .int .i64 (i : Int)]) Tryz.func48 rfl (n := 11) rfl ?_
  simp only [List.replicate, List.cons_append, List.nil_append]
  refine sr ?_
  refine qa ?_
  refine sn ?_
  refine sr ?_
  refine qm ?_
  refine qp (K.nilCheck rfl) ?_
  refine qp (K.fieldAddr_lit fo_82_0 rfl) ?_
  refine K.seq_sil (K.load_at one_78 rfl (hX.any) rfl) rfl ?_
  refine zN ?_
  refine qm ?_
  refine K.seq_ix (M := []) _ hR.sl sl_78 rfl rfl rfl (by omega) rfl ?_
  intro p10 hp10
  refine zN ?_
  refine qp (K.fieldAddr fo_34_3 rfl) ?_
  refine K.seq_sil (K.load1 one_3 rfl ((K.PtrL.fld hp10 (k := 3)).any)) rfl ?_
  refine zN ?_
  refine qa ?_
  refine sn ?_
  refine K.ret ?_
  refine K.end_ret (fun w _ => K.res_tmp rfl w) ?_
  exact K.gives rfl

set_option maxRecDepth 100000 in
theorem c53 {r : List RvT} {A : Option Addr} {c : Nat} {b i : Nat} {w : World} (hX : K.PtrL w [] ⟨b, 0, none⟩ (.slice A r.length c :: dcell (drT r))) (hXb : b < w.heap.size) (hR : K.Rd w A 4 eR r) (g : Good r) (hi : i < r.length) :
    Calls Tryz.prog 47 [.pointer (some ⟨b, 0, none⟩), .int .i64 (i : Int), .func (.func 48) #[.pointer (some ⟨b, 0, none⟩)] #[]].toArray w (K.Gives (.bool (!badB r (ownS r) i)) w) := by
  have hpi := g.p i hi
  have hgn := g.n
  refine K.enter (args := [.pointer (some ⟨b, 0, none⟩), .int .i64 (i : Int), .func (.func 48) #[.pointer (some ⟨b, 0, none⟩)] #[]]) Tryz.func47 rfl (n := 28) rfl ?_
  simp only [List.replicate, List.cons_append, List.nil_append]
  refine sr ?_
  refine qa ?_
  refine sn ?_
  refine sr ?_
  refine qm ?_
  refine qp (K.nilCheck rfl) ?_
  refine qp (K.fieldAddr_lit fo_82_0 rfl) ?_
  refine K.seq_sil (K.load_at one_78 rfl (hX.any) rfl) rfl ?_
  refine zN ?_
  refine qm ?_
  refine K.seq_ix (M := []) _ hR.sl sl_78 rfl rfl rfl (by omega) rfl ?_
  intro p13 hp13
  refine zN ?_
  refine K.seq_sil (K.loadA_p ag_34 rfl (hp13.any) rfl) rfl ?_
  refine zN ?_
  refine K.seq_new (K.alloc zr_34) rfl ?_
  intro b7
  refine zN ?_
  refine K.seq_st (K.store_all sz_34 rfl rfl rfl rfl (K.rp0)) rfl ?_
  refine zN ?_
  refine sn ?_
  refine K.seq ?_
  refine K.draw_L [] Tryz_mixed ?_
  refine K.d_pure 0 rfl (K.fieldAddr_lit fo_34_1 rfl) (by kernel_rfl) rfl ?_
  refine zn ?_
  refine K.d_mem 1 rfl (K.load1_own one_3 rfl (K.m0) rfl) (fun _ h => h) (by kernel_rfl) (by kernel_rfl) rfl ?_
  refine zN ?_
  refine K.d_pure 2 rfl (K.eql rfl rfl) (by kernel_rfl) rfl ?_
  refine zn ?_
  refine K.d_pure 3 rfl (K.move) (by kernel_rfl) rfl ?_
  refine zn ?_
  refine K.dsplit 18 rfl (fun hg18 => ?_) (fun hg18 => ?_)
  · try replace hg18 := of_decide_eq_true hg18
    refine K.d_skip 4 rfl (by kernel_rfl) rfl ?_
    refine zN ?_
    refine K.d_skip 5 rfl (by kernel_rfl) rfl ?_
    refine zN ?_
    refine K.d_skip 6 rfl (by kernel_rfl) rfl ?_
    refine zN ?_
    refine K.d_skip 7 rfl (by kernel_rfl) rfl ?_
    refine zN ?_
    refine K.d_skip 8 rfl (by kernel_rfl) rfl ?_
    refine zN ?_
    refine K.d_skip 9 rfl (by kernel_rfl) rfl ?_
    refine zN ?_
    refine K.d_skip 10 rfl (by kernel_rfl) rfl ?_
    refine zN ?_
    refine K.d_skip 11 rfl (by kernel_rfl) rfl ?_
    refine zN ?_
    refine K.d_skip 12 rfl (by kernel_rfl) rfl ?_
    refine zN ?_
    refine K.d_skip 13 rfl (by kernel_rfl) rfl ?_
    refine zN ?_
    refine K.d_skip 14 rfl (by kernel_rfl) rfl ?_
    refine zN ?_
    refine K.d_pure 15 rfl (K.pick_t rfl) (by kernel_rfl) rfl ?_
    refine zn ?_
    refine K.d_pure 16 rfl (K.assign) (by kernel_rfl) rfl ?_
    refine zn ?_
    refine K.d_done (by kernel_rfl) ?_
    refine K.norm_then ?_
    refine K.ret ?_
    refine K.end_ret (fun w _ => K.res_tmp rfl w) ?_
    have hb : badB r (ownS r) i = false := bad_no.2 (.inl hg18)
    exact K.gives_b rfl (by rw [hb]; rfl)
  try replace hg18 := of_decide_eq_false hg18
  have hd : (r.getD i default).dn ≠ -1 := hg18
  have hdl := dn_lt g hi hd
  have hdv : (((r.getD i default).dn.toNat : Nat) : Int) = (r.getD i default).dn := by omega
  have hpd := g.p _ hdl
  refine K.d_pure 4 rfl (K.move) (by kernel_rfl) rfl ?_
  refine zn ?_
  refine K.d_pure 5 rfl (K.move) (by kernel_rfl) rfl ?_
  refine zn ?_
  refine K.d_pure 7 rfl (K.move) (by kernel_rfl) rfl ?_
  refine zn ?_
  refine K.d_pure 8 rfl (K.fieldAddr_lit fo_34_1 rfl) (by kernel_rfl) rfl ?_
  refine zn ?_
  refine K.d_mem 9 rfl (K.load1_own one_3 rfl (K.m0) rfl) (fun _ h => h) (by kernel_rfl) (by kernel_rfl) rfl ?_
  refine zN ?_
  refine K.d_pure 11 rfl (K.fieldAddr_lit fo_34_2 rfl) (by kernel_rfl) rfl ?_
  refine zn ?_
  refine K.d_mem 12 rfl (K.load1_own one_3 rfl (K.m0) rfl) (fun _ h => h) (by kernel_rfl) (by kernel_rfl) rfl ?_
  refine zN ?_
  refine K.d_call 6 rfl (K.callv_g (first := [.pointer (some ⟨b, 0, none⟩)]) (cap := []) rfl cal_54 (fun F w hF hw => c54 (hX.into hXb hw) (K.lt_into hXb hw) (hR.pass hw) hi)) (fun _ h => h) (by kernel_rfl) rfl ?_
  refine zN ?_
  refine K.d_call 10 rfl (K.callv_g (first := [.pointer (some ⟨b, 0, none⟩)]) (cap := []) rfl cal_54 (fun F w hF hw => (by have hg := c54 (i := (r.getD i default).dn.toNat) (hX.into hXb hw) (K.lt_into hXb hw) (hR.pass hw) hdl; rw [hdv] at hg; exact hg))) (fun _ h => h) (by kernel_rfl) rfl ?_
  refine zN ?_
  refine K.d_pure 13 rfl (K.add_i64 rfl rfl (by omega)) (by kernel_rfl) rfl ?_
  refine zn ?_
  refine K.d_pure 14 rfl (K.geq rfl rfl) (by kernel_rfl) rfl ?_
  refine zn ?_
  refine K.d_pure 15 rfl (K.pick_f rfl) (by kernel_rfl) rfl ?_
  refine zn ?_
  refine K.d_pure 16 rfl (K.assign) (by kernel_rfl) rfl ?_
  refine zn ?_
  refine K.d_done (by kernel_rfl) ?_
  refine K.norm_then ?_
  refine K.ret ?_
  refine K.end_ret (fun w _ => K.res_tmp rfl w) ?_
  exact K.gives_b rfl (by rw [Bool.eq_iff_iff, decide_eq_true_eq, Bool.not_eq_true', bad_no, own_at hi, own_at hdl]; exact ⟨fun h => .inr (by omega), fun h => by rcases h with h | h <;> omega⟩)

set_option maxRecDepth 100000 in
theorem e52 {r : List RvT} {A : Option Addr} {c : Nat} {w : World} (hR : K.Rd w A 4 eR r) (hn : r.length ≤ 4611686018427387904) (hc : (chk r).2.2 ≠ 0) :
    Calls Tryz.prog 36 [.slice A r.length c].toArray w (K.Gives (.tuple #[.pointer none, .int .i64 (chk r).2.2]) w) := by
  refine R.enter (args := [.slice A r.length c]) Tryz.func36 rfl (m := 55) rfl ?_
  simp only [List.replicate, List.cons_append, List.nil_append]
  refine R.seq ?_
  refine R.region_lit rfl ?_
  refine K.seq_new (K.alloc zr_72) rfl ?_
  intro b2
  refine zN ?_
  refine qa ?_
  refine K.seq_nil ?_
  refine R.out ?_
  refine R.norm_then ?_
  refine R.seq ?_
  refine R.seq ?_
  refine R.region_lit rfl ?_
  refine qm ?_
  refine K.seq_call (K.call_g cal_35 (fun F w hF hw => c14 (hR.pass hw) hn)) rfl ?_
  refine zN ?_
  refine qm ?_
  refine qx ?_
  refine qx ?_
  refine qx ?_
  refine qa ?_
  refine K.seq_nil ?_
  refine R.out ?_
  refine R.norm_then ?_
  refine R.seq ?_
  refine R.region_lit rfl ?_
  refine qm ?_
  refine qp (K.neq rfl rfl) ?_
  refine K.seq_nil ?_
  refine R.out ?_
  refine R.norm_then ?_
  refine R.cond_true (by exact congrArg Value.bool (decide_eq_true hc)) ?_
  refine R.seq ?_
  refine R.region_lit rfl ?_
  refine qm ?_
  refine K.seq_st (K.store sz_72 rfl rfl rfl rfl (K.rp0)) rfl ?_
  refine zN ?_
  refine qa ?_
  refine K.seq_nil ?_
  refine R.out ?_
  refine R.norm_then ?_
  refine R.ret ?_
  refine R.ret_then ?_
  refine R.end_ret (fun w hw => K.res_ct rfl rfl (K.run_cell1 one_72 rfl (K.m0) w hw)) ?_
  exact K.gives rfl

set_option maxRecDepth 100000 in
set_option maxHeartbeats 1000000 in
theorem g52 {r : List RvT} {A : Option Addr} {c : Nat} {w : World} (hR : K.Rd w A 4 eR r) (hn : r.length ≤ 4611686018427387904) (hc : (chk r).2.2 = 0) :
    Calls Tryz.prog 36 [.slice A r.length c].toArray w (K.Ret (fun _ : Nat => True) (fun b => .tuple #[.pointer (some ⟨b, 0, none⟩), .int .i64 0]) (fun b => [K.blk b 82 (.slice A r.length c :: dcell (drT r))]) w) := by
  have g : Good r := chk_good hc
  have hgn := g.n
  refine R.enter (args := [.slice A r.length c]) Tryz.func36 rfl (m := 55) rfl ?_
  simp only [List.replicate, List.cons_append, List.nil_append]
  refine R.seq ?_
  refine R.region_lit rfl ?_
  refine K.seq_new (K.alloc zr_72) rfl ?_
  intro b2
  refine zN ?_
  refine qa ?_
  refine K.seq_nil ?_
  refine R.out ?_
  refine R.norm_then ?_
  refine R.seq ?_
  refine R.seq ?_
  refine R.region_lit rfl ?_
  refine qm ?_
  refine K.seq_call (K.call_g cal_35 (fun F w hF hw => c14 (hR.pass hw) hn)) rfl ?_
  refine zN ?_
  refine qm ?_
  refine qx ?_
  refine qx ?_
  refine qx ?_
  refine K.seq_pure (K.assign) rfl ?_
  refine zN ?_
  rw [hc]
  refine zN ?_
  refine K.seq_nil ?_
  refine R.out ?_
  refine R.norm_then ?_
  refine R.seq ?_
  refine R.region_lit rfl ?_
  refine qm ?_
  refine qp (K.neq rfl rfl) ?_
  refine K.seq_nil ?_
  refine R.out ?_
  refine R.norm_then ?_
  refine R.cond_false (by exact congrArg Value.bool (decide_eq_false (by omega))) ?_
  refine R.skip ?_
  refine R.norm_then ?_
  refine R.seq ?_
  refine R.region_lit rfl ?_
  refine qm ?_
  refine K.seq_pure (K.build (bl79 _ rfl)) rfl ?_
  refine zN ?_
  try dsimp only [List.toList_toArray]
  refine zN ?_
  refine K.seq_new (K.box) rfl ?_
  intro b19
  refine zN ?_
  refine K.seq_st (K.store sz_72 rfl rfl rfl rfl (K.rp1)) rfl ?_
  refine zN ?_
  refine K.seq_nil ?_
  refine R.out ?_
  refine R.norm_then ?_
  refine R.seq ?_
  refine R.seq ?_
  refine R.region_lit rfl ?_
  refine qm ?_
  refine qp (K.len_sl sl_22 rfl) ?_
  refine qm ?_
  refine K.seq_nil ?_
  refine R.out ?_
  refine R.norm_then ?_
  refine R.block ?_
  refine R.loopD [22] [4, 5, 6, 7, 23, 24, 25, 26, 27, 28, 29, 30, 31, 32, 33, 34, 35, 36, 37, 38, 39, 40, 41, 42, 43, 46, 47, 48, 49, 50, 51, 52, 53, 54] (fun vi L => ∃ i : Nat, vi = [.int .i64 (i : Int)] ∧ L = [K.blk b19 82 (.slice A r.length c :: dcell (dA r i 0)), K.blk b2 72 [.pointer (some ⟨b19, 0, none⟩)]] ∧ i ≤ r.length) (fun vi => r.length - (intOf (K.nth vi 0)).toNat) ?_ ?_
  · rw [← dA_0]
    exact ⟨0, rfl, rfl, Nat.zero_le _⟩
  intro vi vr L bs hJ
  obtain ⟨i, rfl, rfl, hin⟩ := hJ
  try dsimp only [List.cons_append, List.nil_append]
  try dsimp only [setd, setn, ev, nth, over, cl, eI, eP, eT, eR, setM, setF, List.map, List.append, List.drop, List.take]
  refine R.seq ?_
  refine R.region_lit rfl ?_
  refine qp (K.lss rfl rfl) ?_
  refine K.seq_nil ?_
  refine R.out ?_
  refine R.norm_then ?_
  refine R.seq ?_
  refine R.cond rfl (fun ht23 => ?_) (fun ht23 => ?_)
  · try replace ht23 := of_decide_eq_true ht23
    have hi : i < r.length := by omega
    refine R.skip ?_
    refine R.norm_then ?_
    refine R.seq ?_
    refine R.block ?_
    refine R.seq ?_
    refine R.region_lit rfl ?_
    refine qm ?_
    refine K.seq_new (K.alloc zr_3) rfl ?_
    intro b4
    refine zN ?_
    refine K.seq_st (K.store sz_3 rfl rfl rfl rfl (K.rp0)) rfl ?_
    refine zN ?_
    refine K.seq_nil ?_
    refine R.out ?_
    refine R.norm_then ?_
    refine R.seq ?_
    refine R.seq ?_
    refine R.region_lit rfl ?_
    refine qm ?_
    refine qp (K.len_sl sl_22 rfl) ?_
    refine qm ?_
    refine K.seq_nil ?_
    refine R.out ?_
    refine R.norm_then ?_
    refine R.block ?_
    refine R.loopW [27] [5, 28, 29, 30, 31, 32, 33, 34, 35, 36, 37] (fun vi L => ∃ k : Nat, vi = [.int .i64 (k : Int)] ∧ L = [K.blk b4 3 [.int .i64 (i : Int)], K.blk b19 82 (.slice A r.length c :: dcell (dA r i k)), K.blk b2 72 [.pointer (some ⟨b19, 0, none⟩)], R.dfs bs] ∧ k ≤ r.length) (fun vi => r.length - (intOf (K.nth vi 0)).toNat) ?_ ?_
    · exact ⟨0, rfl, rfl, Nat.zero_le _⟩
    intro vi vr L hJ
    obtain ⟨k, rfl, rfl, hkn⟩ := hJ
    try dsimp only [setd, setn, ev, nth, over, cl, eI, eP, eT, eR, setM, setF, List.map, List.append, List.drop, List.take]
    refine R.seq ?_
    refine R.region_lit rfl ?_
    refine qp (K.lss rfl rfl) ?_
    refine K.seq_nil ?_
    refine R.out ?_
    refine R.norm_then ?_
    refine R.seq ?_
    refine R.cond rfl (fun ht28 => ?_) (fun ht28 => ?_)
    · try replace ht28 := of_decide_eq_true ht28
      have hk : k < r.length := by omega
      refine R.skip ?_
      refine R.norm_then ?_
      refine R.seq ?_
      refine R.block ?_
      refine R.seq ?_
      refine R.region_lit rfl ?_
      refine qm ?_
      refine qa ?_
      refine K.seq_nil ?_
      refine R.out ?_
      refine R.norm_then ?_
      refine R.draw_L [7] Tryz_mixed rfl ?_
      refine K.d_mem 0 rfl (K.load1_own one_72 rfl (K.m2) rfl) (fun _ h => h) (by kernel_rfl) (by kernel_rfl) rfl ?_
      refine zN ?_
      refine K.d_mem 1 rfl (K.load1_own one_3 rfl (K.m0) rfl) (fun _ h => h) (by kernel_rfl) (by kernel_rfl) rfl ?_
      refine zN ?_
      refine K.d_pure 2 rfl (K.move) (by kernel_rfl) rfl ?_
      refine zn ?_
      refine K.d_pure 3 rfl (K.nilCheck rfl) (by kernel_rfl) rfl ?_
      refine zn ?_
      refine K.d_pure 4 rfl (K.fieldAddr_lit fo_82_1 rfl) (by kernel_rfl) rfl ?_
      refine zn ?_
      refine K.d_pure 5 rfl (K.indexAddr_ar ar_80 rfl rfl (by omega) (by omega)) (by kernel_rfl) rfl ?_
      refine zN ?_
      refine K.d_pure 6 rfl (K.indexAddr_ar ar_79 rfl rfl (by omega) (by omega)) (by kernel_rfl) rfl ?_
      refine zN ?_
      refine K.d_last 7 rfl (K.store_ix sz_3 rfl rfl (by simp only [List.length_cons, dcell_len]; omega) rfl (K.rp1)) rfl (by kernel_rfl) rfl ?_
      intro _ _
      refine zN ?_
      rw [Int.toNat_natCast i, Int.toNat_natCast k, dA_next (r := r) (i := i) (k := k) (by omega) (by omega)]
      refine zN ?_
      refine K.d_done (by kernel_rfl) ?_
      refine R.out ?_
      refine R.norm_block ?_
      refine R.norm_then ?_
      refine R.region_lit rfl ?_
      refine qp (K.add_i64 rfl rfl (by omega)) ?_
      refine qm ?_
      refine K.seq_nil ?_
      refine R.out ?_
      exact R.round_endW (L'' := [K.blk b4 3 [.int .i64 (i : Int)], K.blk b19 82 (.slice A r.length c :: dcell (dA r i (k + 1))), K.blk b2 72 [.pointer (some ⟨b19, 0, none⟩)], R.dfs bs]) [.int .i64 ((k : Int) + 1)] ⟨k + 1, rfl, rfl, by omega⟩ (by simp [K.nth, intOf]; omega) (by repeat (first | exact List.Sublist.refl _ | apply List.Sublist.cons)) (by kernel_rfl)
    try replace ht28 := of_decide_eq_false ht28
    have hkr : k = r.length := by omega
    subst hkr
    rw [dB_0]
    refine R.exit ?_
    refine R.exit_then ?_
    refine R.exit_then ?_
    refine R.exit_here ?_
    refine R.norm_then ?_
    refine R.seq ?_
    refine R.draw_L [] Tryz_mixed rfl ?_
    refine K.d_mem 0 rfl (K.load1_own one_72 rfl (K.m2) rfl) (fun _ h => h) (by kernel_rfl) (by kernel_rfl) rfl ?_
    refine zN ?_
    refine K.d_pure 1 rfl (K.nilCheck rfl) (by kernel_rfl) rfl ?_
    refine zn ?_
    refine K.d_pure 2 rfl (K.fieldAddr_lit fo_82_0 rfl) (by kernel_rfl) rfl ?_
    refine zn ?_
    refine K.d_mem 3 rfl (K.load1_own one_78 rfl (K.m1) rfl) (fun _ h => h) (by kernel_rfl) (by kernel_rfl) rfl ?_
    refine zN ?_
    refine K.d_mem 4 rfl (K.load1_own one_3 rfl (K.m0) rfl) (fun _ h => h) (by kernel_rfl) (by kernel_rfl) rfl ?_
    refine zN ?_
    refine K.d_loud 5 rfl (K.call_f cal_37 (fun F w hF hw => c57 w)) (fun _ h => h) (by kernel_rfl) rfl ?_
    rintro ⟨q1, q2⟩ _
    refine zN ?_
    refine K.d_done (by kernel_rfl) ?_
    refine R.out ?_
    refine R.norm_then ?_
    refine R.block ?_
    refine R.rangeX (gf := 76) (first := []) (cap := [.pointer (some ⟨q2, 0, none⟩), .pointer (some ⟨q1, 0, none⟩)]) (enc := (fun s : Int × Int => [Value.int .i64 s.1, Value.int .i64 s.2])) (XS := belS r i) (ps := [44, 45]) rfl cal_76 [K.blk b4 3 [.int .i64 (i : Int)], K.blk b19 82 (.slice A r.length c :: dcell (dB r i 0)), K.blk b2 72 [.pointer (some ⟨b19, 0, none⟩)], R.dfs bs] [K.blk q1 78 [.slice A r.length c]] (K.st_perm (show List.Perm [K.blk q2 3 [.int .i64 (i : Int)], K.blk q1 78 [.slice A r.length c], K.blk b4 3 [.int .i64 (i : Int)], K.blk b19 82 (.slice A r.length c :: dcell (dB r i 0)), K.blk b2 72 [.pointer (some ⟨b19, 0, none⟩)], R.dfs bs] ([K.blk b4 3 [.int .i64 (i : Int)], K.blk b19 82 (.slice A r.length c :: dcell (dB r i 0)), K.blk b2 72 [.pointer (some ⟨b19, 0, none⟩)], R.dfs bs] ++ ([K.blk q1 78 [.slice A r.length c]] ++ [K.blk q2 3 [.int .i64 (i : Int)]])) from (List.Perm.trans (List.perm_middle (l₁ := [_, _])) (List.Perm.cons _ (List.Perm.trans (List.perm_middle (l₁ := [_, _])) (List.Perm.cons _ (List.Perm.trans (List.perm_middle (l₁ := [_, _])) (List.Perm.cons _ (List.Perm.trans (List.perm_middle (l₁ := [_, _])) (List.Perm.cons _ (List.Perm.trans (List.perm_middle (l₁ := [_])) (List.Perm.cons _ (List.Perm.refl _))))))))))))) (R.fixC R.fixN) (fun _ => rfl) (c84 (c := c) (A := A) (p := ⟨q1, 0, none⟩) (b := q2) g hi) (fun f w hf hb => ⟨hb, hf.own1 K.m0, hf.oldR hR⟩) (fun k L => L = [K.blk b4 3 [.int .i64 (i : Int)], K.blk b19 82 (.slice A r.length c :: dcell (dB r i k)), K.blk b2 72 [.pointer (some ⟨b19, 0, none⟩)], R.dfs bs]) (fun cX L => False) ?_ ?_ ?_ ?_
    · rfl
    · intro k s L lr E hs hE hJ
      subst hJ
      obtain ⟨hkd, rfl⟩ := bel_some hs
      have hsl := stps_lt g hi k
      dsimp only [R.setP]
      try dsimp only [List.cons_append, List.nil_append]
      try dsimp only [setd, setn, ev, nth, over, cl, eI, eP, eT, eR, setM, setF, List.map, List.append, List.drop, List.take]
      refine R.seq ?_
      refine R.region_lit rfl ?_
      refine qa ?_
      refine K.seq_nil ?_
      refine R.out ?_
      refine R.norm_then ?_
      refine R.region_lit rfl ?_
      refine qa ?_
      refine K.seq_nil ?_
      refine R.out ?_
      refine R.norm_then ?_
      refine R.bodyC' rfl (fun E hE => ?_)
      dsimp only [List.dropLast, List.cons_append, List.nil_append]
      refine zN ?_
      refine R.block ?_
      refine R.draw_L [8] Tryz_mixed rfl ?_
      refine K.d_mem 0 rfl (K.load1_own one_72 rfl (K.m2) rfl) (fun _ h => h) (by kernel_rfl) (by kernel_rfl) rfl ?_
      refine zN ?_
      refine K.d_mem 1 rfl (K.load1_own one_3 rfl (K.m0) rfl) (fun _ h => h) (by kernel_rfl) (by kernel_rfl) rfl ?_
      refine zN ?_
      refine K.d_pure 2 rfl (K.move) (by kernel_rfl) rfl ?_
      refine zn ?_
      refine K.d_pure 3 rfl (K.move) (by kernel_rfl) rfl ?_
      refine zn ?_
      refine K.d_pure 4 rfl (K.nilCheck rfl) (by kernel_rfl) rfl ?_
      refine zn ?_
      refine K.d_pure 5 rfl (K.fieldAddr_lit fo_82_1 rfl) (by kernel_rfl) rfl ?_
      refine zn ?_
      refine K.d_pure 6 rfl (K.indexAddr_ar ar_80 rfl rfl (by omega) (by omega)) (by kernel_rfl) rfl ?_
      refine zN ?_
      refine K.d_pure 7 rfl (K.indexAddr_ar ar_79 rfl rfl (by omega) (by omega)) (by kernel_rfl) rfl ?_
      refine zN ?_
      refine K.d_last 8 rfl (K.store_ix sz_3 rfl rfl (by simp only [List.length_cons, dcell_len]; omega) rfl (K.rp1)) rfl (by kernel_rfl) rfl ?_
      intro _ _
      refine zN ?_
      rw [Int.toNat_natCast i, Int.toNat_natCast (stps r k i), dB_next (r := r) (i := i) (m := k) g hi hkd]
      refine zN ?_
      refine K.d_done (by kernel_rfl) ?_
      refine R.out ?_
      refine R.norm_block ?_
      exact R.rp_normal (L := [K.blk b4 3 [.int .i64 (i : Int)], K.blk b19 82 (.slice A r.length c :: dcell (dB r i (k + 1))), K.blk b2 72 [.pointer (some ⟨b19, 0, none⟩)], R.dfs bs]) rfl (by repeat (first | exact List.Sublist.refl _ | apply List.Sublist.cons))
    · intro bD L hJ
      subst hJ
      rw [bel_len, dB_all g hi]
      try dsimp only [List.cons_append, List.nil_append]
      try dsimp only [setd, setn, ev, nth, over, cl, eI, eP, eT, eR, setM, setF, List.map, List.append, List.drop, List.take]
      refine R.markJ (L := [K.blk b19 82 (.slice A r.length c :: dcell (dA r (i + 1) 0)), K.blk b2 72 [.pointer (some ⟨b19, 0, none⟩)]]) (K.st_sub (List.Sublist.cons _ (List.Sublist.cons_cons _ (List.Sublist.cons_cons _ (List.Sublist.cons_cons _ (List.Sublist.cons _ (List.Sublist.cons_cons _ (List.Sublist.refl _)))))))) ?_
      try dsimp only [List.cons_append, List.nil_append]
      refine zN ?_
      refine R.norm_block ?_
      refine R.norm_block ?_
      refine R.norm_then ?_
      refine R.region_lit rfl ?_
      refine qp (K.add_i64 rfl rfl (by omega)) ?_
      refine qm ?_
      refine K.seq_nil ?_
      refine R.out ?_
      exact R.round_endD (L'' := [K.blk b19 82 (.slice A r.length c :: dcell (dA r (i + 1) 0)), K.blk b2 72 [.pointer (some ⟨b19, 0, none⟩)]]) [.int .i64 ((i : Int) + 1)] ⟨i + 1, rfl, rfl, by omega⟩ (by simp [K.nth, intOf]; omega) (by repeat (first | exact List.Sublist.refl _ | apply List.Sublist.cons)) (by kernel_rfl)
    · intro bD cX L hJ
      exact hJ.elim
      skip
  try replace ht23 := of_decide_eq_false ht23
  refine R.exit ?_
  refine R.exit_then ?_
  refine R.exit_then ?_
  refine R.exit_here ?_
  refine R.norm_then ?_
  refine R.seq ?_
  refine R.region_lit rfl ?_
  refine K.seq_sil (K.load1_own one_72 rfl (K.m1) rfl) rfl ?_
  refine zN ?_
  refine K.seq_st (K.store sz_72 rfl rfl rfl rfl (K.rp1)) rfl ?_
  refine zN ?_
  refine qa ?_
  refine K.seq_nil ?_
  refine R.out ?_
  refine R.norm_then ?_
  refine R.ret ?_
  refine R.end_retD rfl (by dsimp only [List.dropLast]; exact (fun w hw => K.res_ct rfl rfl (K.run_cell1 one_72 rfl (K.m1) w hw))) ?_
  dsimp only [List.dropLast]
  have e0 : i = r.length := by omega
  subst e0
  rw [dA_all]
  exact K.rets_v b19 trivial rfl rfl (List.Sublist.cons_cons _ (List.nil_sublist _))

end Go.Proofs.YtekkpcpbnonkaaaGreatDoor.Rv
end
section
set_option linter.unusedSimpArgs false
set_option linter.unusedVariables false
namespace Go.Proofs.YtekkpcpbnonkaaaGreatDoor.Rv
open Go.RowKit Go
open Go.K (setd setn ev nth over cl eI eP eT setM setF)
attribute [local irreducible] K.blk K.row

set_option maxRecDepth 100000 in
theorem e16 {r : List RvT} {A : Option Addr} {c : Nat} {w : World} (hR : K.Rd w A 4 eR r) (hn : r.length ≤ 4611686018427387904) (hc : (chk r).2.2 ≠ 0) :
    Calls Tryz.prog 13 [.slice A r.length c].toArray w (K.RetSE 3 1 K.eI (badL r) (chk r).2.2 w) := by
  refine K.enter (args := [.slice A r.length c]) Tryz.func13 rfl (n := 30) rfl ?_
  simp only [List.replicate, List.cons_append, List.nil_append]
  refine sr ?_
  iterate 2 refine qa ?_
  refine sn ?_
  refine sr ?_
  refine qm ?_
  refine K.seq_call (K.call_g cal_36 (fun F w hF hw => e52 (hR.pass hw) hn hc)) rfl ?_
  refine zN ?_
  refine qm ?_
  refine qx ?_
  refine qx ?_
  iterate 2 refine qa ?_
  refine sn ?_
  refine K.seq ?_
  refine sr ?_
  refine qm ?_
  refine qp (K.neq rfl rfl) ?_
  refine sn ?_
  refine K.cond_true (by exact congrArg Value.bool (decide_eq_true hc)) ?_
  refine sr ?_
  refine qm ?_
  iterate 2 refine qa ?_
  refine sn ?_
  refine K.ret ?_
  refine K.ret_then ?_
  refine K.end_ret (fun w _ => K.res_tmp2 rfl w) ?_
  exact K.rets_se0 (by unfold badL; rw [if_pos hc]) rfl rfl

set_option maxRecDepth 100000 in
theorem g16 {r : List RvT} {A : Option Addr} {c : Nat} {w : World} (hR : K.Rd w A 4 eR r) (hn : r.length ≤ 4611686018427387904) (hc : (chk r).2.2 = 0) :
    Calls Tryz.prog 13 [.slice A r.length c].toArray w (K.RetSE 3 1 K.eI (badL r) (chk r).2.2 w) := by
  have g : Good r := chk_good hc
  have hgn := g.n
  refine K.enter (args := [.slice A r.length c]) Tryz.func13 rfl (n := 30) rfl ?_
  simp only [List.replicate, List.cons_append, List.nil_append]
  refine sr ?_
  iterate 2 refine qa ?_
  refine sn ?_
  refine sr ?_
  refine qm ?_
  refine K.seq_loud (K.call_f cal_36 (fun F w hF hw => g52 (hR.pass hw) hn hc)) rfl ?_
  rintro q _
  refine zN ?_
  refine qm ?_
  refine qx ?_
  refine qx ?_
  iterate 2 refine qa ?_
  refine sn ?_
  refine K.seq ?_
  refine sr ?_
  refine qm ?_
  refine qp (K.neq rfl rfl) ?_
  refine sn ?_
  refine K.cond_false (by rfl) ?_
  refine K.skip ?_
  refine K.norm_then ?_
  refine K.seq ?_
  refine sr ?_
  refine K.nil_row (e := 3) (size := 1) ?_
  refine qm ?_
  refine qp (K.len_sl sl_22 rfl) ?_
  refine qm ?_
  refine sn ?_
  refine K.block ?_
  refine K.loopW [2, 16] [5, 17, 18, 19, 20, 21, 22, 23, 24, 25, 26, 27, 28, 29] (fun vi L => ∃ (i : Nat) (Q1 : Option Addr) (q1 : Nat), vi = [.slice Q1 (selN (badB r (ownS r)) i).length q1, .int .i64 (i : Int)] ∧ L = [K.row (.slice Q1 (selN (badB r (ownS r)) i).length q1) 3 1 (selN (badB r (ownS r)) i).length ((selN (badB r (ownS r)) i).flatMap K.eI), K.blk q 82 (.slice A r.length c :: dcell (drT r))] ∧ i ≤ r.length) (fun vi => r.length - (intOf (K.nth vi 1)).toNat) ?_ ?_
  · exact ⟨0, none, 0, rfl, rfl, Nat.zero_le _⟩
  intro vi vr L hJ
  obtain ⟨i, Q1, q1, rfl, rfl, hin⟩ := hJ
  try dsimp only [setd, setn, ev, nth, over, cl, eI, eP, eT, eR, setM, setF, List.map, List.append, List.drop, List.take]
  refine sr ?_
  refine qp (K.lss rfl rfl) ?_
  refine sn ?_
  refine K.seq ?_
  refine K.cond rfl (fun ht17 => ?_) (fun ht17 => ?_)
  · try replace ht17 := of_decide_eq_true ht17
    have hi : i < r.length := by omega
    have hsl : (selN (badB r (ownS r)) i).length ≤ i := selN_len
    refine K.skip ?_
    refine K.norm_then ?_
    refine K.seq ?_
    refine K.block ?_
    refine sr ?_
    refine qm ?_
    refine qa ?_
    refine sn ?_
    refine sr ?_
    iterate 3 refine qm ?_
    refine K.seq_pure (K.mkFunc) rfl ?_
    refine zN ?_
    refine K.seq_call (K.call_g cal_47 (fun F w hF hw => c53 (K.PtrL.now hw (hF _ (K.m1))) (K.blk_lt hw (hF _ (K.m1))) (hR.pass hw) g hi)) rfl ?_
    refine zN ?_
    first | refine K.seq_pure (K.not_d rfl) rfl ?_ | refine K.seq_pure (K.not_ rfl) rfl ?_
    refine zN ?_
    refine sn ?_
    refine K.cond rfl (fun ht24 => ?_) (fun ht24 => ?_)
    · try replace ht24 := of_decide_eq_true ht24
      refine K.region_lit ?_
      iterate 2 refine qm ?_
      refine K.seq_new (K.buildSlice (bs1 _)) rfl ?_
      intro b27
      refine zN ?_
      refine K.seq_upd (K.append el_28 rfl rfl (K.PtrL.own' (K.m0)) rfl rfl (by decide) (by omega) (by omega) (fun _ _ => K.rp1)) rfl ?_
      rintro ⟨g28, c28⟩ _
      refine zN ?_
      refine qa ?_
      refine K.seq_nil ?_
      refine K.norm_block ?_
      refine K.norm_then ?_
      refine K.region_lit ?_
      refine qp (K.add_i64 rfl rfl (by omega)) ?_
      refine qm ?_
      refine K.seq_nil ?_
      have hb : badB r (ownS r) i = true := by simpa using ht24
      have hsn := selN_yes hb
      exact K.round_endW (L'' := [K.row (.slice (some ⟨g28, 0, none⟩) ((selN (badB r (ownS r)) i).length + 1) c28) 3 1 ((selN (badB r (ownS r)) i).length + 1) ((selN (badB r (ownS r)) i).flatMap K.eI ++ [.int .i64 (i : Int)]), K.blk q 82 (.slice A r.length c :: dcell (drT r))]) [.slice (some ⟨g28, 0, none⟩) ((selN (badB r (ownS r)) i).length + 1) c28, .int .i64 ((i : Int) + 1)] ⟨i + 1, some ⟨g28, 0, none⟩, c28, by rw [hsn, List.length_append]; rfl, by rw [hsn, List.length_append, List.flatMap_append]; rfl, by omega⟩ (by simp [K.nth, intOf]; omega) (List.Sublist.cons _ (List.Sublist.refl _)) (by kernel_rfl)
    try replace ht24 := of_decide_eq_false ht24
    refine K.skip ?_
    refine K.norm_block ?_
    refine K.norm_then ?_
    refine K.region_lit ?_
    refine qp (K.add_i64 rfl rfl (by omega)) ?_
    refine qm ?_
    refine K.seq_nil ?_
    have hb : badB r (ownS r) i = false := by simpa using ht24
    have hsn := selN_no hb
    exact K.round_endW (L'' := [K.row (.slice Q1 (selN (badB r (ownS r)) i).length q1) 3 1 (selN (badB r (ownS r)) i).length ((selN (badB r (ownS r)) i).flatMap K.eI), K.blk q 82 (.slice A r.length c :: dcell (drT r))]) [.slice Q1 (selN (badB r (ownS r)) i).length q1, .int .i64 ((i : Int) + 1)] ⟨i + 1, Q1, q1, by rw [hsn]; rfl, by rw [hsn], by omega⟩ (by simp [K.nth, intOf]; omega) (List.Sublist.refl _) (by kernel_rfl)
  try replace ht17 := of_decide_eq_false ht17
  refine K.exit ?_
  refine K.exit_then ?_
  refine K.exit_then ?_
  refine K.exit_here ?_
  refine K.norm_then ?_
  refine sr ?_
  refine qm ?_
  iterate 2 refine qa ?_
  refine sn ?_
  refine K.ret ?_
  refine K.end_ret (fun w _ => K.res_tmp2 rfl w) ?_
  have e0 : i = r.length := by omega
  subst e0
  have hl : badL r = (selN (badB r (ownS r)) r.length) := by unfold badL badS; rw [if_neg (by omega)]
  rw [hl, hc]
  exact K.rets_se K.m0 rfl rfl rfl rfl

theorem c16 {r : List RvT} {A : Option Addr} {c : Nat} {w : World} (hR : K.Rd w A 4 eR r) (hn : r.length ≤ 4611686018427387904) : Calls Tryz.prog 13 [.slice A r.length c].toArray w (K.RetSE 3 1 K.eI (badL r) (chk r).2.2 w) := by
  by_cases hc : (chk r).2.2 = 0
  · exact g16 hR hn hc
  · exact e16 hR hn hc


set_option maxRecDepth 100000 in
theorem e19 {r : List RvT} {A : Option Addr} {c : Nat} {z : Int} {w : World} (hR : K.Rd w A 4 eR r) (hn : r.length ≤ 4611686018427387904) (hc : (chk r).2.2 ≠ 0) :
    Calls Tryz.prog 31 [.slice A r.length c, .int .i64 z].toArray w (K.RetSE 3 1 K.eI (pouL r z) (pouE r z) w) := by
  have he : pouE r z = (chk r).2.2 := by unfold pouE; rw [if_pos hc]
  refine R.enter (args := [.slice A r.length c, .int .i64 z]) Tryz.func31 rfl (m := 41) rfl ?_
  simp only [List.replicate, List.cons_append, List.nil_append]
  refine R.seq ?_
  refine R.region_lit rfl ?_
  refine K.seq_new (K.alloc zr_28) rfl ?_
  intro b4
  refine zN ?_
  refine qa ?_
  refine K.seq_nil ?_
  refine R.out ?_
  refine R.norm_then ?_
  refine R.seq ?_
  refine R.region_lit rfl ?_
  refine qm ?_
  refine K.seq_call (K.call_g cal_36 (fun F w hF hw => e52 (hR.pass hw) hn hc)) rfl ?_
  refine zN ?_
  refine qm ?_
  refine qx ?_
  refine qx ?_
  refine K.seq_new (K.alloc zr_72) rfl ?_
  intro b6
  refine zN ?_
  refine K.seq_st (K.store sz_72 rfl rfl rfl rfl (K.rp0)) rfl ?_
  refine zN ?_
  refine qa ?_
  refine K.seq_nil ?_
  refine R.out ?_
  refine R.norm_then ?_
  refine R.seq ?_
  refine R.block ?_
  refine R.seq ?_
  refine R.region_lit rfl ?_
  refine qm ?_
  refine qp (K.neq rfl rfl) ?_
  refine qa ?_
  refine K.seq_nil ?_
  refine R.out ?_
  refine R.norm_then ?_
  refine R.cond_true (by exact congrArg Value.bool (decide_eq_true hc)) ?_
  refine R.seq ?_
  refine R.region_lit rfl ?_
  refine qm ?_
  refine K.seq_st (K.store sz_28 rfl rfl rfl rfl (K.rp1)) rfl ?_
  refine zN ?_
  refine qa ?_
  refine K.seq_nil ?_
  refine R.out ?_
  refine R.norm_then ?_
  refine R.ret ?_
  refine R.ret_block ?_
  refine R.ret_then ?_
  refine R.end_ret (fun w hw => K.res_ct rfl rfl (K.run_cell1 one_28 rfl (K.m1) w hw)) ?_
  exact K.rets_se0 (by unfold pouL; rw [if_neg (by omega)]) he.symm rfl

set_option maxRecDepth 100000 in
theorem f19 {r : List RvT} {A : Option Addr} {c : Nat} {z : Int} {w : World} (hR : K.Rd w A 4 eR r) (hn : r.length ≤ 4611686018427387904) (hc : (chk r).2.2 = 0) (hz : ¬ (0 ≤ z ∧ z ≤ (r.length : Int) - 1)) :
    Calls Tryz.prog 31 [.slice A r.length c, .int .i64 z].toArray w (K.RetSE 3 1 K.eI (pouL r z) (pouE r z) w) := by
  have he : pouE r z = 4 := by unfold pouE; rw [if_neg (by omega), if_neg hz]
  have g : Good r := chk_good hc
  have hgn := g.n
  refine R.enter (args := [.slice A r.length c, .int .i64 z]) Tryz.func31 rfl (m := 41) rfl ?_
  simp only [List.replicate, List.cons_append, List.nil_append]
  refine R.seq ?_
  refine R.region_lit rfl ?_
  refine K.seq_new (K.alloc zr_28) rfl ?_
  intro b4
  refine zN ?_
  refine qa ?_
  refine K.seq_nil ?_
  refine R.out ?_
  refine R.norm_then ?_
  refine R.seq ?_
  refine R.region_lit rfl ?_
  refine qm ?_
  refine K.seq_loud (K.call_f cal_36 (fun F w hF hw => g52 (hR.pass hw) hn hc)) rfl ?_
  rintro q _
  refine zN ?_
  refine qm ?_
  refine qx ?_
  refine qx ?_
  refine K.seq_new (K.alloc zr_72) rfl ?_
  intro b6
  refine zN ?_
  refine K.seq_st (K.store sz_72 rfl rfl rfl rfl (K.rp0)) rfl ?_
  refine zN ?_
  refine qa ?_
  refine K.seq_nil ?_
  refine R.out ?_
  refine R.norm_then ?_
  refine R.seq ?_
  refine R.block ?_
  refine R.seq ?_
  refine R.region_lit rfl ?_
  refine qm ?_
  refine qp (K.neq rfl rfl) ?_
  refine qa ?_
  refine K.seq_nil ?_
  refine R.out ?_
  refine R.norm_then ?_
  refine R.cond_false (by rfl) ?_
  refine R.seq ?_
  refine R.region_lit rfl ?_
  refine qm ?_
  refine qp (K.len_sl sl_22 rfl) ?_
  refine qp (K.sub_i64 rfl rfl (by omega)) ?_
  refine qm ?_
  refine K.seq_new (K.buildSlice (bs1 _)) rfl ?_
  intro b22
  refine zN ?_
  refine K.seq_call (K.call_g cal_64 (fun F w hF hw => c46_1 hw (hF _ (K.m0)))) rfl ?_
  refine zN ?_
  refine qa ?_
  refine K.seq_nil ?_
  refine R.out ?_
  refine R.norm_then ?_
  refine R.cond_true (by exact congrArg Value.bool (decide_eq_true (by omega))) ?_
  refine R.seq ?_
  refine R.region_lit rfl ?_
  refine K.seq_st (K.store sz_28 rfl rfl rfl rfl (K.rp3)) rfl ?_
  refine zN ?_
  refine qa ?_
  refine K.seq_nil ?_
  refine R.out ?_
  refine R.norm_then ?_
  refine R.ret ?_
  refine R.ret_block ?_
  refine R.ret_then ?_
  refine R.end_ret (fun w hw => K.res_ct rfl rfl (K.run_cell1 one_28 rfl (K.m3) w hw)) ?_
  exact K.rets_se0 (by unfold pouL; rw [if_neg (by omega)]) he.symm rfl

set_option maxRecDepth 100000 in
set_option maxHeartbeats 1000000 in
theorem g19 {r : List RvT} {A : Option Addr} {c : Nat} {a : Nat} {w : World} (hR : K.Rd w A 4 eR r) (hn : r.length ≤ 4611686018427387904) (hc : (chk r).2.2 = 0) (ha : a < r.length) :
    Calls Tryz.prog 31 [.slice A r.length c, .int .i64 (a : Int)].toArray w (K.RetSE 3 1 K.eI (pouL r (a : Int)) (pouE r (a : Int)) w) := by
  have he : pouE r (a : Int) = 0 := by unfold pouE; rw [if_neg (by omega), if_pos (by omega)]
  have g : Good r := chk_good hc
  have hgn := g.n
  refine R.enter (args := [.slice A r.length c, .int .i64 (a : Int)]) Tryz.func31 rfl (m := 41) rfl ?_
  simp only [List.replicate, List.cons_append, List.nil_append]
  refine R.seq ?_
  refine R.region_lit rfl ?_
  refine K.seq_new (K.alloc zr_28) rfl ?_
  intro b4
  refine zN ?_
  refine qa ?_
  refine K.seq_nil ?_
  refine R.out ?_
  refine R.norm_then ?_
  refine R.seq ?_
  refine R.region_lit rfl ?_
  refine qm ?_
  refine K.seq_loud (K.call_f cal_36 (fun F w hF hw => g52 (hR.pass hw) hn hc)) rfl ?_
  rintro q _
  refine zN ?_
  refine qm ?_
  refine qx ?_
  refine qx ?_
  refine K.seq_new (K.alloc zr_72) rfl ?_
  intro b6
  refine zN ?_
  refine K.seq_st (K.store sz_72 rfl rfl rfl rfl (K.rp0)) rfl ?_
  refine zN ?_
  refine qa ?_
  refine K.seq_nil ?_
  refine R.out ?_
  refine R.norm_then ?_
  refine R.seq ?_
  refine R.block ?_
  refine R.seq ?_
  refine R.region_lit rfl ?_
  refine qm ?_
  refine qp (K.neq rfl rfl) ?_
  refine qa ?_
  refine K.seq_nil ?_
  refine R.out ?_
  refine R.norm_then ?_
  refine R.cond_false (by rfl) ?_
  refine R.seq ?_
  refine R.region_lit rfl ?_
  refine qm ?_
  refine qp (K.len_sl sl_22 rfl) ?_
  refine qp (K.sub_i64 rfl rfl (by omega)) ?_
  refine qm ?_
  refine K.seq_new (K.buildSlice (bs1 _)) rfl ?_
  intro b22
  refine zN ?_
  refine K.seq_call (K.call_g cal_64 (fun F w hF hw => c46_1 hw (hF _ (K.m0)))) rfl ?_
  refine zN ?_
  refine qa ?_
  refine K.seq_nil ?_
  refine R.out ?_
  refine R.norm_then ?_
  refine R.cond_false (by exact congrArg Value.bool (decide_eq_false (by omega))) ?_
  refine R.skip ?_
  refine R.norm_block ?_
  refine R.norm_then ?_
  refine R.seq ?_
  refine R.seq ?_
  refine K.weak (List.Sublist.cons _ (List.Sublist.cons_cons _ (List.Sublist.cons_cons _ (List.Sublist.cons_cons _ (List.Sublist.slnil))))) ?_
  refine R.region_lit rfl ?_
  refine K.nil_row (e := 3) (size := 1) ?_
  refine K.seq_sil (K.load1_own one_72 rfl (K.m1) rfl) rfl ?_
  refine zN ?_
  refine qp (K.nilCheck rfl) ?_
  refine qp (K.fieldAddr_lit fo_82_0 rfl) ?_
  refine K.seq_sil (K.load1_own one_78 rfl (K.m2) rfl) rfl ?_
  refine zN ?_
  refine qm ?_
  refine K.seq_loud (K.call_f cal_37 (fun F w hF hw => c57 w)) rfl ?_
  rintro ⟨q1, q2⟩ _
  refine zN ?_
  refine K.seq_nil ?_
  refine R.out ?_
  refine R.norm_then ?_
  refine R.block ?_
  refine R.rangeX (gf := 76) (first := []) (cap := [.pointer (some ⟨q2, 0, none⟩), .pointer (some ⟨q1, 0, none⟩)]) (enc := (fun s : Int × Int => [Value.int .i64 s.1, Value.int .i64 s.2])) (XS := belS r a) (ps := [30, 31]) rfl cal_76 [K.row (.slice none 0 0) 3 1 0 [], K.blk b6 72 [.pointer (some ⟨q, 0, none⟩)], K.blk q 82 (.slice A r.length c :: dcell (drT r)), K.blk b4 28 [.slice none 0 0]] [K.blk q1 78 [.slice A r.length c]] (K.st_perm (show List.Perm [K.blk q2 3 [.int .i64 (a : Int)], K.blk q1 78 [.slice A r.length c], K.row (.slice none 0 0) 3 1 0 [], K.blk b6 72 [.pointer (some ⟨q, 0, none⟩)], K.blk q 82 (.slice A r.length c :: dcell (drT r)), K.blk b4 28 [.slice none 0 0]] ([K.row (.slice none 0 0) 3 1 0 [], K.blk b6 72 [.pointer (some ⟨q, 0, none⟩)], K.blk q 82 (.slice A r.length c :: dcell (drT r)), K.blk b4 28 [.slice none 0 0]] ++ ([K.blk q1 78 [.slice A r.length c]] ++ [K.blk q2 3 [.int .i64 (a : Int)]])) from (List.Perm.trans (List.perm_middle (l₁ := [_, _])) (List.Perm.cons _ (List.Perm.trans (List.perm_middle (l₁ := [_, _])) (List.Perm.cons _ (List.Perm.trans (List.perm_middle (l₁ := [_, _])) (List.Perm.cons _ (List.Perm.trans (List.perm_middle (l₁ := [_, _])) (List.Perm.cons _ (List.Perm.trans (List.perm_middle (l₁ := [_])) (List.Perm.cons _ (List.Perm.refl _))))))))))))) (R.fixC R.fixN) (fun _ => rfl) (c84 (c := c) (A := A) (p := ⟨q1, 0, none⟩) (b := q2) g ha) (fun f w hf hb => ⟨hb, hf.own1 K.m0, hf.oldR hR⟩) (fun k L => ∃ (Q1 : Option Addr) (q1 : Nat), L = [K.row (.slice Q1 (stepL r a k).length q1) 3 1 (stepL r a k).length ((stepL r a k).flatMap K.eI), K.blk b6 72 [.pointer (some ⟨q, 0, none⟩)], K.blk q 82 (.slice A r.length c :: dcell (drT r)), K.blk b4 28 [.slice Q1 (stepL r a k).length q1]] ∧ ∀ j, j < k → badB r (ownS r) (stps r j a) = false) (fun cX L => cX = Code.exit 1 ∧ ∃ (k : Nat) (Q1 : Option Addr) (q1 : Nat), L = [K.row (.slice Q1 (stepL r a (k + 1)).length q1) 3 1 (stepL r a (k + 1)).length ((stepL r a (k + 1)).flatMap K.eI), K.blk b6 72 [.pointer (some ⟨q, 0, none⟩)], K.blk q 82 (.slice A r.length c :: dcell (drT r)), K.blk b4 28 [.slice Q1 (stepL r a (k + 1)).length q1]] ∧ k ≤ dep r a ∧ (∀ j, j < k → badB r (ownS r) (stps r j a) = false) ∧ badB r (ownS r) (stps r k a) = true) ?_ ?_ ?_ ?_
  · exact ⟨none, 0, rfl, fun j hj => absurd hj (Nat.not_lt_zero j)⟩
  · intro k s L lr E hs hE hJ
    obtain ⟨Q1, q1, rfl, hall⟩ := hJ
    obtain ⟨hkd, rfl⟩ := bel_some hs
    have hsl := stps_lt g ha k
    have hdl := (dep_is g ha).1
    have hsn := step_len (r := r) (a := a) (k := k)
    dsimp only [R.setP]
    try dsimp only [List.cons_append, List.nil_append]
    try dsimp only [setd, setn, ev, nth, over, cl, eI, eP, eT, eR, setM, setF, List.map, List.append, List.drop, List.take]
    refine R.region_lit rfl ?_
    refine qa ?_
    refine K.seq_nil ?_
    refine R.out ?_
    refine R.norm_then ?_
    refine R.bodyC' rfl (fun E hE => ?_)
    dsimp only [List.dropLast, List.cons_append, List.nil_append]
    refine zN ?_
    refine R.block ?_
    refine R.seq ?_
    refine R.region_lit rfl ?_
    refine K.seq_sil (K.load1_own one_28 rfl (K.m3) rfl) rfl ?_
    refine zN ?_
    refine qm ?_
    refine K.seq_new (K.buildSlice (bs1 _)) rfl ?_
    intro b34
    refine zN ?_
    refine K.seq_upd (K.append el_28 rfl rfl (K.PtrL.own' (K.m0)) rfl rfl (by decide) (by omega) (by omega) (fun _ _ => K.rp1)) rfl ?_
    rintro ⟨g35, c35⟩ _
    refine zN ?_
    refine K.seq_st (K.store sz_28 rfl rfl rfl rfl (K.rp4)) rfl ?_
    refine zN ?_
    refine K.seq_nil ?_
    refine R.out ?_
    refine R.norm_then ?_
    refine R.seq ?_
    refine R.region_lit rfl ?_
    refine K.seq_sil (K.load1_own one_72 rfl (K.m2) rfl) rfl ?_
    refine zN ?_
    refine qm ?_
    refine K.seq_sil (K.load1_own one_72 rfl (K.m2) rfl) rfl ?_
    refine zN ?_
    refine K.seq_pure (K.mkFunc) rfl ?_
    refine zN ?_
    refine K.seq_call (K.call_g cal_47 (fun F w hF hw => c53 (K.PtrL.now hw (hF _ (K.m3))) (K.blk_lt hw (hF _ (K.m3))) (hR.pass hw) g hsl)) rfl ?_
    refine zN ?_
    first | refine K.seq_pure (K.not_d rfl) rfl ?_ | refine K.seq_pure (K.not_ rfl) rfl ?_
    refine zN ?_
    refine K.seq_nil ?_
    refine R.out ?_
    refine R.norm_then ?_
    refine R.cond rfl (fun ht41 => ?_) (fun ht41 => ?_)
    · try replace ht41 := of_decide_eq_true ht41
      refine R.exit ?_
      refine R.exit_out rfl ?_
      have hb : badB r (ownS r) (stps r k a) = true := by simpa using ht41
      exact R.rp_exit (L := [K.row (.slice (some ⟨g35, 0, none⟩) ((stepL r a k).length + 1) c35) 3 1 ((stepL r a k).length + 1) ((stepL r a k).flatMap K.eI ++ [.int .i64 ((stps r k a : Nat) : Int)]), K.blk b6 72 [.pointer (some ⟨q, 0, none⟩)], K.blk q 82 (.slice A r.length c :: dcell (drT r)), K.blk b4 28 [.slice (some ⟨g35, 0, none⟩) ((stepL r a k).length + 1) c35]]) ⟨rfl, k, some ⟨g35, 0, none⟩, c35, by rw [step_s, List.length_append, List.flatMap_append]; rfl, hkd, hall, hb⟩ (List.Sublist.cons _ (List.Sublist.refl _))
    try replace ht41 := of_decide_eq_false ht41
    refine R.skip ?_
    refine R.norm_block ?_
    have hb : badB r (ownS r) (stps r k a) = false := by simpa using ht41
    exact R.rp_normal (L := [K.row (.slice (some ⟨g35, 0, none⟩) ((stepL r a k).length + 1) c35) 3 1 ((stepL r a k).length + 1) ((stepL r a k).flatMap K.eI ++ [.int .i64 ((stps r k a : Nat) : Int)]), K.blk b6 72 [.pointer (some ⟨q, 0, none⟩)], K.blk q 82 (.slice A r.length c :: dcell (drT r)), K.blk b4 28 [.slice (some ⟨g35, 0, none⟩) ((stepL r a k).length + 1) c35]]) ⟨some ⟨g35, 0, none⟩, c35, by rw [step_s, List.length_append, List.flatMap_append]; rfl, K.lt_succ_case hall hb⟩ (List.Sublist.cons _ (List.Sublist.refl _))
  · intro bD L hJ
    obtain ⟨Q1, q3, rfl, hall⟩ := hJ
    rw [bel_len] at hall ⊢
    try dsimp only [List.cons_append, List.nil_append]
    try dsimp only [setd, setn, ev, nth, over, cl, eI, eP, eT, eR, setM, setF, List.map, List.append, List.drop, List.take]
    refine R.norm_block ?_
    refine R.norm_then ?_
    refine R.seq ?_
    refine R.region_lit rfl ?_
    refine K.seq_sil (K.load1_own one_28 rfl (K.m3) rfl) rfl ?_
    refine zN ?_
    refine K.seq_st (K.store sz_28 rfl rfl rfl rfl (K.rp3)) rfl ?_
    refine zN ?_
    refine qa ?_
    refine K.seq_nil ?_
    refine R.out ?_
    refine R.norm_then ?_
    refine R.ret ?_
    refine R.end_ret1 rfl (by dsimp only [List.dropLast]; exact (fun w hw => K.res_ct rfl rfl (K.run_cell1 one_28 rfl (K.m3) w hw))) ?_
    dsimp only [List.dropLast]
    have hl : pouL r (a : Int) = (stepL r a (dep r a + 1)) := by unfold pouL; rw [if_pos he, Int.toNat_natCast]; exact poured_all g ha (fun j hj => hall j (by omega))
    rw [hl, he]
    exact K.rets_se K.m0 rfl rfl rfl rfl
  · intro bD cX L hJ
    obtain ⟨rfl, k, Q1, q3, rfl, hkd, hall, hb⟩ := hJ
    try dsimp only [List.cons_append, List.nil_append]
    try dsimp only [setd, setn, ev, nth, over, cl, eI, eP, eT, eR, setM, setF, List.map, List.append, List.drop, List.take]
    refine R.exit ?_
    refine R.exit_here ?_
    refine R.norm_then ?_
    refine R.seq ?_
    refine R.region_lit rfl ?_
    refine K.seq_sil (K.load1_own one_28 rfl (K.m3) rfl) rfl ?_
    refine zN ?_
    refine K.seq_st (K.store sz_28 rfl rfl rfl rfl (K.rp3)) rfl ?_
    refine zN ?_
    refine qa ?_
    refine K.seq_nil ?_
    refine R.out ?_
    refine R.norm_then ?_
    refine R.ret ?_
    refine R.end_ret1 rfl (by dsimp only [List.dropLast]; exact (fun w hw => K.res_ct rfl rfl (K.run_cell1 one_28 rfl (K.m3) w hw))) ?_
    dsimp only [List.dropLast]
    have hl : pouL r (a : Int) = (stepL r a (k + 1)) := by unfold pouL; rw [if_pos he, Int.toNat_natCast]; exact poured_bad g ha hkd hall hb
    rw [hl, he]
    exact K.rets_se K.m0 rfl rfl rfl rfl

theorem c19 {r : List RvT} {A : Option Addr} {c : Nat} {z : Int} {w : World} (hR : K.Rd w A 4 eR r) (hn : r.length ≤ 4611686018427387904) : Calls Tryz.prog 31 [.slice A r.length c, .int .i64 z].toArray w (K.RetSE 3 1 K.eI (pouL r z) (pouE r z) w) := by
  by_cases hc : (chk r).2.2 = 0
  · by_cases hz : 0 ≤ z ∧ z ≤ (r.length : Int) - 1
    · have h := g19 (c := c) (a := z.toNat) hR hn hc (by omega)
      rwa [Int.toNat_of_nonneg hz.1] at h
    · exact f19 hR hn hc hz
  · exact e19 hR hn hc


end Go.Proofs.YtekkpcpbnonkaaaGreatDoor.Rv
end
section
set_option linter.unusedSimpArgs false
set_option linter.unusedVariables false
namespace Go.Proofs.YtekkpcpbnonkaaaGreatDoor.Rv
open Go.RowKit Go
open Go.K (setd setn ev nth over cl eI eP eT setM setF)
attribute [local irreducible] K.blk K.row
theorem mk1_28 : K.mk1 Tryz.prog 28 = some (3, 8, .int .i64 0) := by kernel_rfl
def fillN (r : List RvT) (i : Nat) : List Int := (List.range i).map fun j => fillI r j (dep r j + 1)
theorem fillN_s {r : List RvT} {i : Nat} : fillN r (i + 1) = fillN r i ++ [fillI r i (dep r i + 1)] := by unfold fillN; rw [List.range_succ, List.map_append]; rfl
theorem fillN_len {r : List RvT} {i : Nat} : (fillN r i).length = i := by unfold fillN; rw [List.length_map, List.length_range]
theorem fillN_all {r : List RvT} (g : Good r) : fillN r r.length = fillS r (ownS r) := by
  unfold fillN fillS; apply List.map_congr_left; intro p hp; exact fillI_eq g (List.mem_range.1 hp)
def capL (r : List RvT) (k : Nat) : List Int := (List.range r.length).map fun j => if j < k then 9000 else 0
theorem capL_len {r : List RvT} {k : Nat} : (capL r k).length = r.length := by unfold capL; rw [List.length_map, List.length_range]
theorem cap_0 {r : List RvT} : List.replicate r.length (0 : Int) = capL r 0 := by
  unfold capL
  apply List.ext_getElem?
  intro j
  rw [List.getElem?_replicate, List.getElem?_map]
  by_cases h : j < r.length
  · rw [if_pos h, List.getElem?_range h]; simp
  · rw [if_neg h, List.getElem?_eq_none (by simp; omega)]; rfl
theorem cap_set {r : List RvT} {k : Nat} : (capL r k).set k 9000 = capL r (k + 1) := by
  unfold capL
  apply List.ext_getElem?
  intro j
  rw [List.getElem?_set, List.length_map, List.length_range, List.getElem?_map, List.getElem?_map]
  by_cases h : j < r.length
  · rw [List.getElem?_range h]
    by_cases h2 : k = j
    · rw [if_pos h2, if_pos (by omega)]; simp; omega
    · rw [if_neg h2]
      simp only [Option.map_some]
      by_cases h3 : j < k
      · rw [if_pos h3, if_pos (by omega)]
      · rw [if_neg h3, if_neg (by omega)]
  · rw [List.getElem?_eq_none (by simp; omega)]
    split
    · rename_i h1; rw [if_neg (by omega)]; rfl
    · rfl
theorem cap_all {r : List RvT} : capL r r.length = cutL r 0 0 := by
  rw [cutL_0]
  unfold capL; apply List.map_congr_left; intro p hp
  rw [if_pos (List.mem_range.1 hp)]; rfl
theorem eI_at {xs : List Int} {k : Nat} (h : k < xs.length) : (List.drop 0 (xs.flatMap K.eI))[0 + k * 1]? = some (.int .i64 (xs.getD k default)) := by
  rw [List.drop_zero, show 0 + k * 1 = k by omega]
  induction xs generalizing k with
  | nil => simp at h
  | cons x xs ih =>
    rw [List.flatMap_cons]
    cases k with
    | zero => rfl
    | succ k => rw [List.getD_cons_succ]; exact ih (by simpa using h)
theorem eI_len {xs : List Int} : (xs.flatMap K.eI).length = xs.length := by
  have := K.flat_len (e := K.eI) (size := 1) (fun _ => rfl) xs
  rw [this]; omega

set_option maxRecDepth 100000 in
theorem e21 {r : List RvT} {A : Option Addr} {c : Nat} {w : World} (hR : K.Rd w A 4 eR r) (hn : r.length ≤ 4611686018427387904) (hc : (chk r).2.2 ≠ 0) :
    Calls Tryz.prog 7 [.slice A r.length c].toArray w (K.RetSE 3 1 K.eI (fillL r) (fillE r) w) := by
  have he : fillE r = (chk r).2.2 := by unfold fillE; rw [if_pos hc]
  refine R.enter (args := [.slice A r.length c]) Tryz.func7 rfl (m := 46) rfl ?_
  simp only [List.replicate, List.cons_append, List.nil_append]
  refine R.seq ?_
  refine R.region_lit rfl ?_
  refine K.seq_new (K.box) rfl ?_
  intro b1
  refine zN ?_
  iterate 2 refine qa ?_
  refine K.seq_nil ?_
  refine R.out ?_
  refine R.norm_then ?_
  refine R.seq ?_
  refine R.region_lit rfl ?_
  refine K.seq_sil (K.load1_own one_22 rfl (K.m0) rfl) rfl ?_
  refine zN ?_
  refine K.seq_call (K.call_g cal_36 (fun F w hF hw => e52 (hR.pass hw) hn hc)) rfl ?_
  refine zN ?_
  refine qm ?_
  refine qx ?_
  refine qx ?_
  iterate 2 refine qa ?_
  refine K.seq_nil ?_
  refine R.out ?_
  refine R.norm_then ?_
  refine R.seq ?_
  refine R.seq ?_
  refine R.region_lit rfl ?_
  refine qm ?_
  refine qp (K.neq rfl rfl) ?_
  refine K.seq_nil ?_
  refine R.out ?_
  refine R.norm_then ?_
  refine R.cond_true (by exact congrArg Value.bool (decide_eq_true hc)) ?_
  refine R.seq ?_
  refine R.region_lit rfl ?_
  refine qm ?_
  iterate 2 refine qa ?_
  refine K.seq_nil ?_
  refine R.out ?_
  refine R.norm_then ?_
  refine R.ret ?_
  refine R.ret_then ?_
  refine R.end_ret (fun w _ => K.res_tmp2 rfl w) ?_
  exact K.rets_se0 (by unfold fillL; rw [if_neg (by omega)]) he.symm rfl

set_option maxRecDepth 100000 in
set_option maxHeartbeats 1000000 in
theorem g21 {r : List RvT} {A : Option Addr} {c : Nat} {w : World} (hR : K.Rd w A 4 eR r) (hn : r.length ≤ 4611686018427387904) (hc : (chk r).2.2 = 0) :
    Calls Tryz.prog 7 [.slice A r.length c].toArray w (K.RetSE 3 1 K.eI (fillL r) (fillE r) w) := by
  have g : Good r := chk_good hc
  have hgn := g.n
  refine R.enter (args := [.slice A r.length c]) Tryz.func7 rfl (m := 46) rfl ?_
  simp only [List.replicate, List.cons_append, List.nil_append]
  refine R.seq ?_
  refine R.region_lit rfl ?_
  refine K.seq_new (K.box) rfl ?_
  intro b1
  refine zN ?_
  iterate 2 refine qa ?_
  refine K.seq_nil ?_
  refine R.out ?_
  refine R.norm_then ?_
  refine R.seq ?_
  refine R.region_lit rfl ?_
  refine K.seq_sil (K.load1_own one_22 rfl (K.m0) rfl) rfl ?_
  refine zN ?_
  refine K.seq_loud (K.call_f cal_36 (fun F w hF hw => g52 (hR.pass hw) hn hc)) rfl ?_
  rintro q _
  refine zN ?_
  refine qm ?_
  refine qx ?_
  refine qx ?_
  iterate 2 refine qa ?_
  refine K.seq_nil ?_
  refine R.out ?_
  refine R.norm_then ?_
  refine R.seq ?_
  refine R.seq ?_
  refine R.region_lit rfl ?_
  refine qm ?_
  refine qp (K.neq rfl rfl) ?_
  refine K.seq_nil ?_
  refine R.out ?_
  refine R.norm_then ?_
  refine R.cond_false (by rfl) ?_
  refine R.skip ?_
  refine R.norm_then ?_
  refine R.seq ?_
  refine R.seq ?_
  refine R.region_lit rfl ?_
  refine K.nil_row (e := 3) (size := 1) ?_
  refine K.seq_sil (K.load1_own one_22 rfl (K.m2) rfl) rfl ?_
  refine zN ?_
  refine qp (K.len_sl sl_22 rfl) ?_
  refine qm ?_
  refine K.seq_nil ?_
  refine R.out ?_
  refine R.norm_then ?_
  refine R.block ?_
  refine R.loopD [2, 19] [3, 5, 6, 7, 8, 20, 21, 22, 23, 24, 25, 26, 27, 30, 31, 32, 33, 34, 35, 36, 37, 38, 39, 40, 41, 42, 43, 44, 45] (fun vi L => ∃ (i : Nat) (Q1 : Option Addr) (q1 : Nat), vi = [.slice Q1 (fillN r i).length q1, .int .i64 (i : Int)] ∧ L = [K.row (.slice Q1 (fillN r i).length q1) 3 1 (fillN r i).length ((fillN r i).flatMap K.eI), K.blk q 82 (.slice A r.length c :: dcell (drT r)), K.blk b1 22 [.slice A r.length c]] ∧ i ≤ r.length ∧ ∀ j, j < i → fillI r j (dep r j + 1) ≤ 9000) (fun vi => r.length - (intOf (K.nth vi 1)).toNat) ?_ ?_
  · exact ⟨0, none, 0, rfl, rfl, Nat.zero_le _, fun j hj => absurd hj (Nat.not_lt_zero j)⟩
  intro vi vr L bs hJ
  obtain ⟨i, Q1, q1, rfl, rfl, hin, hall⟩ := hJ
  try dsimp only [List.cons_append, List.nil_append]
  try dsimp only [setd, setn, ev, nth, over, cl, eI, eP, eT, eR, setM, setF, List.map, List.append, List.drop, List.take]
  refine R.seq ?_
  refine R.region_lit rfl ?_
  refine qp (K.lss rfl rfl) ?_
  refine K.seq_nil ?_
  refine R.out ?_
  refine R.norm_then ?_
  refine R.seq ?_
  refine R.cond rfl (fun ht20 => ?_) (fun ht20 => ?_)
  · try replace ht20 := of_decide_eq_true ht20
    have hi : i < r.length := by omega
    refine R.skip ?_
    refine R.norm_then ?_
    refine R.seq ?_
    refine R.block ?_
    refine R.seq ?_
    refine R.region_lit rfl ?_
    refine qm ?_
    refine qa ?_
    refine K.seq_nil ?_
    refine R.out ?_
    refine R.norm_then ?_
    refine R.seq ?_
    refine R.region_lit rfl ?_
    refine K.seq_new (K.alloc zr_3) rfl ?_
    intro b6
    refine zN ?_
    refine K.seq_st (K.store sz_3 rfl rfl rfl rfl (K.rp0)) rfl ?_
    refine zN ?_
    refine K.seq_nil ?_
    refine R.out ?_
    refine R.norm_then ?_
    refine R.seq ?_
    refine R.seq ?_
    refine R.region_lit rfl ?_
    refine qm ?_
    refine qp (K.nilCheck rfl) ?_
    refine qp (K.fieldAddr_lit fo_82_0 rfl) ?_
    refine K.seq_sil (K.load1_own one_78 rfl (K.m2) rfl) rfl ?_
    refine zN ?_
    refine qm ?_
    refine K.seq_loud (K.call_f cal_37 (fun F w hF hw => c57 w)) rfl ?_
    rintro ⟨q4, q2⟩ _
    refine zN ?_
    refine K.seq_nil ?_
    refine R.out ?_
    refine R.norm_then ?_
    refine R.block ?_
    refine R.rangeX (gf := 76) (first := []) (cap := [.pointer (some ⟨q2, 0, none⟩), .pointer (some ⟨q4, 0, none⟩)]) (enc := (fun s : Int × Int => [Value.int .i64 s.1, Value.int .i64 s.2])) (XS := belS r i) (ps := [28, 29]) rfl cal_76 [K.blk b6 3 [.int .i64 0], K.row (.slice Q1 (fillN r i).length q1) 3 1 (fillN r i).length ((fillN r i).flatMap K.eI), K.blk q 82 (.slice A r.length c :: dcell (drT r)), K.blk b1 22 [.slice A r.length c], R.dfs bs] [K.blk q4 78 [.slice A r.length c]] (K.st_perm (show List.Perm [K.blk q2 3 [.int .i64 (i : Int)], K.blk q4 78 [.slice A r.length c], K.blk b6 3 [.int .i64 0], K.row (.slice Q1 (fillN r i).length q1) 3 1 (fillN r i).length ((fillN r i).flatMap K.eI), K.blk q 82 (.slice A r.length c :: dcell (drT r)), K.blk b1 22 [.slice A r.length c], R.dfs bs] ([K.blk b6 3 [.int .i64 0], K.row (.slice Q1 (fillN r i).length q1) 3 1 (fillN r i).length ((fillN r i).flatMap K.eI), K.blk q 82 (.slice A r.length c :: dcell (drT r)), K.blk b1 22 [.slice A r.length c], R.dfs bs] ++ ([K.blk q4 78 [.slice A r.length c]] ++ [K.blk q2 3 [.int .i64 (i : Int)]])) from (List.Perm.trans (List.perm_middle (l₁ := [_, _])) (List.Perm.cons _ (List.Perm.trans (List.perm_middle (l₁ := [_, _])) (List.Perm.cons _ (List.Perm.trans (List.perm_middle (l₁ := [_, _])) (List.Perm.cons _ (List.Perm.trans (List.perm_middle (l₁ := [_, _])) (List.Perm.cons _ (List.Perm.trans (List.perm_middle (l₁ := [_, _])) (List.Perm.cons _ (List.Perm.trans (List.perm_middle (l₁ := [_])) (List.Perm.cons _ (List.Perm.refl _))))))))))))))) (R.fixC R.fixN) (fun _ => rfl) (c84 (c := c) (A := A) (p := ⟨q4, 0, none⟩) (b := q2) g hi) (fun f w hf hb => ⟨hb, hf.own1 K.m0, hf.oldR hR⟩) (fun k L => L = [K.blk b6 3 [.int .i64 (fillI r i k)], K.row (.slice Q1 (fillN r i).length q1) 3 1 (fillN r i).length ((fillN r i).flatMap K.eI), K.blk q 82 (.slice A r.length c :: dcell (drT r)), K.blk b1 22 [.slice A r.length c], R.dfs bs]) (fun cX L => False) ?_ ?_ ?_ ?_
    · rfl
    · intro k s L lr E hs hE hJ
      subst hJ
      obtain ⟨hkd, rfl⟩ := bel_some hs
      have hsl := stps_lt g hi k
      have hpk := g.p _ hsl
      have hdl := DM_le g hi
      have hdk := DM_le g hsl
      dsimp only [R.setP]
      try dsimp only [List.cons_append, List.nil_append]
      try dsimp only [setd, setn, ev, nth, over, cl, eI, eP, eT, eR, setM, setF, List.map, List.append, List.drop, List.take]
      refine R.seq ?_
      refine R.region_lit rfl ?_
      refine qa ?_
      refine K.seq_nil ?_
      refine R.out ?_
      refine R.norm_then ?_
      refine R.region_lit rfl ?_
      refine qa ?_
      refine K.seq_nil ?_
      refine R.out ?_
      refine R.norm_then ?_
      refine R.bodyC' rfl (fun E hE => ?_)
      dsimp only [List.dropLast, List.cons_append, List.nil_append]
      refine zN ?_
      refine R.block ?_
      refine R.draw_L [9] Tryz_mixed rfl ?_
      refine K.d_mem 0 rfl (K.load1_own one_3 rfl (K.m0) rfl) (fun _ h => h) (by kernel_rfl) (by kernel_rfl) rfl ?_
      refine zN ?_
      refine K.d_mem 1 rfl (K.load1_own one_22 rfl (K.m3) rfl) (fun _ h => h) (by kernel_rfl) (by kernel_rfl) rfl ?_
      refine zN ?_
      refine K.d_pure 2 rfl (K.move) (by kernel_rfl) rfl ?_
      refine zn ?_
      refine K.d_ix (M := []) 3 (stps r k i) rfl hR.sl sl_22 rfl rfl (by omega) (by omega) (by kernel_rfl) rfl ?_
      intro p33 hp33
      refine zN ?_
      refine K.d_pure 4 rfl (K.fieldAddr fo_34_3 rfl) (by kernel_rfl) rfl ?_
      refine zn ?_
      refine K.d_mem 5 rfl (K.load1 one_3 rfl ((K.PtrL.fld hp33 (k := 3)).any)) (fun _ h => h) (by kernel_rfl) (by kernel_rfl) rfl ?_
      refine zN ?_
      refine K.d_pure 6 rfl (K.move) (by kernel_rfl) rfl ?_
      refine zn ?_
      refine K.d_pure 7 rfl (K.add_i64 rfl rfl (by omega)) (by kernel_rfl) rfl ?_
      refine zn ?_
      refine K.d_pure 8 rfl (K.max_int rfl rfl) (by kernel_rfl) rfl ?_
      refine zn ?_
      refine K.d_last 9 rfl (K.store sz_3 rfl rfl rfl rfl (K.rp0)) rfl (by kernel_rfl) rfl ?_
      intro _ _
      refine zN ?_
      refine K.d_done (by kernel_rfl) ?_
      refine R.out ?_
      refine R.norm_block ?_
      exact R.rp_normal (L := [K.blk b6 3 [.int .i64 (fillI r i (k + 1))], K.row (.slice Q1 (fillN r i).length q1) 3 1 (fillN r i).length ((fillN r i).flatMap K.eI), K.blk q 82 (.slice A r.length c :: dcell (drT r)), K.blk b1 22 [.slice A r.length c], R.dfs bs]) rfl (List.Sublist.refl _)
    · intro bD L hJ
      subst hJ
      rw [bel_len]
      have hfb := fillI_bd g hi (dep r i + 1)
      try dsimp only [List.cons_append, List.nil_append]
      try dsimp only [setd, setn, ev, nth, over, cl, eI, eP, eT, eR, setM, setF, List.map, List.append, List.drop, List.take]
      refine R.markJ (L := [K.blk b6 3 [.int .i64 (fillI r i (dep r i + 1))], K.row (.slice Q1 (fillN r i).length q1) 3 1 (fillN r i).length ((fillN r i).flatMap K.eI), K.blk q 82 (.slice A r.length c :: dcell (drT r)), K.blk b1 22 [.slice A r.length c]]) (K.st_sub (List.Sublist.cons_cons _ (List.Sublist.cons_cons _ (List.Sublist.cons_cons _ (List.Sublist.cons_cons _ (List.Sublist.cons_cons _ (List.Sublist.cons _ (List.Sublist.cons_cons _ (List.Sublist.refl _))))))))) ?_
      try dsimp only [List.cons_append, List.nil_append]
      refine zN ?_
      refine R.norm_block ?_
      refine R.norm_then ?_
      refine R.seq ?_
      refine R.seq ?_
      refine R.region_lit rfl ?_
      refine K.seq_sil (K.load1_own one_3 rfl (K.m0) rfl) rfl ?_
      refine zN ?_
      refine qp (K.gtr rfl rfl) ?_
      refine K.seq_nil ?_
      refine R.out ?_
      refine R.norm_then ?_
      refine R.cond rfl (fun ht40 => ?_) (fun ht40 => ?_)
      · try replace ht40 := of_decide_eq_true ht40
        refine R.seq ?_
        refine R.region_lit rfl ?_
        iterate 2 refine qa ?_
        refine K.seq_nil ?_
        refine R.out ?_
        refine R.norm_then ?_
        refine R.ret ?_
        refine R.ret_then ?_
        refine R.ret_block ?_
        refine R.ret_then ?_
        refine R.ret_then ?_
        refine R.ret_block ?_
        refine R.ret_then ?_
        refine R.end_retD rfl (by dsimp only [List.dropLast]; exact (fun w _ => K.res_tmp2 rfl w)) ?_
        dsimp only [List.dropLast]
        have he : fillE r = 9 := fillE_9 g hc hi ht40
        exact K.rets_se0 (by unfold fillL; rw [if_neg (by omega)]) he.symm rfl
      try replace ht40 := of_decide_eq_false ht40
      refine R.skip ?_
      refine R.norm_then ?_
      refine R.region_lit rfl ?_
      refine qm ?_
      refine K.seq_sil (K.load1_own one_3 rfl (K.m0) rfl) rfl ?_
      refine zN ?_
      refine K.seq_new (K.buildSlice (bs1 _)) rfl ?_
      intro b43
      refine zN ?_
      refine K.seq_upd (K.append el_28 rfl rfl (K.PtrL.own' (K.m0)) rfl rfl (by decide) (by rw [fillN_len]; omega) (by rw [fillN_len]; omega) (fun _ _ => K.rp2)) rfl ?_
      rintro ⟨g44, c44⟩ _
      refine zN ?_
      refine qa ?_
      refine K.seq_nil ?_
      refine R.out ?_
      refine R.norm_block ?_
      refine R.norm_then ?_
      refine R.region_lit rfl ?_
      refine qp (K.add_i64 rfl rfl (by omega)) ?_
      refine qm ?_
      refine K.seq_nil ?_
      refine R.out ?_
      have hle : fillI r i (dep r i + 1) ≤ 9000 := by omega
      exact R.round_endD (L'' := [K.row (.slice (some ⟨g44, 0, none⟩) ((fillN r i).length + 1) c44) 3 1 ((fillN r i).length + 1) ((fillN r i).flatMap K.eI ++ [.int .i64 (fillI r i (dep r i + 1))]), K.blk q 82 (.slice A r.length c :: dcell (drT r)), K.blk b1 22 [.slice A r.length c]]) [.slice (some ⟨g44, 0, none⟩) ((fillN r i).length + 1) c44, .int .i64 ((i : Int) + 1)] ⟨i + 1, some ⟨g44, 0, none⟩, c44, by rw [fillN_s, List.length_append]; rfl, by rw [fillN_s, List.length_append, List.flatMap_append]; rfl, by omega, K.lt_succ_case hall hle⟩ (by simp [K.nth, intOf]; omega) (List.Sublist.cons _ (List.Sublist.cons _ (List.Sublist.refl _))) (by kernel_rfl)
    · intro bD cX L hJ
      exact hJ.elim
      skip
  try replace ht20 := of_decide_eq_false ht20
  refine R.exit ?_
  refine R.exit_then ?_
  refine R.exit_then ?_
  refine R.exit_here ?_
  refine R.norm_then ?_
  refine R.seq ?_
  refine R.region_lit rfl ?_
  refine qm ?_
  iterate 2 refine qa ?_
  refine K.seq_nil ?_
  refine R.out ?_
  refine R.norm_then ?_
  refine R.ret ?_
  refine R.end_retD rfl (by dsimp only [List.dropLast]; exact (fun w _ => K.res_tmp2 rfl w)) ?_
  dsimp only [List.dropLast]
  have e0 : i = r.length := by omega
  subst e0
  have he : fillE r = 0 := fillE_0 g hc hall
  have hl : fillL r = fillN r r.length := by unfold fillL; rw [if_pos he, fillN_all g]
  rw [hl, he]
  exact K.rets_se K.m0 rfl rfl rfl rfl

theorem c21 {r : List RvT} {A : Option Addr} {c : Nat} {w : World} (hR : K.Rd w A 4 eR r) (hn : r.length ≤ 4611686018427387904) : Calls Tryz.prog 7 [.slice A r.length c].toArray w (K.RetSE 3 1 K.eI (fillL r) (fillE r) w) := by
  by_cases hc : (chk r).2.2 = 0
  · exact g21 hR hn hc
  · exact e21 hR hn hc


set_option maxRecDepth 100000 in
theorem e23 {r : List RvT} {A : Option Addr} {c : Nat} {w : World} (hR : K.Rd w A 4 eR r) (hn : r.length ≤ 4611686018427387904) (hc : (chk r).2.2 ≠ 0) :
    Calls Tryz.prog 8 [.slice A r.length c].toArray w (K.RetSE 3 1 K.eI (carveL r) (carveE r) w) := by
  have he : carveE r = (chk r).2.2 := by unfold carveE; rw [if_pos hc]
  refine R.enter (args := [.slice A r.length c]) Tryz.func8 rfl (m := 65) rfl ?_
  simp only [List.replicate, List.cons_append, List.nil_append]
  refine R.seq ?_
  refine R.region_lit rfl ?_
  refine K.seq_new (K.alloc zr_28) rfl ?_
  intro b2
  refine zN ?_
  refine K.seq_new (K.alloc zr_24) rfl ?_
  intro b3
  refine zN ?_
  refine K.seq_nil ?_
  refine R.out ?_
  refine R.norm_then ?_
  refine R.seq ?_
  refine R.region_lit rfl ?_
  refine qm ?_
  refine K.seq_call (K.call_g cal_36 (fun F w hF hw => e52 (hR.pass hw) hn hc)) rfl ?_
  refine zN ?_
  refine qm ?_
  refine qx ?_
  refine qx ?_
  iterate 2 refine qa ?_
  refine K.seq_nil ?_
  refine R.out ?_
  refine R.norm_then ?_
  refine R.seq ?_
  refine R.seq ?_
  refine R.region_lit rfl ?_
  refine qm ?_
  refine qp (K.neq rfl rfl) ?_
  refine K.seq_nil ?_
  refine R.out ?_
  refine R.norm_then ?_
  refine R.cond_true (by exact congrArg Value.bool (decide_eq_true hc)) ?_
  refine R.seq ?_
  refine R.region_lit rfl ?_
  refine qm ?_
  refine K.seq_st (K.store sz_28 rfl rfl rfl rfl (K.rp1)) rfl ?_
  refine zN ?_
  refine K.seq_st (K.store sz_24 rfl rfl rfl rfl (K.rp0)) rfl ?_
  refine zN ?_
  refine K.seq_nil ?_
  refine R.out ?_
  refine R.norm_then ?_
  refine R.ret ?_
  refine R.ret_then ?_
  refine R.end_ret (fun w hw => K.res_cc rfl rfl rfl (K.run_cell1 one_28 rfl (K.m1) w hw) (K.run_cell1 one_24 rfl (K.m0) w hw)) ?_
  exact K.rets_se0 (by unfold carveL; rw [if_neg (by omega)]) he.symm rfl

set_option maxRecDepth 100000 in
set_option maxHeartbeats 1000000 in
theorem g23 {r : List RvT} {A : Option Addr} {c : Nat} {w : World} (hR : K.Rd w A 4 eR r) (hn : r.length ≤ 4611686018427387904) (hc : (chk r).2.2 = 0) :
    Calls Tryz.prog 8 [.slice A r.length c].toArray w (K.RetSE 3 1 K.eI (carveL r) (carveE r) w) := by
  have g : Good r := chk_good hc
  have hgn := g.n
  refine R.enter (args := [.slice A r.length c]) Tryz.func8 rfl (m := 65) rfl ?_
  simp only [List.replicate, List.cons_append, List.nil_append]
  refine R.seq ?_
  refine R.region_lit rfl ?_
  refine K.seq_new (K.alloc zr_28) rfl ?_
  intro b2
  refine zN ?_
  refine K.seq_new (K.alloc zr_24) rfl ?_
  intro b3
  refine zN ?_
  refine K.seq_nil ?_
  refine R.out ?_
  refine R.norm_then ?_
  refine R.seq ?_
  refine R.region_lit rfl ?_
  refine qm ?_
  refine K.seq_loud (K.call_f cal_36 (fun F w hF hw => g52 (hR.pass hw) hn hc)) rfl ?_
  rintro q _
  refine zN ?_
  refine qm ?_
  refine qx ?_
  refine qx ?_
  iterate 2 refine qa ?_
  refine K.seq_nil ?_
  refine R.out ?_
  refine R.norm_then ?_
  refine R.seq ?_
  refine R.seq ?_
  refine R.region_lit rfl ?_
  refine qm ?_
  refine qp (K.neq rfl rfl) ?_
  refine K.seq_nil ?_
  refine R.out ?_
  refine R.norm_then ?_
  refine R.cond_false (by rfl) ?_
  refine R.skip ?_
  refine R.norm_then ?_
  refine R.seq ?_
  refine R.region_lit rfl ?_
  refine qm ?_
  refine qp (K.len_sl sl_22 rfl) ?_
  refine K.seq_new (K.mkSlice (n := r.length) mk1_28 rfl rfl (by omega) (by omega)) rfl ?_
  intro b22
  refine zN ?_
  rw [K.rep_int, cap_0]
  refine zN ?_
  refine K.seq_new (K.alloc zr_28) rfl ?_
  intro b6
  refine zN ?_
  refine K.seq_st (K.store sz_28 rfl rfl rfl rfl (K.rp0)) rfl ?_
  refine zN ?_
  refine K.seq_nil ?_
  refine R.out ?_
  refine R.norm_then ?_
  refine R.seq ?_
  refine R.seq ?_
  refine R.region_lit rfl ?_
  refine qm ?_
  refine qp (K.len_sl sl_22 rfl) ?_
  refine qm ?_
  refine K.seq_nil ?_
  refine R.out ?_
  refine R.norm_then ?_
  refine R.block ?_
  refine R.loopW [25] [7, 26, 27, 28, 29, 30, 31] (fun vi L => ∃ k : Nat, vi = [.int .i64 (k : Int)] ∧ L = [K.blk b6 28 [.slice (some ⟨b22, 0, none⟩) r.length r.length], K.blk b22 3 ((capL r k).flatMap K.eI), K.blk q 82 (.slice A r.length c :: dcell (drT r)), K.blk b3 24 [.int .i64 0], K.blk b2 28 [.slice none 0 0]] ∧ k ≤ r.length) (fun vi => r.length - (intOf (K.nth vi 0)).toNat) ?_ ?_
  · exact ⟨0, rfl, rfl, Nat.zero_le _⟩
  intro vi vr L hJ
  obtain ⟨k, rfl, rfl, hkn⟩ := hJ
  try dsimp only [setd, setn, ev, nth, over, cl, eI, eP, eT, eR, setM, setF, List.map, List.append, List.drop, List.take]
  refine R.seq ?_
  refine R.region_lit rfl ?_
  refine qp (K.lss rfl rfl) ?_
  refine K.seq_nil ?_
  refine R.out ?_
  refine R.norm_then ?_
  refine R.seq ?_
  refine R.cond rfl (fun ht26 => ?_) (fun ht26 => ?_)
  · try replace ht26 := of_decide_eq_true ht26
    have hk : k < r.length := by omega
    have hkl := @capL_len r k
    have hfit : 0 + k * 1 + 1 ≤ ((capL r k).flatMap K.eI).length := by rw [eI_len]; omega
    have hset : K.over ((capL r k).flatMap K.eI) (0 + k * 1) (K.cl (.int .i64 9000)) = (capL r (k + 1)).flatMap K.eI := by
      rw [← cap_set]
      exact K.set_cut0 (e := K.eI) (size := 1) (x := (9000 : Int)) (fun _ => rfl) (by omega)
    refine R.skip ?_
    refine R.norm_then ?_
    refine R.seq ?_
    refine R.block ?_
    refine R.seq ?_
    refine R.region_lit rfl ?_
    refine qm ?_
    refine qa ?_
    refine K.seq_nil ?_
    refine R.out ?_
    refine R.norm_then ?_
    refine R.region_lit rfl ?_
    refine K.seq_sil (K.load1_own one_28 rfl (K.m0) rfl) rfl ?_
    refine zN ?_
    refine qm ?_
    refine K.seq_pure (K.Pure.eq (K.indexAddr_sl sl_28 rfl rfl (by omega) (by omega)) (show _ = Value.pointer (some ⟨b22, 0 + k * 1, none⟩) from by rw [K.add_lit, Int.toNat_natCast])) rfl ?_
    refine zN ?_
    refine zN ?_
    refine K.seq_st (K.store_ix (cs := (capL r k).flatMap K.eI) sz_3 rfl rfl hfit rfl (K.rpe K.rp1 (congrArg (K.blk b22 3) hset.symm))) rfl ?_
    refine zN ?_
    refine zN ?_
    refine K.seq_nil ?_
    refine R.out ?_
    refine R.norm_block ?_
    refine R.norm_then ?_
    refine R.region_lit rfl ?_
    refine qp (K.add_i64 rfl rfl (by omega)) ?_
    refine qm ?_
    refine K.seq_nil ?_
    refine R.out ?_
    exact R.round_endW (L'' := [K.blk b6 28 [.slice (some ⟨b22, 0, none⟩) r.length r.length], K.blk b22 3 ((capL r (k + 1)).flatMap K.eI), K.blk q 82 (.slice A r.length c :: dcell (drT r)), K.blk b3 24 [.int .i64 0], K.blk b2 28 [.slice none 0 0]]) [.int .i64 ((k : Int) + 1)] ⟨k + 1, rfl, rfl, by omega⟩ (by simp [K.nth, intOf]; omega) (List.Sublist.refl _) (by kernel_rfl)
  try replace ht26 := of_decide_eq_false ht26
  have hkr : k = r.length := by omega
  subst hkr
  rw [cap_all]
  refine R.exit ?_
  refine R.exit_then ?_
  refine R.exit_then ?_
  refine R.exit_here ?_
  refine R.norm_then ?_
  refine R.seq ?_
  refine R.seq ?_
  refine R.region_lit rfl ?_
  refine qm ?_
  refine qp (K.len_sl sl_22 rfl) ?_
  refine qm ?_
  refine K.seq_nil ?_
  refine R.out ?_
  refine R.norm_then ?_
  refine R.block ?_
  refine R.loopD [34] [8, 9, 10, 11, 35, 36, 37, 38, 39, 40, 41, 42, 43, 44, 47, 48, 49, 50, 51, 52, 53, 54, 55, 56, 57, 58, 59, 60, 61, 62, 63, 64] (fun vi L => ∃ i : Nat, vi = [.int .i64 (i : Int)] ∧ L = [K.blk b6 28 [.slice (some ⟨b22, 0, none⟩) r.length r.length], K.blk b22 3 ((cutL r i 0).flatMap K.eI), K.blk q 82 (.slice A r.length c :: dcell (drT r)), K.blk b3 24 [.int .i64 0], K.blk b2 28 [.slice none 0 0]] ∧ i ≤ r.length ∧ ∀ j, j < i → ∀ k, k ≤ dep r j → 0 ≤ cutG r (stps r k j) (j + 1)) (fun vi => r.length - (intOf (K.nth vi 0)).toNat) ?_ ?_
  · exact ⟨0, rfl, rfl, Nat.zero_le _, fun j hj => absurd hj (Nat.not_lt_zero j)⟩
  intro vi vr L bs hJ
  obtain ⟨i, rfl, rfl, hin, hall⟩ := hJ
  try dsimp only [List.cons_append, List.nil_append]
  try dsimp only [setd, setn, ev, nth, over, cl, eI, eP, eT, eR, setM, setF, List.map, List.append, List.drop, List.take]
  refine R.seq ?_
  refine R.region_lit rfl ?_
  refine qp (K.lss rfl rfl) ?_
  refine K.seq_nil ?_
  refine R.out ?_
  refine R.norm_then ?_
  refine R.seq ?_
  refine R.cond rfl (fun ht35 => ?_) (fun ht35 => ?_)
  · try replace ht35 := of_decide_eq_true ht35
    have hi : i < r.length := by omega
    refine R.skip ?_
    refine R.norm_then ?_
    refine R.seq ?_
    refine R.block ?_
    refine R.seq ?_
    refine R.region_lit rfl ?_
    refine qm ?_
    refine K.seq_ix (M := []) i hR.sl sl_22 rfl rfl (by omega) (by omega) rfl ?_
    intro p37 hp37
    refine zN ?_
    refine K.seq_sil (K.loadA_p ag_34 rfl (hp37.any) rfl) rfl ?_
    refine zN ?_
    refine K.seq_new (K.alloc zr_34) rfl ?_
    intro b9
    refine zN ?_
    refine qa ?_
    refine K.seq_st (K.store_all sz_34 rfl rfl rfl rfl (K.rp0)) rfl ?_
    refine zN ?_
    refine K.seq_nil ?_
    refine R.out ?_
    refine R.norm_then ?_
    refine R.seq ?_
    refine R.region_lit rfl ?_
    refine qm ?_
    refine qp (K.nilCheck rfl) ?_
    refine qp (K.fieldAddr_lit fo_82_0 rfl) ?_
    refine K.seq_sil (K.load1_own one_78 rfl (K.m3) rfl) rfl ?_
    refine zN ?_
    refine qm ?_
    refine K.seq_loud (K.call_f cal_37 (fun F w hF hw => c57 w)) rfl ?_
    rintro ⟨q4, q2⟩ _
    refine zN ?_
    refine K.seq_nil ?_
    refine R.out ?_
    refine R.norm_then ?_
    refine R.block ?_
    refine R.rangeX (gf := 76) (first := []) (cap := [.pointer (some ⟨q2, 0, none⟩), .pointer (some ⟨q4, 0, none⟩)]) (enc := (fun s : Int × Int => [Value.int .i64 s.1, Value.int .i64 s.2])) (XS := belS r i) (ps := [45, 46]) rfl cal_76 [K.blk b9 34 [.string (r.getD i default).nm, .int .i64 (r.getD i default).dn, .int .i64 (r.getD i default).ls, .int .i64 (r.getD i default).ht], K.blk b6 28 [.slice (some ⟨b22, 0, none⟩) r.length r.length], K.blk b22 3 ((cutL r i 0).flatMap K.eI), K.blk q 82 (.slice A r.length c :: dcell (drT r)), K.blk b3 24 [.int .i64 0], K.blk b2 28 [.slice none 0 0], R.dfs bs] [K.blk q4 78 [.slice A r.length c]] (K.st_perm (show List.Perm [K.blk q2 3 [.int .i64 (i : Int)], K.blk q4 78 [.slice A r.length c], K.blk b9 34 [.string (r.getD i default).nm, .int .i64 (r.getD i default).dn, .int .i64 (r.getD i default).ls, .int .i64 (r.getD i default).ht], K.blk b6 28 [.slice (some ⟨b22, 0, none⟩) r.length r.length], K.blk b22 3 ((cutL r i 0).flatMap K.eI), K.blk q 82 (.slice A r.length c :: dcell (drT r)), K.blk b3 24 [.int .i64 0], K.blk b2 28 [.slice none 0 0], R.dfs bs] ([K.blk b9 34 [.string (r.getD i default).nm, .int .i64 (r.getD i default).dn, .int .i64 (r.getD i default).ls, .int .i64 (r.getD i default).ht], K.blk b6 28 [.slice (some ⟨b22, 0, none⟩) r.length r.length], K.blk b22 3 ((cutL r i 0).flatMap K.eI), K.blk q 82 (.slice A r.length c :: dcell (drT r)), K.blk b3 24 [.int .i64 0], K.blk b2 28 [.slice none 0 0], R.dfs bs] ++ ([K.blk q4 78 [.slice A r.length c]] ++ [K.blk q2 3 [.int .i64 (i : Int)]])) from (List.Perm.trans (List.perm_middle (l₁ := [_, _])) (List.Perm.cons _ (List.Perm.trans (List.perm_middle (l₁ := [_, _])) (List.Perm.cons _ (List.Perm.trans (List.perm_middle (l₁ := [_, _])) (List.Perm.cons _ (List.Perm.trans (List.perm_middle (l₁ := [_, _])) (List.Perm.cons _ (List.Perm.trans (List.perm_middle (l₁ := [_, _])) (List.Perm.cons _ (List.Perm.trans (List.perm_middle (l₁ := [_, _])) (List.Perm.cons _ (List.Perm.trans (List.perm_middle (l₁ := [_, _])) (List.Perm.cons _ (List.Perm.trans (List.perm_middle (l₁ := [_])) (List.Perm.cons _ (List.Perm.refl _))))))))))))))))))) (R.fixC R.fixN) (fun _ => rfl) (c84 (c := c) (A := A) (p := ⟨q4, 0, none⟩) (b := q2) g hi) (fun f w hf hb => ⟨hb, hf.own1 K.m0, hf.oldR hR⟩) (fun k L => L = [K.blk b9 34 [.string (r.getD i default).nm, .int .i64 (r.getD i default).dn, .int .i64 (r.getD i default).ls, .int .i64 (r.getD i default).ht], K.blk b6 28 [.slice (some ⟨b22, 0, none⟩) r.length r.length], K.blk b22 3 ((cutL r i k).flatMap K.eI), K.blk q 82 (.slice A r.length c :: dcell (drT r)), K.blk b3 24 [.int .i64 0], K.blk b2 28 [.slice none 0 0], R.dfs bs] ∧ ∀ j, j < k → 0 ≤ cutG r (stps r j i) (i + 1)) (fun cX L => cX = Code.ret ∧ ∃ k, L = [K.blk b9 34 [.string (r.getD i default).nm, .int .i64 (r.getD i default).dn, .int .i64 (r.getD i default).ls, .int .i64 (r.getD i default).ht], K.blk b6 28 [.slice (some ⟨b22, 0, none⟩) r.length r.length], K.blk b22 3 ((cutL r i (k + 1)).flatMap K.eI), K.blk q 82 (.slice A r.length c :: dcell (drT r)), K.blk b3 24 [.int .i64 9], K.blk b2 28 [.slice none 0 0], R.dfs bs] ∧ carveE r = 9) ?_ ?_ ?_ ?_
    · exact ⟨rfl, fun j hj => absurd hj (Nat.not_lt_zero j)⟩
    · intro k s L lr E hs hE hJ
      obtain ⟨rfl, hcu⟩ := hJ
      obtain ⟨hkd, rfl⟩ := bel_some hs
      have hsl := stps_lt g hi k
      have hdl := DM_le g hi
      have hdk := DM_le g hsl
      have hpi := g.p i hi
      have hcl := @cutL_len r i k
      have hcl1 := @cutL_len r i (k + 1)
      have hcg := cut_ge (p := stps r k i) g i (by omega)
      have hcv := eI_at (xs := cutL r i k) (k := stps r k i) (by omega)
      rw [cutL_cur g hi hkd] at hcv
      have hcx := cut_next (k := k) g hi
      have hfit : 0 + stps r k i * 1 + 1 ≤ ((cutL r i k).flatMap K.eI).length := by rw [eI_len]; omega
      have hset : K.over ((cutL r i k).flatMap K.eI) (0 + stps r k i * 1) (K.cl (.int .i64 (min (cutG r (stps r k i) i) (((r.getD i default)).ht - (DM r i - DM r (stps r k i)))))) = (cutL r i (k + 1)).flatMap K.eI := by
        rw [← hcx, ← cutL_set g hi hkd]
        exact K.set_cut0 (e := K.eI) (size := 1) (x := cutG r (stps r k i) (i + 1)) (fun _ => rfl) (by omega)
      have hcv2 := eI_at (xs := cutL r i (k + 1)) (k := stps r k i) (by omega)
      rw [cutL_at hsl, if_pos (by simp only [List.contains_iff_mem]; exact mem_step.2 ⟨k, by omega, rfl⟩)] at hcv2
      dsimp only [R.setP]
      try dsimp only [List.cons_append, List.nil_append]
      try dsimp only [setd, setn, ev, nth, over, cl, eI, eP, eT, eR, setM, setF, List.map, List.append, List.drop, List.take]
      refine R.seq ?_
      refine R.region_lit rfl ?_
      refine qa ?_
      refine K.seq_nil ?_
      refine R.out ?_
      refine R.norm_then ?_
      refine R.region_lit rfl ?_
      refine qa ?_
      refine K.seq_nil ?_
      refine R.out ?_
      refine R.norm_then ?_
      refine R.bodyC' rfl (fun E hE => ?_)
      dsimp only [List.dropLast, List.cons_append, List.nil_append]
      refine zN ?_
      refine R.block ?_
      refine R.seq ?_
      refine R.draw_L [12] Tryz_mixed rfl ?_
      refine K.d_mem 0 rfl (K.load1_own one_28 rfl (K.m1) rfl) (fun _ h => h) (by kernel_rfl) (by kernel_rfl) rfl ?_
      refine zN ?_
      refine K.d_pure 1 rfl (K.move) (by kernel_rfl) rfl ?_
      refine zn ?_
      refine K.d_mem 2 rfl (K.load1_own one_28 rfl (K.m1) rfl) (fun _ h => h) (by kernel_rfl) (by kernel_rfl) rfl ?_
      refine zN ?_
      refine K.d_pure 3 rfl (K.move) (by kernel_rfl) rfl ?_
      refine zn ?_
      refine K.d_pure 4 rfl (K.Pure.eq (K.indexAddr_sl sl_28 rfl rfl (by omega) (by omega)) (show _ = Value.pointer (some ⟨b22, 0 + stps r k i * 1, none⟩) from by rw [K.add_lit, Int.toNat_natCast])) (by kernel_rfl) rfl ?_
      refine zN ?_
      refine zN ?_
      refine K.d_mem 5 rfl (K.load_at one_3 rfl (K.PtrL.own' ((K.m2))) hcv) (fun _ h => h) (by kernel_rfl) (by kernel_rfl) rfl ?_
      refine zN ?_
      refine K.d_pure 6 rfl (K.fieldAddr_lit fo_34_3 rfl) (by kernel_rfl) rfl ?_
      refine zn ?_
      refine K.d_mem 7 rfl (K.load1_own one_3 rfl (K.m0) rfl) (fun _ h => h) (by kernel_rfl) (by kernel_rfl) rfl ?_
      refine zN ?_
      refine K.d_pure 8 rfl (K.move) (by kernel_rfl) rfl ?_
      refine zn ?_
      refine K.d_pure 9 rfl (K.sub_i64 rfl rfl (by omega)) (by kernel_rfl) rfl ?_
      refine zn ?_
      refine K.d_pure 10 rfl (K.min_int rfl rfl) (by kernel_rfl) rfl ?_
      refine zn ?_
      refine K.d_pure 11 rfl (K.Pure.eq (K.indexAddr_sl sl_28 rfl rfl (by omega) (by omega)) (show _ = Value.pointer (some ⟨b22, 0 + stps r k i * 1, none⟩) from by rw [K.add_lit, Int.toNat_natCast])) (by kernel_rfl) rfl ?_
      refine zN ?_
      refine zN ?_
      refine K.d_last 12 rfl (K.store_ix (cs := (cutL r i k).flatMap K.eI) sz_3 rfl rfl hfit rfl (K.rpe K.rp2 (congrArg (K.blk b22 3) hset.symm))) rfl (by kernel_rfl) rfl ?_
      intro _ _
      refine zN ?_
      refine zN ?_
      refine K.d_done (by kernel_rfl) ?_
      refine R.out ?_
      refine R.norm_then ?_
      refine R.seq ?_
      refine R.region_lit rfl ?_
      refine K.seq_sil (K.load1_own one_28 rfl (K.m1) rfl) rfl ?_
      refine zN ?_
      refine qm ?_
      refine K.seq_pure (K.Pure.eq (K.indexAddr_sl sl_28 rfl rfl (by omega) (by omega)) (show _ = Value.pointer (some ⟨b22, 0 + stps r k i * 1, none⟩) from by rw [K.add_lit, Int.toNat_natCast])) rfl ?_
      refine zN ?_
      refine zN ?_
      refine K.seq_sil (K.load_at one_3 rfl (K.PtrL.own' ((K.m2))) hcv2) rfl ?_
      refine zN ?_
      refine qp (K.lss rfl rfl) ?_
      refine K.seq_nil ?_
      refine R.out ?_
      refine R.norm_then ?_
      refine R.cond rfl (fun ht63 => ?_) (fun ht63 => ?_)
      · try replace ht63 := of_decide_eq_true ht63
        refine R.seq ?_
        refine R.region_lit rfl ?_
        refine K.seq_st (K.store sz_28 rfl rfl rfl rfl (K.rp5)) rfl ?_
        refine zN ?_
        refine K.seq_st (K.store sz_24 rfl rfl rfl rfl (K.rp4)) rfl ?_
        refine zN ?_
        refine K.seq_nil ?_
        refine R.out ?_
        refine R.norm_then ?_
        refine R.ret ?_
        refine R.ret_block ?_
        exact R.rp_ret (L := [K.blk b9 34 [.string (r.getD i default).nm, .int .i64 (r.getD i default).dn, .int .i64 (r.getD i default).ls, .int .i64 (r.getD i default).ht], K.blk b6 28 [.slice (some ⟨b22, 0, none⟩) r.length r.length], K.blk b22 3 ((cutL r i (k + 1)).flatMap K.eI), K.blk q 82 (.slice A r.length c :: dcell (drT r)), K.blk b3 24 [.int .i64 9], K.blk b2 28 [.slice none 0 0], R.dfs bs]) ⟨rfl, k, rfl, carveE_9 g hc hi ht63⟩ (List.Sublist.refl _)
      try replace ht63 := of_decide_eq_false ht63
      refine R.skip ?_
      refine R.norm_block ?_
      have hnn : 0 ≤ cutG r (stps r k i) (i + 1) := by omega
      exact R.rp_normal (L := [K.blk b9 34 [.string (r.getD i default).nm, .int .i64 (r.getD i default).dn, .int .i64 (r.getD i default).ls, .int .i64 (r.getD i default).ht], K.blk b6 28 [.slice (some ⟨b22, 0, none⟩) r.length r.length], K.blk b22 3 ((cutL r i (k + 1)).flatMap K.eI), K.blk q 82 (.slice A r.length c :: dcell (drT r)), K.blk b3 24 [.int .i64 0], K.blk b2 28 [.slice none 0 0], R.dfs bs]) ⟨rfl, K.lt_succ_case hcu hnn⟩ (List.Sublist.refl _)
    · intro bD L hJ
      obtain ⟨rfl, hcu⟩ := hJ
      rw [bel_len] at hcu ⊢
      rw [cutL_all g hi]
      try dsimp only [List.cons_append, List.nil_append]
      try dsimp only [setd, setn, ev, nth, over, cl, eI, eP, eT, eR, setM, setF, List.map, List.append, List.drop, List.take]
      refine R.markJ (L := [K.blk b6 28 [.slice (some ⟨b22, 0, none⟩) r.length r.length], K.blk b22 3 ((cutL r (i + 1) 0).flatMap K.eI), K.blk q 82 (.slice A r.length c :: dcell (drT r)), K.blk b3 24 [.int .i64 0], K.blk b2 28 [.slice none 0 0]]) (K.st_sub (List.Sublist.cons _ (List.Sublist.cons_cons _ (List.Sublist.cons_cons _ (List.Sublist.cons_cons _ (List.Sublist.cons_cons _ (List.Sublist.cons_cons _ (List.Sublist.cons_cons _ (List.Sublist.cons _ (List.Sublist.cons_cons _ (List.Sublist.refl _))))))))))) ?_
      try dsimp only [List.cons_append, List.nil_append]
      refine zN ?_
      refine R.norm_block ?_
      refine R.norm_block ?_
      refine R.norm_then ?_
      refine R.region_lit rfl ?_
      refine qp (K.add_i64 rfl rfl (by omega)) ?_
      refine qm ?_
      refine K.seq_nil ?_
      refine R.out ?_
      have hci : ∀ k, k ≤ dep r i → 0 ≤ cutG r (stps r k i) (i + 1) := fun k hk => hcu k (by omega)
      exact R.round_endD (L'' := [K.blk b6 28 [.slice (some ⟨b22, 0, none⟩) r.length r.length], K.blk b22 3 ((cutL r (i + 1) 0).flatMap K.eI), K.blk q 82 (.slice A r.length c :: dcell (drT r)), K.blk b3 24 [.int .i64 0], K.blk b2 28 [.slice none 0 0]]) [.int .i64 ((i : Int) + 1)] ⟨i + 1, rfl, rfl, by omega, K.lt_succ_case hall hci⟩ (by simp [K.nth, intOf]; omega) (List.Sublist.refl _) (by kernel_rfl)
    · intro bD cX L hJ
      obtain ⟨rfl, k, rfl, he9⟩ := hJ
      try dsimp only [List.cons_append, List.nil_append]
      try dsimp only [setd, setn, ev, nth, over, cl, eI, eP, eT, eR, setM, setF, List.map, List.append, List.drop, List.take]
      refine R.markJ (L := [K.blk b6 28 [.slice (some ⟨b22, 0, none⟩) r.length r.length], K.blk b22 3 ((cutL r i (k + 1)).flatMap K.eI), K.blk q 82 (.slice A r.length c :: dcell (drT r)), K.blk b3 24 [.int .i64 9], K.blk b2 28 [.slice none 0 0]]) (K.st_sub (List.Sublist.cons _ (List.Sublist.cons_cons _ (List.Sublist.cons_cons _ (List.Sublist.cons_cons _ (List.Sublist.cons_cons _ (List.Sublist.cons_cons _ (List.Sublist.cons_cons _ (List.Sublist.cons _ (List.Sublist.cons_cons _ (List.Sublist.refl _))))))))))) ?_
      try dsimp only [List.cons_append, List.nil_append]
      refine zN ?_
      refine R.ret ?_
      refine R.ret_block ?_
      refine R.ret_block ?_
      refine R.ret_then ?_
      refine R.ret_then ?_
      refine R.ret_block ?_
      refine R.ret_then ?_
      refine R.end_retD rfl (by dsimp only [List.dropLast]; exact (fun w hw => K.res_cc rfl rfl rfl (K.run_cell1 one_28 rfl (K.m4) w hw) (K.run_cell1 one_24 rfl (K.m3) w hw))) ?_
      dsimp only [List.dropLast]
      exact K.rets_se0 (by unfold carveL; rw [if_neg (by omega)]) he9.symm rfl
  try replace ht35 := of_decide_eq_false ht35
  refine R.exit ?_
  refine R.exit_then ?_
  refine R.exit_then ?_
  refine R.exit_here ?_
  refine R.norm_then ?_
  refine R.seq ?_
  refine R.region_lit rfl ?_
  refine K.seq_sil (K.load1_own one_28 rfl (K.m0) rfl) rfl ?_
  refine zN ?_
  refine K.seq_st (K.store sz_28 rfl rfl rfl rfl (K.rp4)) rfl ?_
  refine zN ?_
  refine K.seq_st (K.store sz_24 rfl rfl rfl rfl (K.rp3)) rfl ?_
  refine zN ?_
  refine K.seq_nil ?_
  refine R.out ?_
  refine R.norm_then ?_
  refine R.ret ?_
  refine R.end_retD rfl (by dsimp only [List.dropLast]; exact (fun w hw => K.res_cc rfl rfl rfl (K.run_cell1 one_28 rfl (K.m4) w hw) (K.run_cell1 one_24 rfl (K.m3) w hw))) ?_
  dsimp only [List.dropLast]
  have e0 : i = r.length := by omega
  subst e0
  have he : carveE r = 0 := carveE_0 g hc hall
  have hl : carveL r = cutL r r.length 0 := by unfold carveL; rw [if_pos he, cutL_fin g]
  have hcl := @cutL_len r r.length 0
  rw [hl, he]
  refine K.permH (L' := [_, _, _, _, _]) (List.perm_middle (l₁ := [_])) ?_
  refine K.blk_row (size := 1) (n := r.length) (by rw [eI_len]; omega) (by simp only [maxLen]; omega) ?_
  exact K.rets_se K.m0 hcl.symm rfl rfl rfl

theorem c23 {r : List RvT} {A : Option Addr} {c : Nat} {w : World} (hR : K.Rd w A 4 eR r) (hn : r.length ≤ 4611686018427387904) : Calls Tryz.prog 8 [.slice A r.length c].toArray w (K.RetSE 3 1 K.eI (carveL r) (carveE r) w) := by
  by_cases hc : (chk r).2.2 = 0
  · exact g23 hR hn hc
  · exact e23 hR hn hc


end Go.Proofs.YtekkpcpbnonkaaaGreatDoor.Rv
end
section
set_option linter.unusedSimpArgs false
set_option linter.unusedVariables false
namespace Go.Proofs.YtekkpcpbnonkaaaGreatDoor.Rv
open Go.RowKit Go
open Go.K (setd setn ev nth over cl eI eP eT setM setF)
attribute [local irreducible] K.blk K.row
def Ret2 (a b : List Int) (z : Int) (w : World) : Ending → World → Prop :=
  K.Ret (fun r : (Option Addr × Nat) × (Option Addr × Nat) => (a.length = 0 ∨ ∃ b, r.1.1 = some ⟨b, 0, none⟩) ∧ (b.length = 0 ∨ ∃ b, r.2.1 = some ⟨b, 0, none⟩)) (fun r => .tuple #[.slice r.1.1 a.length r.1.2, .slice r.2.1 b.length r.2.2, .int .i64 z]) (fun r => [K.row (.slice r.2.1 b.length r.2.2) 3 1 b.length (b.flatMap K.eI), K.row (.slice r.1.1 a.length r.1.2) 3 1 a.length (a.flatMap K.eI)]) w
theorem ret2_0 {a b : List Int} {z z' : Int} {w : World} {L : List K.Chunk} {v : Value} (ha : a = []) (hb : b = []) (hz : z' = z) (hv : v = .tuple #[.slice none 0 0, .slice none 0 0, .int .i64 z]) : K.Hold w L (Ret2 a b z' w (.returned v)) := by
  subst ha hb hz
  exact K.nil_row (e := 3) (size := 1) (K.nil_row (e := 3) (size := 1) (K.rets_v ((none, 0), (none, 0)) ⟨.inl rfl, .inl rfl⟩ hv rfl (List.Sublist.cons_cons _ (List.Sublist.cons_cons _ (List.nil_sublist _)))))
theorem ret2 {a b : List Int} {z : Int} {w : World} {L : List K.Chunk} {A B : Option Addr} {c d : Nat} {v : Value} (hA : a.length = 0 ∨ ∃ b, A = some ⟨b, 0, none⟩) (hB : b.length = 0 ∨ ∃ b, B = some ⟨b, 0, none⟩) (hs : List.Sublist [K.row (.slice B b.length d) 3 1 b.length (b.flatMap K.eI), K.row (.slice A a.length c) 3 1 a.length (a.flatMap K.eI)] L) (hv : v = .tuple #[.slice A a.length c, .slice B b.length d, .int .i64 z]) : K.Hold w L (Ret2 a b z w (.returned v)) :=
  K.rets_v ((A, c), (B, d)) ⟨hA, hB⟩ hv rfl hs

set_option maxRecDepth 100000 in
theorem c68 {r : List RvT} {A : Option Addr} {c : Nat} {b i : Nat} {w : World} (hX : K.PtrL w [] ⟨b, 0, none⟩ (.slice A r.length c :: dcell (drT r))) (hXb : b < w.heap.size) (hR : K.Rd w A 4 eR r) (g : Good r) (hi : i < r.length) :
    Calls Tryz.prog 70 [.pointer (some ⟨b, 0, none⟩), .int .i64 (i : Int)].toArray w (K.Gives (.bool (outS r i)) w) := by
  have hgn := g.n
  have hpi := g.p i hi
  refine K.enter (args := [.pointer (some ⟨b, 0, none⟩), .int .i64 (i : Int)]) Tryz.func70 rfl (n := 40) rfl ?_
  simp only [List.replicate, List.cons_append, List.nil_append]
  refine sr ?_
  refine qa ?_
  refine sn ?_
  refine K.seq ?_
  refine sr ?_
  refine qm ?_
  refine qp (K.nilCheck rfl) ?_
  refine qp (K.fieldAddr_lit fo_82_0 rfl) ?_
  refine K.seq_sil (K.load_at one_78 rfl (hX.any) rfl) rfl ?_
  refine zN ?_
  refine qp (K.len_sl sl_78 rfl) ?_
  refine qm ?_
  refine sn ?_
  refine K.block ?_
  refine K.loopW [11] [4, 5, 12, 13, 14, 15, 16, 17, 18, 19, 20, 21, 22, 23, 24, 25, 26, 27, 28, 29, 30, 31, 32, 33, 34, 35, 36, 37, 38, 39, 40, 41] (fun vi L => ∃ k : Nat, vi = [.int .i64 (k : Int)] ∧ L = [] ∧ k ≤ r.length ∧ ∀ j, j < k → ¬ (drp r i j > (r.getD i default).ht) ∧ ¬ (drp r j i > 9000 - (r.getD i default).ht)) (fun vi => r.length - (intOf (K.nth vi 0)).toNat) ?_ ?_
  · exact ⟨0, rfl, rfl, Nat.zero_le _, fun j hj => absurd hj (Nat.not_lt_zero j)⟩
  intro vi vr L hJ
  obtain ⟨k, rfl, rfl, hkn, hall⟩ := hJ
  try dsimp only [setd, setn, ev, nth, over, cl, eI, eP, eT, eR, setM, setF, List.map, List.append, List.drop, List.take]
  refine sr ?_
  refine qp (K.lss rfl rfl) ?_
  refine sn ?_
  refine K.seq ?_
  refine K.cond rfl (fun ht12 => ?_) (fun ht12 => ?_)
  · try replace ht12 := of_decide_eq_true ht12
    have hk : k < r.length := by omega
    have e1 := riv_at (f := drT r) (S := .slice A r.length c) (i := i) (k := k) (by omega) (by omega)
    rw [drT_in (by omega) (by omega)] at e1
    have e2 := riv_at (f := drT r) (S := .slice A r.length c) (i := k) (k := i) (by omega) (by omega)
    rw [drT_in (by omega) (by omega)] at e2
    refine K.skip ?_
    refine K.norm_then ?_
    refine K.seq ?_
    refine K.block ?_
    refine sr ?_
    refine qm ?_
    refine qa ?_
    refine sn ?_
    refine K.seq ?_
    refine K.draw_L [] Tryz_mixed ?_
    refine K.d_pure 0 rfl (K.move) (by kernel_rfl) rfl ?_
    refine zn ?_
    refine K.d_pure 1 rfl (K.move) (by kernel_rfl) rfl ?_
    refine zn ?_
    refine K.d_pure 2 rfl (K.move) (by kernel_rfl) rfl ?_
    refine zn ?_
    refine K.d_pure 3 rfl (K.nilCheck rfl) (by kernel_rfl) rfl ?_
    refine zn ?_
    refine K.d_pure 4 rfl (K.fieldAddr_lit fo_82_1 rfl) (by kernel_rfl) rfl ?_
    refine zn ?_
    refine K.d_pure 5 rfl (K.indexAddr_ar ar_80 rfl rfl (by omega) (by omega)) (by kernel_rfl) rfl ?_
    refine zN ?_
    refine K.d_pure 6 rfl (K.indexAddr_ar ar_79 rfl rfl (by omega) (by omega)) (by kernel_rfl) rfl ?_
    refine zN ?_
    refine K.d_mem 7 rfl (K.load_at one_3 rfl hX.any e1) (fun _ h => h) (by kernel_rfl) (by kernel_rfl) rfl ?_
    refine zN ?_
    refine K.d_pure 8 rfl (K.move) (by kernel_rfl) rfl ?_
    refine zn ?_
    refine K.d_pure 9 rfl (K.move) (by kernel_rfl) rfl ?_
    refine zn ?_
    refine K.d_call 10 rfl (K.call_g cal_48 (fun F w hF hw => c54 (hX.into hXb hw) (K.lt_into hXb hw) (hR.pass hw) hi)) (fun _ h => h) (by kernel_rfl) rfl ?_
    refine zN ?_
    refine K.d_pure 11 rfl (K.gtr rfl rfl) (by kernel_rfl) rfl ?_
    refine zn ?_
    refine K.d_pure 12 rfl (K.move) (by kernel_rfl) rfl ?_
    refine zn ?_
    refine K.dsplit 26 rfl (fun hg26 => ?_) (fun hg26 => ?_)
    · try replace hg26 := of_decide_eq_true hg26
      refine K.d_skip 13 rfl (by kernel_rfl) rfl ?_
      refine zN ?_
      refine K.d_skip 14 rfl (by kernel_rfl) rfl ?_
      refine zN ?_
      refine K.d_skip 15 rfl (by kernel_rfl) rfl ?_
      refine zN ?_
      refine K.d_skip 16 rfl (by kernel_rfl) rfl ?_
      refine zN ?_
      refine K.d_skip 17 rfl (by kernel_rfl) rfl ?_
      refine zN ?_
      refine K.d_skip 18 rfl (by kernel_rfl) rfl ?_
      refine zN ?_
      refine K.d_skip 19 rfl (by kernel_rfl) rfl ?_
      refine zN ?_
      refine K.d_skip 20 rfl (by kernel_rfl) rfl ?_
      refine zN ?_
      refine K.d_skip 21 rfl (by kernel_rfl) rfl ?_
      refine zN ?_
      refine K.d_skip 22 rfl (by kernel_rfl) rfl ?_
      refine zN ?_
      refine K.d_skip 23 rfl (by kernel_rfl) rfl ?_
      refine zN ?_
      refine K.d_skip 24 rfl (by kernel_rfl) rfl ?_
      refine zN ?_
      refine K.d_skip 25 rfl (by kernel_rfl) rfl ?_
      refine zN ?_
      refine K.d_pure 26 rfl (K.pick_t rfl) (by kernel_rfl) rfl ?_
      refine zn ?_
      refine K.d_done (by kernel_rfl) ?_
      refine K.norm_then ?_
      refine K.cond_true rfl ?_
      refine sr ?_
      refine qa ?_
      refine sn ?_
      refine K.ret ?_
      refine K.ret_block ?_
      refine K.ret_then ?_
      refine K.ret_then ?_
      refine K.ret_block ?_
      refine K.ret_then ?_
      refine K.end_ret (fun w _ => K.res_tmp rfl w) ?_
      exact K.gives_b rfl (out_t hk (.inl (by omega))).symm
    try replace hg26 := of_decide_eq_false hg26
    refine K.d_pure 13 rfl (K.move) (by kernel_rfl) rfl ?_
    refine zn ?_
    refine K.d_pure 14 rfl (K.move) (by kernel_rfl) rfl ?_
    refine zn ?_
    refine K.d_pure 15 rfl (K.move) (by kernel_rfl) rfl ?_
    refine zn ?_
    refine K.d_pure 16 rfl (K.nilCheck rfl) (by kernel_rfl) rfl ?_
    refine zn ?_
    refine K.d_pure 17 rfl (K.fieldAddr_lit fo_82_1 rfl) (by kernel_rfl) rfl ?_
    refine zn ?_
    refine K.d_pure 18 rfl (K.indexAddr_ar ar_80 rfl rfl (by omega) (by omega)) (by kernel_rfl) rfl ?_
    refine zN ?_
    refine K.d_pure 19 rfl (K.indexAddr_ar ar_79 rfl rfl (by omega) (by omega)) (by kernel_rfl) rfl ?_
    refine zN ?_
    refine K.d_mem 20 rfl (K.load_at one_3 rfl hX.any e2) (fun _ h => h) (by kernel_rfl) (by kernel_rfl) rfl ?_
    refine zN ?_
    refine K.d_pure 21 rfl (K.move) (by kernel_rfl) rfl ?_
    refine zn ?_
    refine K.d_pure 22 rfl (K.move) (by kernel_rfl) rfl ?_
    refine zn ?_
    refine K.d_call 23 rfl (K.call_g cal_48 (fun F w hF hw => c54 (hX.into hXb hw) (K.lt_into hXb hw) (hR.pass hw) hi)) (fun _ h => h) (by kernel_rfl) rfl ?_
    refine zN ?_
    refine K.d_pure 24 rfl (K.sub_i64 rfl rfl (by omega)) (by kernel_rfl) rfl ?_
    refine zn ?_
    refine K.d_pure 25 rfl (K.gtr rfl rfl) (by kernel_rfl) rfl ?_
    refine zn ?_
    refine K.d_pure 26 rfl (K.pick_f rfl) (by kernel_rfl) rfl ?_
    refine zn ?_
    refine K.d_done (by kernel_rfl) ?_
    refine K.norm_then ?_
    refine K.cond rfl (fun ht40 => ?_) (fun ht40 => ?_)
    · try replace ht40 := of_decide_eq_true ht40
      refine sr ?_
      refine qa ?_
      refine sn ?_
      refine K.ret ?_
      refine K.ret_block ?_
      refine K.ret_then ?_
      refine K.ret_then ?_
      refine K.ret_block ?_
      refine K.ret_then ?_
      refine K.end_ret (fun w _ => K.res_tmp rfl w) ?_
      exact K.gives_b rfl (out_t hk (.inr (by omega))).symm
    try replace ht40 := of_decide_eq_false ht40
    refine K.skip ?_
    refine K.norm_block ?_
    refine K.norm_then ?_
    refine K.region_lit ?_
    refine qp (K.add_i64 rfl rfl (by omega)) ?_
    refine qm ?_
    refine K.seq_nil ?_
    have hno : ¬ (drp r i k > (r.getD i default).ht) ∧ ¬ (drp r k i > 9000 - (r.getD i default).ht) := ⟨by omega, by omega⟩
    exact K.round_endW (L'' := []) [.int .i64 ((k : Int) + 1)] ⟨k + 1, rfl, rfl, by omega, K.lt_succ_case hall hno⟩ (by simp [K.nth, intOf]; omega) (List.nil_sublist _) (by kernel_rfl)
  try replace ht12 := of_decide_eq_false ht12
  refine K.exit ?_
  refine K.exit_then ?_
  refine K.exit_then ?_
  refine K.exit_here ?_
  refine K.norm_then ?_
  refine sr ?_
  refine qa ?_
  refine sn ?_
  refine K.ret ?_
  refine K.end_ret (fun w _ => K.res_tmp rfl w) ?_
  exact K.gives_b rfl (out_f (fun j hj => hall j (by omega))).symm

set_option maxRecDepth 100000 in
theorem c71 {r : List RvT} {A : Option Addr} {c : Nat} {b i k : Nat} {w : World} (hX : K.PtrL w [] ⟨b, 0, none⟩ (.slice A r.length c :: dcell (drT r))) (hXb : b < w.heap.size) (hR : K.Rd w A 4 eR r) (g : Good r) (hi : i < r.length) (hk : k < r.length) :
    Calls Tryz.prog 73 [.pointer (some ⟨b, 0, none⟩), .int .i64 (i : Int), .int .i64 (k : Int)].toArray w (K.Gives (.bool (conS r i k)) w) := by
  have hgn := g.n
  have hpi := g.p i hi
  have hpk := g.p k hk
  have e1 := riv_at (f := drT r) (S := .slice A r.length c) (i := i) (k := k) (by omega) (by omega)
  rw [drT_in (by omega) (by omega)] at e1
  have e2 := riv_at (f := drT r) (S := .slice A r.length c) (i := k) (k := i) (by omega) (by omega)
  rw [drT_in (by omega) (by omega)] at e2
  refine K.enter (args := [.pointer (some ⟨b, 0, none⟩), .int .i64 (i : Int), .int .i64 (k : Int)]) Tryz.func73 rfl (n := 42) rfl ?_
  simp only [List.replicate, List.cons_append, List.nil_append]
  refine sr ?_
  refine qa ?_
  refine sn ?_
  refine K.seq ?_
  refine sr ?_
  iterate 3 refine qm ?_
  refine qp (K.nilCheck rfl) ?_
  refine qp (K.fieldAddr_lit fo_82_1 rfl) ?_
  refine K.seq_pure (K.indexAddr_ar ar_80 rfl rfl (by omega) (by omega)) rfl ?_
  refine zN ?_
  refine K.seq_pure (K.indexAddr_ar ar_79 rfl rfl (by omega) (by omega)) rfl ?_
  refine zN ?_
  refine K.seq_sil (K.load_at one_3 rfl hX.any e1) rfl ?_
  refine zN ?_
  refine qp (K.eql rfl rfl) ?_
  refine sn ?_
  refine K.cond rfl (fun ht15 => ?_) (fun ht15 => ?_)
  · try replace ht15 := of_decide_eq_true ht15
    refine K.region_lit ?_
    iterate 2 refine qm ?_
    iterate 2 refine qa ?_
    refine sn ?_
    refine K.seq ?_
    refine K.draw_L [] Tryz_mixed ?_
    refine K.d_pure 0 rfl (K.move) (by kernel_rfl) rfl ?_
    refine zn ?_
    refine K.d_pure 1 rfl (K.move) (by kernel_rfl) rfl ?_
    refine zn ?_
    refine K.d_pure 2 rfl (K.move) (by kernel_rfl) rfl ?_
    refine zn ?_
    refine K.d_pure 3 rfl (K.nilCheck rfl) (by kernel_rfl) rfl ?_
    refine zn ?_
    refine K.d_pure 4 rfl (K.fieldAddr_lit fo_82_1 rfl) (by kernel_rfl) rfl ?_
    refine zn ?_
    refine K.d_pure 5 rfl (K.indexAddr_ar ar_80 rfl rfl (by omega) (by omega)) (by kernel_rfl) rfl ?_
    refine zN ?_
    refine K.d_pure 6 rfl (K.indexAddr_ar ar_79 rfl rfl (by omega) (by omega)) (by kernel_rfl) rfl ?_
    refine zN ?_
    refine K.d_mem 7 rfl (K.load_at one_3 rfl hX.any (by first | exact e1 | exact e2)) (fun _ h => h) (by kernel_rfl) (by kernel_rfl) rfl ?_
    refine zN ?_
    refine K.d_pure 8 rfl (K.neq rfl rfl) (by kernel_rfl) rfl ?_
    refine zn ?_
    refine K.d_pure 9 rfl (K.move) (by kernel_rfl) rfl ?_
    refine zn ?_
    refine K.dsplit 27 rfl (fun hg26 => ?_) (fun hg26 => ?_)
    · try replace hg26 := of_decide_eq_true hg26
      refine K.d_pure 10 rfl (K.move) (by kernel_rfl) rfl ?_
      refine zn ?_
      refine K.d_pure 11 rfl (K.move) (by kernel_rfl) rfl ?_
      refine zn ?_
      refine K.d_pure 13 rfl (K.move) (by kernel_rfl) rfl ?_
      refine zn ?_
      refine K.d_pure 14 rfl (K.move) (by kernel_rfl) rfl ?_
      refine zn ?_
      refine K.d_pure 17 rfl (K.move) (by kernel_rfl) rfl ?_
      refine zn ?_
      refine K.d_pure 18 rfl (K.move) (by kernel_rfl) rfl ?_
      refine zn ?_
      refine K.d_pure 19 rfl (K.move) (by kernel_rfl) rfl ?_
      refine zn ?_
      refine K.d_pure 20 rfl (K.nilCheck rfl) (by kernel_rfl) rfl ?_
      refine zn ?_
      refine K.d_pure 21 rfl (K.fieldAddr_lit fo_82_1 rfl) (by kernel_rfl) rfl ?_
      refine zn ?_
      refine K.d_pure 22 rfl (K.indexAddr_ar ar_80 rfl rfl (by omega) (by omega)) (by kernel_rfl) rfl ?_
      refine zN ?_
      refine K.d_pure 23 rfl (K.indexAddr_ar ar_79 rfl rfl (by omega) (by omega)) (by kernel_rfl) rfl ?_
      refine zN ?_
      refine K.d_mem 24 rfl (K.load_at one_3 rfl hX.any (by first | exact e1 | exact e2)) (fun _ h => h) (by kernel_rfl) (by kernel_rfl) rfl ?_
      refine zN ?_
      refine K.d_call 12 rfl (K.call_g cal_48 (fun F w hF hw => c54 (hX.into hXb hw) (K.lt_into hXb hw) (hR.pass hw) (by assumption))) (fun _ h => h) (by kernel_rfl) rfl ?_
      refine zN ?_
      refine K.d_call 15 rfl (K.call_g cal_48 (fun F w hF hw => c54 (hX.into hXb hw) (K.lt_into hXb hw) (hR.pass hw) (by assumption))) (fun _ h => h) (by kernel_rfl) rfl ?_
      refine zN ?_
      refine K.d_pure 16 rfl (K.sub_i64 rfl rfl (by omega)) (by kernel_rfl) rfl ?_
      refine zn ?_
      refine K.d_pure 25 rfl (K.lss rfl rfl) (by kernel_rfl) rfl ?_
      refine zn ?_
      refine K.d_pure 26 rfl (K.pick_t rfl) (by kernel_rfl) rfl ?_
      refine zn ?_
      refine K.d_pure 27 rfl (K.assign) (by kernel_rfl) rfl ?_
      refine zn ?_
      refine K.d_done (by kernel_rfl) ?_
      refine K.norm_then ?_
      refine K.ret ?_
      refine K.end_ret (fun w _ => K.res_tmp rfl w) ?_
      exact K.gives_b rfl (by unfold conS; rw [if_pos ht15, decide_eq_true hg26]; simp)
    try replace hg26 := of_decide_eq_false hg26
    refine K.d_skip 10 rfl (by kernel_rfl) rfl ?_
    refine zN ?_
    refine K.d_skip 11 rfl (by kernel_rfl) rfl ?_
    refine zN ?_
    refine K.d_skip 12 rfl (by kernel_rfl) rfl ?_
    refine zN ?_
    refine K.d_skip 13 rfl (by kernel_rfl) rfl ?_
    refine zN ?_
    refine K.d_skip 14 rfl (by kernel_rfl) rfl ?_
    refine zN ?_
    refine K.d_skip 15 rfl (by kernel_rfl) rfl ?_
    refine zN ?_
    refine K.d_skip 16 rfl (by kernel_rfl) rfl ?_
    refine zN ?_
    refine K.d_skip 17 rfl (by kernel_rfl) rfl ?_
    refine zN ?_
    refine K.d_skip 18 rfl (by kernel_rfl) rfl ?_
    refine zN ?_
    refine K.d_skip 19 rfl (by kernel_rfl) rfl ?_
    refine zN ?_
    refine K.d_skip 20 rfl (by kernel_rfl) rfl ?_
    refine zN ?_
    refine K.d_skip 21 rfl (by kernel_rfl) rfl ?_
    refine zN ?_
    refine K.d_skip 22 rfl (by kernel_rfl) rfl ?_
    refine zN ?_
    refine K.d_skip 23 rfl (by kernel_rfl) rfl ?_
    refine zN ?_
    refine K.d_skip 24 rfl (by kernel_rfl) rfl ?_
    refine zN ?_
    refine K.d_skip 25 rfl (by kernel_rfl) rfl ?_
    refine zN ?_
    refine K.d_pure 26 rfl (K.pick_f rfl) (by kernel_rfl) rfl ?_
    refine zn ?_
    refine K.d_pure 27 rfl (K.assign) (by kernel_rfl) rfl ?_
    refine zn ?_
    refine K.d_done (by kernel_rfl) ?_
    refine K.norm_then ?_
    refine K.ret ?_
    refine K.end_ret (fun w _ => K.res_tmp rfl w) ?_
    exact K.gives_b rfl (by unfold conS; rw [if_pos ht15, decide_eq_false hg26]; rfl)
  try replace ht15 := of_decide_eq_false ht15
  refine K.skip ?_
  refine K.norm_then ?_
  refine K.seq ?_
  refine K.draw_L [] Tryz_mixed ?_
  refine K.d_pure 0 rfl (K.move) (by kernel_rfl) rfl ?_
  refine zn ?_
  refine K.d_pure 1 rfl (K.move) (by kernel_rfl) rfl ?_
  refine zn ?_
  refine K.d_pure 2 rfl (K.move) (by kernel_rfl) rfl ?_
  refine zn ?_
  refine K.d_pure 3 rfl (K.nilCheck rfl) (by kernel_rfl) rfl ?_
  refine zn ?_
  refine K.d_pure 4 rfl (K.fieldAddr_lit fo_82_1 rfl) (by kernel_rfl) rfl ?_
  refine zn ?_
  refine K.d_pure 5 rfl (K.indexAddr_ar ar_80 rfl rfl (by omega) (by omega)) (by kernel_rfl) rfl ?_
  refine zN ?_
  refine K.d_pure 6 rfl (K.indexAddr_ar ar_79 rfl rfl (by omega) (by omega)) (by kernel_rfl) rfl ?_
  refine zN ?_
  refine K.d_mem 7 rfl (K.load_at one_3 rfl hX.any (by first | exact e1 | exact e2)) (fun _ h => h) (by kernel_rfl) (by kernel_rfl) rfl ?_
  refine zN ?_
  refine K.d_pure 8 rfl (K.neq rfl rfl) (by kernel_rfl) rfl ?_
  refine zn ?_
  refine K.d_pure 9 rfl (K.move) (by kernel_rfl) rfl ?_
  refine zn ?_
  refine K.dsplit 27 rfl (fun hg26 => ?_) (fun hg26 => ?_)
  · try replace hg26 := of_decide_eq_true hg26
    refine K.d_pure 10 rfl (K.move) (by kernel_rfl) rfl ?_
    refine zn ?_
    refine K.d_pure 11 rfl (K.move) (by kernel_rfl) rfl ?_
    refine zn ?_
    refine K.d_pure 13 rfl (K.move) (by kernel_rfl) rfl ?_
    refine zn ?_
    refine K.d_pure 14 rfl (K.move) (by kernel_rfl) rfl ?_
    refine zn ?_
    refine K.d_pure 17 rfl (K.move) (by kernel_rfl) rfl ?_
    refine zn ?_
    refine K.d_pure 18 rfl (K.move) (by kernel_rfl) rfl ?_
    refine zn ?_
    refine K.d_pure 19 rfl (K.move) (by kernel_rfl) rfl ?_
    refine zn ?_
    refine K.d_pure 20 rfl (K.nilCheck rfl) (by kernel_rfl) rfl ?_
    refine zn ?_
    refine K.d_pure 21 rfl (K.fieldAddr_lit fo_82_1 rfl) (by kernel_rfl) rfl ?_
    refine zn ?_
    refine K.d_pure 22 rfl (K.indexAddr_ar ar_80 rfl rfl (by omega) (by omega)) (by kernel_rfl) rfl ?_
    refine zN ?_
    refine K.d_pure 23 rfl (K.indexAddr_ar ar_79 rfl rfl (by omega) (by omega)) (by kernel_rfl) rfl ?_
    refine zN ?_
    refine K.d_mem 24 rfl (K.load_at one_3 rfl hX.any (by first | exact e1 | exact e2)) (fun _ h => h) (by kernel_rfl) (by kernel_rfl) rfl ?_
    refine zN ?_
    refine K.d_call 12 rfl (K.call_g cal_48 (fun F w hF hw => c54 (hX.into hXb hw) (K.lt_into hXb hw) (hR.pass hw) (by assumption))) (fun _ h => h) (by kernel_rfl) rfl ?_
    refine zN ?_
    refine K.d_call 15 rfl (K.call_g cal_48 (fun F w hF hw => c54 (hX.into hXb hw) (K.lt_into hXb hw) (hR.pass hw) (by assumption))) (fun _ h => h) (by kernel_rfl) rfl ?_
    refine zN ?_
    refine K.d_pure 16 rfl (K.sub_i64 rfl rfl (by omega)) (by kernel_rfl) rfl ?_
    refine zn ?_
    refine K.d_pure 25 rfl (K.lss rfl rfl) (by kernel_rfl) rfl ?_
    refine zn ?_
    refine K.d_pure 26 rfl (K.pick_t rfl) (by kernel_rfl) rfl ?_
    refine zn ?_
    refine K.d_pure 27 rfl (K.assign) (by kernel_rfl) rfl ?_
    refine zn ?_
    refine K.d_done (by kernel_rfl) ?_
    refine K.norm_then ?_
    refine K.ret ?_
    refine K.end_ret (fun w _ => K.res_tmp rfl w) ?_
    exact K.gives_b rfl (by unfold conS; rw [if_neg ht15])
  try replace hg26 := of_decide_eq_false hg26
  refine K.d_skip 10 rfl (by kernel_rfl) rfl ?_
  refine zN ?_
  refine K.d_skip 11 rfl (by kernel_rfl) rfl ?_
  refine zN ?_
  refine K.d_skip 12 rfl (by kernel_rfl) rfl ?_
  refine zN ?_
  refine K.d_skip 13 rfl (by kernel_rfl) rfl ?_
  refine zN ?_
  refine K.d_skip 14 rfl (by kernel_rfl) rfl ?_
  refine zN ?_
  refine K.d_skip 15 rfl (by kernel_rfl) rfl ?_
  refine zN ?_
  refine K.d_skip 16 rfl (by kernel_rfl) rfl ?_
  refine zN ?_
  refine K.d_skip 17 rfl (by kernel_rfl) rfl ?_
  refine zN ?_
  refine K.d_skip 18 rfl (by kernel_rfl) rfl ?_
  refine zN ?_
  refine K.d_skip 19 rfl (by kernel_rfl) rfl ?_
  refine zN ?_
  refine K.d_skip 20 rfl (by kernel_rfl) rfl ?_
  refine zN ?_
  refine K.d_skip 21 rfl (by kernel_rfl) rfl ?_
  refine zN ?_
  refine K.d_skip 22 rfl (by kernel_rfl) rfl ?_
  refine zN ?_
  refine K.d_skip 23 rfl (by kernel_rfl) rfl ?_
  refine zN ?_
  refine K.d_skip 24 rfl (by kernel_rfl) rfl ?_
  refine zN ?_
  refine K.d_skip 25 rfl (by kernel_rfl) rfl ?_
  refine zN ?_
  refine K.d_pure 26 rfl (K.pick_f rfl) (by kernel_rfl) rfl ?_
  refine zn ?_
  refine K.d_pure 27 rfl (K.assign) (by kernel_rfl) rfl ?_
  refine zn ?_
  refine K.d_done (by kernel_rfl) ?_
  refine K.norm_then ?_
  refine K.ret ?_
  refine K.end_ret (fun w _ => K.res_tmp rfl w) ?_
  exact absurd (Decidable.not_not.1 hg26) ht15

set_option maxRecDepth 100000 in
theorem c87 {r : List RvT} {A : Option Addr} {c : Nat} {b s : Nat} {w : World} (hX : K.PtrL w [] ⟨b, 0, none⟩ (.slice A r.length c :: dcell (drT r))) (hXb : b < w.heap.size) (hR : K.Rd w A 4 eR r) (g : Good r) (hs : s < 512) :
    Calls Tryz.prog 97 [.pointer (some ⟨b, 0, none⟩), .int .i64 (s : Int)].toArray w (K.Gives (.bool (corS r s)) w) := by
  have hgn := g.n
  refine K.enter (args := [.pointer (some ⟨b, 0, none⟩), .int .i64 (s : Int)]) Tryz.func97 rfl (n := 38) rfl ?_
  simp only [List.replicate, List.cons_append, List.nil_append]
  refine sr ?_
  refine qa ?_
  refine sn ?_
  refine K.seq ?_
  refine sr ?_
  refine qm ?_
  refine qp (K.nilCheck rfl) ?_
  refine qp (K.fieldAddr_lit fo_82_0 rfl) ?_
  refine K.seq_sil (K.load_at one_78 rfl (hX.any) rfl) rfl ?_
  refine zN ?_
  refine qp (K.len_sl sl_78 rfl) ?_
  refine qm ?_
  refine sn ?_
  refine K.block ?_
  refine K.loopW [12] [4, 5, 6, 13, 14, 15, 16, 17, 18, 19, 20, 21, 22, 23, 24, 25, 26, 27, 28, 29, 30, 31, 32, 33, 34, 35, 36, 37, 38, 39] (fun vi L => ∃ i : Nat, vi = [.int .i64 (i : Int)] ∧ L = [] ∧ i ≤ r.length ∧ ∀ j, j < i → corIn r s j = true) (fun vi => r.length - (intOf (K.nth vi 0)).toNat) ?_ ?_
  · exact ⟨0, rfl, rfl, Nat.zero_le _, fun j hj => absurd hj (Nat.not_lt_zero j)⟩
  intro vi vr L hJ
  obtain ⟨i, rfl, rfl, hin, hall⟩ := hJ
  try dsimp only [setd, setn, ev, nth, over, cl, eI, eP, eT, eR, setM, setF, List.map, List.append, List.drop, List.take]
  refine sr ?_
  refine qp (K.lss rfl rfl) ?_
  refine sn ?_
  refine K.seq ?_
  refine K.cond rfl (fun ht13 => ?_) (fun ht13 => ?_)
  · try replace ht13 := of_decide_eq_true ht13
    have hi : i < r.length := by omega
    refine K.skip ?_
    refine K.norm_then ?_
    refine K.seq ?_
    refine K.block ?_
    refine sr ?_
    refine qm ?_
    refine qa ?_
    refine sn ?_
    refine K.seq ?_
    refine sr ?_
    iterate 2 refine qm ?_
    refine qp (K.shr_int rfl rfl (by omega)) ?_
    refine qp (K.Pure.eq (K.and_int rfl rfl) (show _ = Value.int .i64 (if s.testBit i then 1 else 0) from by rw [bit_val hs (by omega)])) ?_
    refine qp (K.Pure.eq (K.eql rfl rfl) (show _ = Value.bool (s.testBit i) from congrArg Value.bool (by cases s.testBit i <;> rfl))) ?_
    refine sn ?_
    refine K.cond rfl (fun ht19 => ?_) (fun ht19 => ?_)
    · try replace ht19 := of_decide_eq_true ht19
      refine K.exit ?_
      refine K.exit_then ?_
      refine K.exit_here ?_
      refine K.norm_then ?_
      refine K.region_lit ?_
      refine qp (K.add_i64 rfl rfl (by omega)) ?_
      refine qm ?_
      refine K.seq_nil ?_
      have hci : corIn r s i = true := by first | exact cor_in1 ht19 | exact cor_in2 ht22 (fun j hj => hcu j (by omega))
      exact K.round_endW (L'' := []) [.int .i64 ((i : Int) + 1)] ⟨i + 1, rfl, rfl, by omega, K.lt_succ_case hall hci⟩ (by simp [K.nth, intOf]; omega) (List.nil_sublist _) (by kernel_rfl)
    try replace ht19 := of_decide_eq_false ht19
    refine K.skip ?_
    refine K.norm_then ?_
    refine K.seq ?_
    refine sr ?_
    iterate 2 refine qm ?_
    refine K.seq_call (K.call_g cal_70 (fun F w hF hw => c68 (hX.into hXb hw) (K.lt_into hXb hw) (hR.pass hw) g hi)) rfl ?_
    refine zN ?_
    refine sn ?_
    refine K.cond rfl (fun ht22 => ?_) (fun ht22 => ?_)
    · try replace ht22 := of_decide_eq_true ht22
      refine sr ?_
      refine qa ?_
      refine sn ?_
      refine K.ret ?_
      refine K.ret_then ?_
      refine K.ret_block ?_
      refine K.ret_then ?_
      refine K.ret_then ?_
      refine K.ret_block ?_
      refine K.ret_then ?_
      refine K.end_ret (fun w _ => K.res_tmp rfl w) ?_
      exact K.gives_b rfl (cor_f hi ht19 ht22).symm
    try replace ht22 := of_decide_eq_false ht22
    refine K.skip ?_
    refine K.norm_then ?_
    refine sr ?_
    iterate 2 refine qm ?_
    refine sn ?_
    refine K.block ?_
    refine K.loopW [24] [4, 6, 25, 26, 27, 28, 29, 30, 31, 32, 33, 34, 35, 36, 37, 38] (fun vi L => ∃ k : Nat, vi = [.int .i64 (k : Int)] ∧ L = [] ∧ k ≤ i ∧ ∀ j, j < k → corAt r s i j = true) (fun vi => i - (intOf (K.nth vi 0)).toNat) ?_ ?_
    · exact ⟨0, rfl, rfl, Nat.zero_le _, fun j hj => absurd hj (Nat.not_lt_zero j)⟩
    intro vi vr L hJ
    obtain ⟨k, rfl, rfl, hki, hcu⟩ := hJ
    try dsimp only [setd, setn, ev, nth, over, cl, eI, eP, eT, eR, setM, setF, List.map, List.append, List.drop, List.take]
    refine sr ?_
    refine qp (K.lss rfl rfl) ?_
    refine sn ?_
    refine K.seq ?_
    refine K.cond rfl (fun ht25 => ?_) (fun ht25 => ?_)
    · try replace ht25 := of_decide_eq_true ht25
      refine K.skip ?_
      refine K.norm_then ?_
      refine K.seq ?_
      refine K.block ?_
      refine sr ?_
      refine qm ?_
      refine qa ?_
      refine sn ?_
      refine sr ?_
      iterate 2 refine qm ?_
      refine qp (K.shr_int rfl rfl (by omega)) ?_
      refine qp (K.Pure.eq (K.and_int rfl rfl) (show _ = Value.int .i64 (if s.testBit k then 1 else 0) from by rw [bit_val hs (by omega)])) ?_
      refine qp (K.Pure.eq (K.eql rfl rfl) (show _ = Value.bool (!s.testBit k) from congrArg Value.bool (by cases s.testBit k <;> rfl))) ?_
      refine qm ?_
      refine K.split 32 rfl (fun hg31 => ?_) (fun hg31 => ?_)
      · try replace hg31 := of_decide_eq_true hg31
        iterate 3 refine qm ?_
        refine K.seq_call (K.call_g cal_73 (fun F w hF hw => c71 (hX.into hXb hw) (K.lt_into hXb hw) (hR.pass hw) g hi (by omega))) rfl ?_
        refine zN ?_
        refine qp (K.pick_t rfl) ?_
        refine sn ?_
        refine K.cond rfl (fun ht37 => ?_) (fun ht37 => ?_)
        · try replace ht37 := of_decide_eq_true ht37
          refine sr ?_
          refine qa ?_
          refine sn ?_
          refine K.ret ?_
          refine K.ret_block ?_
          refine K.ret_then ?_
          refine K.ret_then ?_
          refine K.ret_block ?_
          refine K.ret_block ?_
          refine K.ret_then ?_
          refine K.ret_then ?_
          refine K.ret_block ?_
          refine K.ret_then ?_
          refine K.end_ret (fun w _ => K.res_tmp rfl w) ?_
          exact K.gives_b rfl (cor_f2 hi (by omega) ht19 (by have h := hg31; simpa using h) ht37).symm
        try replace ht37 := of_decide_eq_false ht37
        refine K.skip ?_
        refine K.norm_block ?_
        refine K.norm_then ?_
        refine K.region_lit ?_
        refine qp (K.add_i64 rfl rfl (by omega)) ?_
        refine qm ?_
        refine K.seq_nil ?_
        have hca : corAt r s i k = true := by
          unfold corAt
          first
            | (rw [show conS r i k = false from ht37]; simp)
            | (have h := hg31; simp at h; rw [h]; rfl)
        exact K.round_endW (L'' := []) [.int .i64 ((k : Int) + 1)] ⟨k + 1, rfl, rfl, by omega, K.lt_succ_case hcu hca⟩ (by simp [K.nth, intOf]; omega) (List.nil_sublist _) (by kernel_rfl)
      try replace hg31 := of_decide_eq_false hg31
      iterate 4 refine qs ?_
      refine qp (K.pick_f rfl) ?_
      refine sn ?_
      refine K.cond_false rfl ?_
      refine K.skip ?_
      refine K.norm_block ?_
      refine K.norm_then ?_
      refine K.region_lit ?_
      refine qp (K.add_i64 rfl rfl (by omega)) ?_
      refine qm ?_
      refine K.seq_nil ?_
      have hca : corAt r s i k = true := by
        unfold corAt
        first
          | (rw [show conS r i k = false from ht37]; simp)
          | (have h := hg31; simp at h; rw [h]; rfl)
      exact K.round_endW (L'' := []) [.int .i64 ((k : Int) + 1)] ⟨k + 1, rfl, rfl, by omega, K.lt_succ_case hcu hca⟩ (by simp [K.nth, intOf]; omega) (List.nil_sublist _) (by kernel_rfl)
    try replace ht25 := of_decide_eq_false ht25
    refine K.exit ?_
    refine K.exit_then ?_
    refine K.exit_then ?_
    refine K.exit_here ?_
    refine K.norm_block ?_
    refine K.norm_then ?_
    refine K.region_lit ?_
    refine qp (K.add_i64 rfl rfl (by omega)) ?_
    refine qm ?_
    refine K.seq_nil ?_
    have hci : corIn r s i = true := by first | exact cor_in1 ht19 | exact cor_in2 ht22 (fun j hj => hcu j (by omega))
    exact K.round_endW (L'' := []) [.int .i64 ((i : Int) + 1)] ⟨i + 1, rfl, rfl, by omega, K.lt_succ_case hall hci⟩ (by simp [K.nth, intOf]; omega) (List.nil_sublist _) (by kernel_rfl)
  try replace ht13 := of_decide_eq_false ht13
  refine K.exit ?_
  refine K.exit_then ?_
  refine K.exit_then ?_
  refine K.exit_here ?_
  refine K.norm_then ?_
  refine sr ?_
  refine qa ?_
  refine sn ?_
  refine K.ret ?_
  refine K.end_ret (fun w _ => K.res_tmp rfl w) ?_
  exact K.gives_b rfl (cor_t (fun j hj => hall j (by omega))).symm

set_option maxRecDepth 100000 in
theorem c62 {r : List RvT} {A : Option Addr} {c : Nat} {b : Nat} {w : World} (hX : K.PtrL w [] ⟨b, 0, none⟩ (.slice A r.length c :: dcell (drT r))) (hXb : b < w.heap.size) (hR : K.Rd w A 4 eR r) (g : Good r) :
    Calls Tryz.prog 67 [.pointer (some ⟨b, 0, none⟩)].toArray w (K.RetS 3 1 K.eI (corL r) w) := by
  have hgn := g.n
  have hpw := pow_bd hgn.2
  refine R.enter (args := [.pointer (some ⟨b, 0, none⟩)]) Tryz.func67 rfl (m := 41) rfl ?_
  simp only [List.replicate, List.cons_append, List.nil_append]
  refine R.seq ?_
  refine R.region_lit rfl ?_
  refine qa ?_
  refine K.seq_nil ?_
  refine R.out ?_
  refine R.norm_then ?_
  refine R.scope ?_
  refine R.seq ?_
  refine R.region_lit rfl ?_
  refine qm ?_
  refine qp (K.nilCheck rfl) ?_
  refine qp (K.fieldAddr_lit fo_82_0 rfl) ?_
  refine K.seq_sil (K.load_at one_78 rfl (hX.any) rfl) rfl ?_
  refine zN ?_
  refine qp (K.len_sl sl_78 rfl) ?_
  refine qa ?_
  refine K.seq_nil ?_
  refine R.out ?_
  refine R.norm_then ?_
  refine R.seq ?_
  refine R.label ?_
  refine R.norm_then ?_
  refine R.seq ?_
  refine R.seq ?_
  refine R.region_lit rfl ?_
  refine K.nil_row (e := 3) (size := 1) ?_
  refine qm ?_
  refine qp (K.nilCheck rfl) ?_
  refine qp (K.fieldAddr_lit fo_82_0 rfl) ?_
  refine K.seq_sil (K.load_at one_78 rfl (hX.any) rfl) rfl ?_
  refine zN ?_
  refine qp (K.len_sl sl_78 rfl) ?_
  refine qp (K.Pure.eq (K.shl_int rfl rfl (by omega)) (show _ = Value.int .i64 ((2 ^ r.length : Nat) : Int) from by rw [shl_val hgn.2])) ?_
  refine qm ?_
  refine K.seq_nil ?_
  refine R.out ?_
  refine R.norm_then ?_
  refine R.block ?_
  refine R.loopW [2, 3, 17] [4, 5, 18, 19, 20, 21, 22, 23, 24, 25, 26, 27, 28, 29, 30, 31, 32, 33, 34, 35, 36, 37, 38, 39, 40] (fun vi L => ∃ (s : Nat) (Q1 : Option Addr) (q1 : Nat), vi = [.slice Q1 (corF r s).2.length q1, .int .i64 ((corF r s).1 : Int), .int .i64 (s : Int)] ∧ L = [K.row (.slice Q1 (corF r s).2.length q1) 3 1 (corF r s).2.length ((corF r s).2.flatMap K.eI)] ∧ s ≤ 2 ^ r.length) (fun vi => 2 ^ r.length - (intOf (K.nth vi 2)).toNat) ?_ ?_
  · exact ⟨0, none, 0, rfl, rfl, Nat.zero_le _⟩
  intro vi vr L hJ
  obtain ⟨s, Q1, q1, rfl, rfl, hsn⟩ := hJ
  have hsb := corF_le (r := r) s
  try dsimp only [setd, setn, ev, nth, over, cl, eI, eP, eT, eR, setM, setF, List.map, List.append, List.drop, List.take]
  refine R.seq ?_
  refine R.region_lit rfl ?_
  refine qp (K.lss rfl rfl) ?_
  refine K.seq_nil ?_
  refine R.out ?_
  refine R.norm_then ?_
  refine R.seq ?_
  refine R.cond rfl (fun ht18 => ?_) (fun ht18 => ?_)
  · try replace ht18 := of_decide_eq_true ht18
    have hsb := corF_le (r := r) s
    refine R.skip ?_
    refine R.norm_then ?_
    refine R.seq ?_
    refine R.block ?_
    refine R.seq ?_
    refine R.region_lit rfl ?_
    refine qm ?_
    refine qa ?_
    refine K.seq_nil ?_
    refine R.out ?_
    refine R.norm_then ?_
    refine R.seq ?_
    refine R.region_lit rfl ?_
    refine qm ?_
    refine K.seq_pure (K.Pure.eq (K.conv_int ik_3 ik_126 rfl) (show _ = Value.int .u64 (s : Int) from by rw [IntWalk.u64_in _ (by omega)])) rfl ?_
    refine zN ?_
    refine K.seq_call (K.call_g cal_62 (fun F w hF hw => c86 (by omega) w)) rfl ?_
    refine zN ?_
    refine qa ?_
    refine K.seq_nil ?_
    refine R.out ?_
    refine R.norm_then ?_
    refine R.seq ?_
    refine R.seq ?_
    refine R.region_lit rfl ?_
    iterate 2 refine qm ?_
    refine qp (K.gtr rfl rfl) ?_
    refine qm ?_
    refine K.split 26 rfl (fun hg26 => ?_) (fun hg26 => ?_)
    · try replace hg26 := of_decide_eq_true hg26
      iterate 4 refine qs ?_
      refine qp (K.pick_t rfl) ?_
      refine K.seq_nil ?_
      refine R.out ?_
      refine R.norm_then ?_
      refine R.cond_true rfl ?_
      refine R.exit ?_
      refine R.exit_then ?_
      refine R.exit_here ?_
      refine R.norm_then ?_
      refine R.region_lit rfl ?_
      refine qp (K.add_i64 rfl rfl (by omega)) ?_
      refine qm ?_
      refine K.seq_nil ?_
      refine R.out ?_
      have hcn : corF r (s + 1) = corF r s := corF_skip (by first | exact .inl (by unfold pcS; omega) | exact .inr (by simpa using ht31))
      exact R.round_endW (L'' := [K.row (.slice Q1 (corF r s).2.length q1) 3 1 (corF r s).2.length ((corF r s).2.flatMap K.eI)]) [.slice Q1 (corF r s).2.length q1, .int .i64 ((corF r s).1 : Int), .int .i64 ((s : Int) + 1)] ⟨s + 1, Q1, q1, by rw [hcn]; rfl, by rw [hcn], by omega⟩ (by simp [K.nth, intOf]; omega) (List.Sublist.refl _) (by kernel_rfl)
    try replace hg26 := of_decide_eq_false hg26
    iterate 2 refine qm ?_
    refine K.seq_call (K.call_g cal_97 (fun F w hF hw => c87 (hX.into hXb hw) (K.lt_into hXb hw) (hR.pass hw) g (by omega))) rfl ?_
    refine zN ?_
    first | refine K.seq_pure (K.not_d rfl) rfl ?_ | refine K.seq_pure (K.not_ rfl) rfl ?_
    refine zN ?_
    refine qp (K.pick_f rfl) ?_
    refine K.seq_nil ?_
    refine R.out ?_
    refine R.norm_then ?_
    refine R.cond rfl (fun ht31 => ?_) (fun ht31 => ?_)
    · try replace ht31 := of_decide_eq_true ht31
      refine R.exit ?_
      refine R.exit_then ?_
      refine R.exit_here ?_
      refine R.norm_then ?_
      refine R.region_lit rfl ?_
      refine qp (K.add_i64 rfl rfl (by omega)) ?_
      refine qm ?_
      refine K.seq_nil ?_
      refine R.out ?_
      have hcn : corF r (s + 1) = corF r s := corF_skip (by first | exact .inl (by unfold pcS; omega) | exact .inr (by simpa using ht31))
      exact R.round_endW (L'' := [K.row (.slice Q1 (corF r s).2.length q1) 3 1 (corF r s).2.length ((corF r s).2.flatMap K.eI)]) [.slice Q1 (corF r s).2.length q1, .int .i64 ((corF r s).1 : Int), .int .i64 ((s : Int) + 1)] ⟨s + 1, Q1, q1, by rw [hcn]; rfl, by rw [hcn], by omega⟩ (by simp [K.nth, intOf]; omega) (List.Sublist.refl _) (by kernel_rfl)
    try replace ht31 := of_decide_eq_false ht31
    refine R.skip ?_
    refine R.norm_then ?_
    refine R.seq ?_
    refine R.seq ?_
    refine R.region_lit rfl ?_
    iterate 2 refine qm ?_
    refine qp (K.lss rfl rfl) ?_
    refine K.seq_nil ?_
    refine R.out ?_
    refine R.norm_then ?_
    refine R.cond rfl (fun ht34 => ?_) (fun ht34 => ?_)
    · try replace ht34 := of_decide_eq_true ht34
      refine K.weak (List.Sublist.cons _ (List.Sublist.slnil)) ?_
      refine R.region_lit rfl ?_
      refine K.nil_row (e := 3) (size := 1) ?_
      refine qm ?_
      iterate 2 refine qa ?_
      refine K.seq_nil ?_
      refine R.out ?_
      refine R.norm_then ?_
      refine R.region_lit rfl ?_
      iterate 2 refine qm ?_
      refine K.seq_new (K.buildSlice (bs1 _)) rfl ?_
      intro b38
      refine zN ?_
      refine K.seq_upd (K.append el_28 rfl rfl (K.PtrL.own' (K.m0)) rfl rfl (by decide) (by omega) (by omega) (fun _ _ => K.rp1)) rfl ?_
      rintro ⟨g39, c39⟩ _
      refine zN ?_
      refine qa ?_
      refine K.seq_nil ?_
      refine R.out ?_
      refine R.norm_block ?_
      refine R.norm_then ?_
      refine R.region_lit rfl ?_
      refine qp (K.add_i64 rfl rfl (by omega)) ?_
      refine qm ?_
      refine K.seq_nil ?_
      refine R.out ?_
      have hc1 : ¬ pcS s > (corF r s).1 := by unfold pcS; omega
      have hc2 : corS r s = true := by simpa using ht31
      have hcn : corF r (s + 1) = (pcS s, [(s : Int)]) := corF_new hc1 hc2 (by unfold pcS; omega)
      exact R.round_endW (L'' := [K.row (.slice (some ⟨g39, 0, none⟩) (0 + 1) c39) 3 1 (0 + 1) ([] ++ [.int .i64 (s : Int)])]) [.slice (some ⟨g39, 0, none⟩) (0 + 1) c39, .int .i64 ((pcS s : Nat) : Int), .int .i64 ((s : Int) + 1)] ⟨s + 1, some ⟨g39, 0, none⟩, c39, by rw [hcn]; rfl, by rw [hcn]; rfl, by omega⟩ (by simp [K.nth, intOf]; omega) (List.Sublist.cons _ (List.Sublist.refl _)) (by kernel_rfl)
    try replace ht34 := of_decide_eq_false ht34
    refine R.skip ?_
    refine R.norm_then ?_
    refine R.region_lit rfl ?_
    iterate 2 refine qm ?_
    refine K.seq_new (K.buildSlice (bs1 _)) rfl ?_
    intro b38
    refine zN ?_
    refine K.seq_upd (K.append el_28 rfl rfl (K.PtrL.own' (K.m0)) rfl rfl (by decide) (by omega) (by omega) (fun _ _ => K.rp1)) rfl ?_
    rintro ⟨g39, c39⟩ _
    refine zN ?_
    refine qa ?_
    refine K.seq_nil ?_
    refine R.out ?_
    refine R.norm_block ?_
    refine R.norm_then ?_
    refine R.region_lit rfl ?_
    refine qp (K.add_i64 rfl rfl (by omega)) ?_
    refine qm ?_
    refine K.seq_nil ?_
    refine R.out ?_
    have hc1 : ¬ pcS s > (corF r s).1 := by unfold pcS; omega
    have hc2 : corS r s = true := by simpa using ht31
    have hcn : corF r (s + 1) = ((corF r s).1, (corF r s).2 ++ [(s : Int)]) := corF_more hc1 hc2 (by unfold pcS; omega)
    exact R.round_endW (L'' := [K.row (.slice (some ⟨g39, 0, none⟩) ((corF r s).2.length + 1) c39) 3 1 ((corF r s).2.length + 1) ((corF r s).2.flatMap K.eI ++ [.int .i64 (s : Int)])]) [.slice (some ⟨g39, 0, none⟩) ((corF r s).2.length + 1) c39, .int .i64 ((corF r s).1 : Int), .int .i64 ((s : Int) + 1)] ⟨s + 1, some ⟨g39, 0, none⟩, c39, by rw [hcn]; simp only [List.length_append]; rfl, by rw [hcn]; simp only [List.length_append, List.flatMap_append]; rfl, by omega⟩ (by simp [K.nth, intOf]; omega) (List.Sublist.cons _ (List.Sublist.refl _)) (by kernel_rfl)
  try replace ht18 := of_decide_eq_false ht18
  refine R.exit ?_
  refine R.exit_then ?_
  refine R.exit_then ?_
  refine R.exit_here ?_
  refine R.norm_then ?_
  refine R.seq ?_
  refine R.region_lit rfl ?_
  refine qm ?_
  refine qa ?_
  refine K.seq_nil ?_
  refine R.out ?_
  refine R.norm_then ?_
  refine R.ret ?_
  refine R.ng_ret ?_
  refine R.end_ret (fun w _ => K.res_tmp rfl w) ?_
  have e0 : s = 2 ^ r.length := by omega
  subst e0
  exact K.rets_s K.m0 rfl rfl rfl

set_option maxRecDepth 100000 in
theorem c63 {a b : Int} {w : World} (hT : Tab w) (ha : 0 ≤ a ∧ a ≤ 511) (hb : 0 ≤ b ∧ b ≤ 511) :
    Calls Tryz.prog 68 [.int .i64 a, .int .i64 b].toArray w (K.Gives (.int .i64 (cmpL (bitsL a) (bitsL b))) w) := by
  refine K.enter (args := [.int .i64 a, .int .i64 b]) Tryz.func68 rfl (n := 8) rfl ?_
  simp only [List.replicate, List.cons_append, List.nil_append]
  refine sr ?_
  refine qa ?_
  refine sn ?_
  refine sr ?_
  refine qm ?_
  refine K.seq_loud (K.call_f cal_65 (fun F w hF hw => c60 (hT.pass hw) ha)) rfl ?_
  rintro ⟨Q1, q1⟩ hq1
  refine zN ?_
  refine qm ?_
  refine K.seq_loud (K.call_f cal_65 (fun F w hF hw => c60 (hT.pass hw) hb)) rfl ?_
  rintro ⟨Q2, q2⟩ hq2
  refine zN ?_
  refine K.seq_call (K.call_g cal_63 (fun F w hF hw => (by have hX := (K.Rd.own (e := K.eI) (xs := (bitsL a)) hw (hF _ (K.m1)) hq1 (fun _ => rfl) (by decide)); have hY := (K.Rd.own (e := K.eI) (xs := (bitsL b)) hw (hF _ (K.m0)) hq2 (fun _ => rfl) (by decide)); have := bits_len (x := a); have := bits_len (x := b); exact c64 hX hY (by omega) (by omega)))) rfl ?_
  refine zN ?_
  refine qa ?_
  refine sn ?_
  refine K.ret ?_
  refine K.end_ret (fun w _ => K.res_tmp rfl w) ?_
  exact K.gives rfl

set_option maxRecDepth 100000 in
theorem c61 {Q : Option Addr} {q : Nat} {l : List Int} {w : World} (hT : Tab w) (hL : K.Rd w Q 1 K.eI l) (hl : l.length ≤ 512) (hb : ∀ x ∈ l, 0 ≤ x ∧ x ≤ 511) :
    Calls Tryz.prog 66 [.slice Q l.length q, .func (.func 68) #[] #[]].toArray w (K.Gives (.int .i64 (fstS l l.length)) w) := by
  refine K.enter (args := [.slice Q l.length q, .func (.func 68) #[] #[]]) Tryz.func66 rfl (n := 24) rfl ?_
  simp only [List.replicate, List.cons_append, List.nil_append]
  refine sr ?_
  refine qa ?_
  refine sn ?_
  refine K.seq ?_
  refine sr ?_
  refine qm ?_
  refine qp (K.len_sl sl_28 rfl) ?_
  refine qm ?_
  refine sn ?_
  refine K.block ?_
  refine K.loopW [4, 9] [5, 6, 10, 11, 12, 13, 14, 15, 16, 17, 18, 19, 20, 21, 22, 23, 24] (fun vi L => ∃ k : Nat, vi = [.int .i64 (fstS l k), .int .i64 (k : Int)] ∧ L = [] ∧ k ≤ l.length) (fun vi => l.length - (intOf (K.nth vi 1)).toNat) ?_ ?_
  · exact ⟨0, rfl, rfl, Nat.zero_le _⟩
  intro vi vr L hJ
  obtain ⟨k, rfl, rfl, hkn⟩ := hJ
  try dsimp only [setd, setn, ev, nth, over, cl, eI, eP, eT, eR, setM, setF, List.map, List.append, List.drop, List.take]
  refine sr ?_
  refine qp (K.lss rfl rfl) ?_
  refine sn ?_
  refine K.seq ?_
  refine K.cond rfl (fun ht10 => ?_) (fun ht10 => ?_)
  · try replace ht10 := of_decide_eq_true ht10
    have hk : k < l.length := by omega
    have hxb := hb _ (K.gt_mem hk)
    have hfb := fst_bd hb k hkn
    refine K.skip ?_
    refine K.norm_then ?_
    refine K.seq ?_
    refine K.block ?_
    refine sr ?_
    refine qm ?_
    refine K.seq_ix (M := []) _ hL.sl sl_28 rfl rfl rfl (by omega) rfl ?_
    intro p12 hp12
    refine zN ?_
    refine K.seq_sil (K.load1 one_3 rfl (hp12.any)) rfl ?_
    refine zN ?_
    iterate 2 refine qa ?_
    refine sn ?_
    refine sr ?_
    refine qm ?_
    refine qp (K.eql rfl rfl) ?_
    refine qm ?_
    refine K.split 16 rfl (fun hg16 => ?_) (fun hg16 => ?_)
    · try replace hg16 := of_decide_eq_true hg16
      iterate 5 refine qs ?_
      refine qp (K.pick_t rfl) ?_
      refine sn ?_
      refine K.cond_true rfl ?_
      refine K.region_lit ?_
      refine qm ?_
      refine qa ?_
      refine K.seq_nil ?_
      refine K.norm_block ?_
      refine K.norm_then ?_
      refine K.region_lit ?_
      refine qp (K.add_i64 rfl rfl (by omega)) ?_
      refine qm ?_
      refine K.seq_nil ?_
      have hf : fstS l (k + 1) = l.getD k default := by rw [fstS, if_pos (by omega)]
      exact K.round_endW (L'' := []) [.int .i64 (l.getD k default), .int .i64 ((k : Int) + 1)] ⟨k + 1, by rw [hf]; rfl, rfl, by omega⟩ (by simp [K.nth, intOf]; omega) (List.nil_sublist _) (by kernel_rfl)
    try replace hg16 := of_decide_eq_false hg16
    iterate 3 refine qm ?_
    refine K.seq_call (K.callv_g (first := []) (cap := []) rfl cal_63 (fun F w hF hw => c63 (hT.pass hw) hxb hfb)) rfl ?_
    refine zN ?_
    refine qp (K.lss rfl rfl) ?_
    refine qp (K.pick_f rfl) ?_
    refine sn ?_
    refine K.cond rfl (fun ht22 => ?_) (fun ht22 => ?_)
    · try replace ht22 := of_decide_eq_true ht22
      refine K.region_lit ?_
      refine qm ?_
      refine qa ?_
      refine K.seq_nil ?_
      refine K.norm_block ?_
      refine K.norm_then ?_
      refine K.region_lit ?_
      refine qp (K.add_i64 rfl rfl (by omega)) ?_
      refine qm ?_
      refine K.seq_nil ?_
      have hf : fstS l (k + 1) = l.getD k default := by rw [fstS, if_pos (by omega)]
      exact K.round_endW (L'' := []) [.int .i64 (l.getD k default), .int .i64 ((k : Int) + 1)] ⟨k + 1, by rw [hf]; rfl, rfl, by omega⟩ (by simp [K.nth, intOf]; omega) (List.nil_sublist _) (by kernel_rfl)
    try replace ht22 := of_decide_eq_false ht22
    refine K.skip ?_
    refine K.norm_block ?_
    refine K.norm_then ?_
    refine K.region_lit ?_
    refine qp (K.add_i64 rfl rfl (by omega)) ?_
    refine qm ?_
    refine K.seq_nil ?_
    have hf : fstS l (k + 1) = fstS l k := by rw [fstS, if_neg (by omega)]
    exact K.round_endW (L'' := []) [.int .i64 (fstS l k), .int .i64 ((k : Int) + 1)] ⟨k + 1, by rw [hf]; rfl, rfl, by omega⟩ (by simp [K.nth, intOf]; omega) (List.nil_sublist _) (by kernel_rfl)
  try replace ht10 := of_decide_eq_false ht10
  refine K.exit ?_
  refine K.exit_then ?_
  refine K.exit_then ?_
  refine K.exit_here ?_
  refine K.norm_then ?_
  refine sr ?_
  refine qm ?_
  refine qa ?_
  refine sn ?_
  refine K.ret ?_
  refine K.end_ret (fun w _ => K.res_tmp rfl w) ?_
  have e0 : k = l.length := by omega
  subst e0
  exact K.gives rfl

set_option maxRecDepth 100000 in
theorem e26 {r : List RvT} {A : Option Addr} {c : Nat} {w : World} (hR : K.Rd w A 4 eR r) (hn : r.length ≤ 4611686018427387904) (hc : (chk r).2.2 ≠ 0) :
    Calls Tryz.prog 32 [.slice A r.length c].toArray w (K.RetSE 3 1 K.eI (fewL r) (chk r).2.2 w) := by
  refine K.enter (args := [.slice A r.length c]) Tryz.func32 rfl (n := 17) rfl ?_
  simp only [List.replicate, List.cons_append, List.nil_append]
  refine sr ?_
  iterate 2 refine qa ?_
  refine sn ?_
  refine sr ?_
  refine qm ?_
  refine K.seq_call (K.call_g cal_36 (fun F w hF hw => e52 (hR.pass hw) hn hc)) rfl ?_
  refine zN ?_
  refine qm ?_
  refine qx ?_
  refine qx ?_
  iterate 2 refine qa ?_
  refine sn ?_
  refine K.seq ?_
  refine sr ?_
  refine qm ?_
  refine qp (K.neq rfl rfl) ?_
  refine sn ?_
  refine K.cond_true (by exact congrArg Value.bool (decide_eq_true hc)) ?_
  refine sr ?_
  refine qm ?_
  iterate 2 refine qa ?_
  refine sn ?_
  refine K.ret ?_
  refine K.ret_then ?_
  refine K.end_ret (fun w _ => K.res_tmp2 rfl w) ?_
  exact K.rets_se0 (by unfold fewL; rw [if_pos hc]) rfl rfl

set_option maxRecDepth 100000 in
theorem g26 {r : List RvT} {A : Option Addr} {c : Nat} {w : World} (hR : K.Rd w A 4 eR r) (hn : r.length ≤ 4611686018427387904) (hT : Tab w) (hc : (chk r).2.2 = 0) :
    Calls Tryz.prog 32 [.slice A r.length c].toArray w (K.RetSE 3 1 K.eI (fewL r) (chk r).2.2 w) := by
  have g : Good r := chk_good hc
  have hl : fewL r = bitsL (fstS (corL r) (corL r).length) := by unfold fewL; rw [if_neg (by omega)]
  rw [hl]
  refine K.enter (args := [.slice A r.length c]) Tryz.func32 rfl (n := 17) rfl ?_
  simp only [List.replicate, List.cons_append, List.nil_append]
  refine sr ?_
  iterate 2 refine qa ?_
  refine sn ?_
  refine sr ?_
  refine qm ?_
  refine K.seq_loud (K.call_f cal_36 (fun F w hF hw => g52 (hR.pass hw) hn hc)) rfl ?_
  rintro q _
  refine zN ?_
  refine qm ?_
  refine qx ?_
  refine qx ?_
  iterate 2 refine qa ?_
  refine sn ?_
  refine K.seq ?_
  refine sr ?_
  refine qm ?_
  refine qp (K.neq rfl rfl) ?_
  refine sn ?_
  refine K.cond_false (by rfl) ?_
  refine K.skip ?_
  refine K.norm_then ?_
  refine sr ?_
  refine qm ?_
  refine K.seq_loud (K.call_f cal_67 (fun F w hF hw => c62 (K.PtrL.now hw (hF _ (K.m0))) (K.blk_lt hw (hF _ (K.m0))) (hR.pass hw) g)) rfl ?_
  rintro ⟨Q1, q1⟩ hq1
  refine zN ?_
  refine K.seq_call (K.call_g cal_66 (fun F w hF hw => (by have hL := (K.Rd.own (e := K.eI) (xs := (corL r)) hw (hF _ (K.m0)) hq1 (fun _ => rfl) (by decide)); have := corL_len g; exact c61 (hT.pass hw) hL (by omega) (fun x hx => corL_mem g hx)))) rfl ?_
  refine zN ?_
  refine K.seq_loud (K.call_f cal_65 (fun F w hF hw => c60 (hT.pass hw) (fst_bd (fun x hx => corL_mem g hx) _ (Nat.le_refl _)))) rfl ?_
  rintro ⟨Q2, q2⟩ hq2
  refine zN ?_
  iterate 2 refine qa ?_
  refine sn ?_
  refine K.ret ?_
  refine K.end_ret (fun w _ => K.res_tmp2 rfl w) ?_
  rw [hc]
  exact K.rets_se K.m0 rfl rfl rfl rfl

theorem c26 {r : List RvT} {A : Option Addr} {c : Nat} {w : World} (hR : K.Rd w A 4 eR r) (hn : r.length ≤ 4611686018427387904) (hT : Tab w) : Calls Tryz.prog 32 [.slice A r.length c].toArray w (K.RetSE 3 1 K.eI (fewL r) (chk r).2.2 w) := by
  by_cases hc : (chk r).2.2 = 0
  · exact g26 hR hn hT hc
  · exact e26 hR hn hc


set_option maxRecDepth 100000 in
theorem e28 {r : List RvT} {A : Option Addr} {c : Nat} {w : World} (hR : K.Rd w A 4 eR r) (hn : r.length ≤ 4611686018427387904) (hc : (chk r).2.2 ≠ 0) :
    Calls Tryz.prog 33 [.slice A r.length c].toArray w (Ret2 (mustL r) (mayL r) (chk r).2.2 w) := by
  refine K.enter (args := [.slice A r.length c]) Tryz.func33 rfl (n := 39) rfl ?_
  simp only [List.replicate, List.cons_append, List.nil_append]
  refine sr ?_
  iterate 3 refine qa ?_
  refine sn ?_
  refine sr ?_
  refine qm ?_
  refine K.seq_call (K.call_g cal_36 (fun F w hF hw => e52 (hR.pass hw) hn hc)) rfl ?_
  refine zN ?_
  refine qm ?_
  refine qx ?_
  refine qx ?_
  iterate 2 refine qa ?_
  refine sn ?_
  refine K.seq ?_
  refine sr ?_
  refine qm ?_
  refine qp (K.neq rfl rfl) ?_
  refine sn ?_
  refine K.cond_true (by exact congrArg Value.bool (decide_eq_true hc)) ?_
  refine sr ?_
  refine qm ?_
  iterate 3 refine qa ?_
  refine sn ?_
  refine K.ret ?_
  refine K.ret_then ?_
  refine K.end_ret (fun w _ => K.res_ttt rfl w) ?_
  exact ret2_0 (by unfold mustL; rw [if_pos hc]) (by unfold mayL; rw [if_pos hc]) rfl rfl

set_option maxRecDepth 100000 in
theorem g28 {r : List RvT} {A : Option Addr} {c : Nat} {w : World} (hR : K.Rd w A 4 eR r) (hn : r.length ≤ 4611686018427387904) (hT : Tab w) (hc : (chk r).2.2 = 0) :
    Calls Tryz.prog 33 [.slice A r.length c].toArray w (Ret2 (mustL r) (mayL r) (chk r).2.2 w) := by
  have g : Good r := chk_good hc
  have hgn := g.n
  have hpw := pow_bd hgn.2
  have hcl := corL_len g
  refine K.enter (args := [.slice A r.length c]) Tryz.func33 rfl (n := 39) rfl ?_
  simp only [List.replicate, List.cons_append, List.nil_append]
  refine sr ?_
  iterate 3 refine qa ?_
  refine sn ?_
  refine sr ?_
  refine qm ?_
  refine K.seq_loud (K.call_f cal_36 (fun F w hF hw => g52 (hR.pass hw) hn hc)) rfl ?_
  rintro q _
  refine zN ?_
  refine qm ?_
  refine qx ?_
  refine qx ?_
  iterate 2 refine qa ?_
  refine sn ?_
  refine K.seq ?_
  refine sr ?_
  refine qm ?_
  refine qp (K.neq rfl rfl) ?_
  refine sn ?_
  refine K.cond_false (by rfl) ?_
  refine K.skip ?_
  refine K.norm_then ?_
  refine sr ?_
  refine qm ?_
  refine qp (K.len_sl sl_22 rfl) ?_
  refine qp (K.Pure.eq (K.shl_int rfl rfl (by omega)) (show _ = Value.int .i64 ((2 ^ r.length : Nat) : Int) from by rw [shl_val hgn.2])) ?_
  refine qp (K.Pure.eq (K.sub_i64 rfl rfl (by omega)) (show _ = Value.int .i64 ((allF r.length (corL r) 0 : Nat) : Int) from by unfold allF; rw [Int.natCast_sub hpw.1]; rfl)) ?_
  iterate 2 refine qa ?_
  refine sn ?_
  refine K.seq ?_
  refine sr ?_
  refine qm ?_
  refine K.seq_loud (K.call_f cal_67 (fun F w hF hw => c62 (K.PtrL.now hw (hF _ (K.m0))) (K.blk_lt hw (hF _ (K.m0))) (hR.pass hw) g)) rfl ?_
  rintro ⟨Q1, q1⟩ hq1
  refine zN ?_
  refine qp (K.len_sl sl_28 rfl) ?_
  refine qm ?_
  refine sn ?_
  refine K.block ?_
  refine K.loopW [6, 7, 25] [9, 26, 27, 28, 29, 30, 31, 32, 33, 34, 35] (fun vi L => ∃ k : Nat, vi = [.int .i64 ((allF r.length (corL r) k : Nat) : Int), .int .i64 ((somF (corL r) k : Nat) : Int), .int .i64 (k : Int)] ∧ L = [K.row (.slice Q1 (corL r).length q1) 3 1 (corL r).length ((corL r).flatMap K.eI), K.blk q 82 (.slice A r.length c :: dcell (drT r))] ∧ k ≤ (corL r).length) (fun vi => (corL r).length - (intOf (K.nth vi 2)).toNat) ?_ ?_
  · exact ⟨0, rfl, rfl, Nat.zero_le _⟩
  intro vi vr L hJ
  obtain ⟨k, rfl, rfl, hkn⟩ := hJ
  try dsimp only [setd, setn, ev, nth, over, cl, eI, eP, eT, eR, setM, setF, List.map, List.append, List.drop, List.take]
  refine sr ?_
  refine qp (K.lss rfl rfl) ?_
  refine sn ?_
  refine K.seq ?_
  refine K.cond rfl (fun ht26 => ?_) (fun ht26 => ?_)
  · try replace ht26 := of_decide_eq_true ht26
    have hk : k < (corL r).length := by omega
    have hck := corL_at g hk
    have hab := all_bd (l := (corL r)) hgn.2 k
    have hsb := som_bd (l := (corL r)) (fun x hx => corL_mem g hx) k hkn
    refine K.skip ?_
    refine K.norm_then ?_
    refine K.seq ?_
    refine K.block ?_
    refine sr ?_
    refine K.seq_ix (M := [K.row (.slice Q1 (corL r).length q1) 3 1 (corL r).length ((corL r).flatMap K.eI)]) _ (K.Sl.own (w0 := w) (t := 3) (c := q1) (e := K.eI) hq1 (fun _ => rfl)) sl_28 rfl rfl rfl (by omega) rfl ?_
    intro p27 hp27
    refine zN ?_
    refine K.seq_sil (K.load1 one_3 rfl (hp27.at1 K.m0)) rfl ?_
    refine zN ?_
    refine qa ?_
    refine sn ?_
    refine sr ?_
    iterate 2 refine qm ?_
    refine qp (K.Pure.eq (K.and_int rfl rfl) (show _ = Value.int .i64 ((allF r.length (corL r) (k + 1) : Nat) : Int) from by rw [allF, ← and_nat (by omega) (by omega), Int.toNat_of_nonneg hck.1])) ?_
    refine qa ?_
    refine sn ?_
    refine K.region_lit ?_
    iterate 2 refine qm ?_
    refine qp (K.Pure.eq (K.or_int rfl rfl) (show _ = Value.int .i64 ((somF (corL r) (k + 1) : Nat) : Int) from by rw [somF, ← or_nat (by omega) (by omega), Int.toNat_of_nonneg hck.1])) ?_
    refine qa ?_
    refine K.seq_nil ?_
    refine K.norm_block ?_
    refine K.norm_then ?_
    refine K.region_lit ?_
    refine qp (K.add_i64 rfl rfl (by omega)) ?_
    refine qm ?_
    refine K.seq_nil ?_
    exact K.round_endW (L'' := [K.row (.slice Q1 (corL r).length q1) 3 1 (corL r).length ((corL r).flatMap K.eI), K.blk q 82 (.slice A r.length c :: dcell (drT r))]) [.int .i64 ((allF r.length (corL r) (k + 1) : Nat) : Int), .int .i64 ((somF (corL r) (k + 1) : Nat) : Int), .int .i64 ((k : Int) + 1)] ⟨k + 1, rfl, rfl, by omega⟩ (by simp [K.nth, intOf]; omega) (List.Sublist.refl _) (by kernel_rfl)
  try replace ht26 := of_decide_eq_false ht26
  refine K.exit ?_
  refine K.exit_then ?_
  refine K.exit_then ?_
  refine K.exit_here ?_
  refine K.norm_then ?_
  refine K.seq ?_
  have e0 : k = (corL r).length := by omega
  subst e0
  refine K.region_lit ?_
  refine qm ?_
  refine K.seq_loud (K.call_f cal_65 (fun F w hF hw => c60 (hT.pass hw) (by have := all_bd (l := (corL r)) hgn.2 (corL r).length; omega))) rfl ?_
  rintro ⟨Q2, q2⟩ hq2
  refine zN ?_
  refine qm ?_
  refine K.seq_loud (K.call_f cal_65 (fun F w hF hw => c60 (hT.pass hw) (by have := som_bd (l := (corL r)) (fun x hx => corL_mem g hx) _ (Nat.le_refl _); omega))) rfl ?_
  rintro ⟨Q3, q3⟩ hq3
  refine zN ?_
  iterate 3 refine qa ?_
  refine sn ?_
  refine K.ret ?_
  refine K.end_ret (fun w _ => K.res_ttt rfl w) ?_
  have hl1 : mustL r = bitsL ((allF r.length (corL r) (corL r).length : Nat) : Int) := by unfold mustL; rw [if_neg (by omega)]
  have hl2 : mayL r = bitsL ((somF (corL r) (corL r).length : Nat) : Int) := by unfold mayL; rw [if_neg (by omega)]
  rw [hl1, hl2, hc]
  exact ret2 hq2 hq3 (List.Sublist.cons_cons _ (List.Sublist.cons_cons _ (List.nil_sublist _))) rfl

theorem c28 {r : List RvT} {A : Option Addr} {c : Nat} {w : World} (hR : K.Rd w A 4 eR r) (hn : r.length ≤ 4611686018427387904) (hT : Tab w) : Calls Tryz.prog 33 [.slice A r.length c].toArray w (Ret2 (mustL r) (mayL r) (chk r).2.2 w) := by
  by_cases hc : (chk r).2.2 = 0
  · exact g28 hR hn hT hc
  · exact e28 hR hn hc


end Go.Proofs.YtekkpcpbnonkaaaGreatDoor.Rv
end
section
set_option linter.unusedSimpArgs false
set_option linter.unusedVariables false
namespace Go.Proofs.YtekkpcpbnonkaaaGreatDoor.Rv
open Go.RowKit Go
open Go.K (setd setn ev nth over cl eI eP eT setM setF)
attribute [local irreducible] K.blk K.row
theorem eI_at0 {xs : List Int} {k : Nat} (h : k < xs.length) : (xs.flatMap K.eI)[0 + k * 1]? = some (.int .i64 (xs.getD k default)) := by
  have := eI_at h
  rwa [List.drop_zero] at this
theorem eI_snoc {xs : List Int} {x : Int} : xs.flatMap K.eI ++ [.int .i64 x] = (xs ++ [x]).flatMap K.eI := by rw [List.flatMap_append]; rfl

def Go66 (r : List RvT) (A : Option Addr) (c q p1 p2 p3 p4 p5 p6 p7 f : Nat) (w0 : World) : Prop :=
  ∀ {m i : Nat} {cs l best : List Int} {fw : Int} {cv lv : List Value} {Q1 Q4 Q5 : Option Addr} {c1 c4 c5 : Nat} {T : List K.Chunk} {w : World}, K.St w0 (K.blk p1 28 [.slice Q1 m c1] :: K.row (.slice Q1 m c1) 3 1 m cv :: K.blk p2 3 [.int .i64 fw] :: K.blk p4 28 [.slice Q4 i c4] :: K.row (.slice Q4 i c4) 3 1 i lv :: K.blk p5 28 [.slice Q5 best.length c5] :: K.row (.slice Q5 best.length c5) 3 1 best.length (best.flatMap K.eI) :: K.blk p3 22 [.slice A r.length c] :: K.blk p6 72 [.pointer (some ⟨q, 0, none⟩)] :: K.blk p7 131 [.func (.func 69) #[] #[.pointer (some ⟨p1, 0, none⟩), .pointer (some ⟨p2, 0, none⟩), .pointer (some ⟨p3, 0, none⟩), .pointer (some ⟨p4, 0, none⟩), .pointer (some ⟨p5, 0, none⟩), .pointer (some ⟨p6, 0, none⟩), .pointer (some ⟨p7, 0, none⟩)]] :: K.blk q 82 (.slice A r.length c :: dcell (drT r)) :: T) w → m = cs.length → cv = cs.flatMap K.eI → i = l.length → lv = l.flatMap K.eI → CsOk cs i → f + i = r.length → Calls Tryz.prog 69 [.int .i64 (i : Int), .pointer (some ⟨p1, 0, none⟩), .pointer (some ⟨p2, 0, none⟩), .pointer (some ⟨p3, 0, none⟩), .pointer (some ⟨p4, 0, none⟩), .pointer (some ⟨p5, 0, none⟩), .pointer (some ⟨p6, 0, none⟩), .pointer (some ⟨p7, 0, none⟩)].toArray w (K.RetU (fun _ : (Option Addr × Nat) × (Option Addr × Nat) × (Option Addr × Nat) => True) (fun _ => .tuple #[]) w0 (fun z => K.blk p1 28 [.slice z.1.1 m z.1.2] :: K.row (.slice z.1.1 m z.1.2) 3 1 m cv :: K.blk p2 3 [.int .i64 (fillP r f cs l (best, fw)).2] :: K.blk p4 28 [.slice z.2.1.1 i z.2.1.2] :: K.row (.slice z.2.1.1 i z.2.1.2) 3 1 i lv :: K.blk p5 28 [.slice z.2.2.1 (fillP r f cs l (best, fw)).1.length z.2.2.2] :: K.row (.slice z.2.2.1 (fillP r f cs l (best, fw)).1.length z.2.2.2) 3 1 (fillP r f cs l (best, fw)).1.length ((fillP r f cs l (best, fw)).1.flatMap K.eI) :: K.blk p3 22 [.slice A r.length c] :: K.blk p6 72 [.pointer (some ⟨q, 0, none⟩)] :: K.blk p7 131 [.func (.func 69) #[] #[.pointer (some ⟨p1, 0, none⟩), .pointer (some ⟨p2, 0, none⟩), .pointer (some ⟨p3, 0, none⟩), .pointer (some ⟨p4, 0, none⟩), .pointer (some ⟨p5, 0, none⟩), .pointer (some ⟨p6, 0, none⟩), .pointer (some ⟨p7, 0, none⟩)]] :: K.blk q 82 (.slice A r.length c :: dcell (drT r)) :: T))


set_option maxRecDepth 100000 in
theorem c70 {r : List RvT} {A : Option Addr} {c b i k p6 b8 : Nat} {w : World} (h6 : K.PtrL w [] ⟨p6, 0, none⟩ [.pointer (some ⟨b, 0, none⟩)]) (h8 : K.PtrL w [] ⟨b8, 0, none⟩ [.int .i64 (i : Int)]) (hX : K.PtrL w [] ⟨b, 0, none⟩ (.slice A r.length c :: dcell (drT r))) (hXb : b < w.heap.size) (hR : K.Rd w A 4 eR r) (g : Good r) (hi : i < r.length) (hk : k < r.length) :
    Calls Tryz.prog 72 [.int .i64 (k : Int), .pointer (some ⟨p6, 0, none⟩), .pointer (some ⟨b8, 0, none⟩)].toArray w (K.Gives (.bool (!conS r i k)) w) := by
  refine K.enter (args := [.int .i64 (k : Int), .pointer (some ⟨p6, 0, none⟩), .pointer (some ⟨b8, 0, none⟩)]) Tryz.func72 rfl (n := 7) rfl ?_
  simp only [List.replicate, List.cons_append, List.nil_append]
  refine sr ?_
  refine qa ?_
  refine sn ?_
  refine sr ?_
  refine K.seq_sil (K.load1 one_72 rfl (h6.any)) rfl ?_
  refine zN ?_
  refine K.seq_sil (K.load1 one_3 rfl (h8.any)) rfl ?_
  refine zN ?_
  refine qm ?_
  refine K.seq_call (K.call_g cal_73 (fun F w hF hw => c71 (hX.into hXb hw) (K.lt_into hXb hw) (hR.pass hw) g hi hk)) rfl ?_
  refine zN ?_
  first | refine K.seq_pure (K.not_d rfl) rfl ?_ | refine K.seq_pure (K.not_ rfl) rfl ?_
  refine zN ?_
  refine qa ?_
  refine sn ?_
  refine K.ret ?_
  refine K.end_ret (fun w _ => K.res_tmp rfl w) ?_
  exact K.gives_b rfl rfl

set_option maxRecDepth 100000 in
theorem c66_0 {r : List RvT} {A : Option Addr} {c q : Nat} {p1 p2 p3 p4 p5 p6 p7 : Nat} {w0 : World} (hR : K.Rd w0 A 4 eR r) (hT : Tab w0) (g : Good r) {m i : Nat} {cs l best : List Int} {fw : Int} {cv lv : List Value} {Q1 Q4 Q5 : Option Addr} {c1 c4 c5 : Nat} {T : List K.Chunk} {w : World} (hst : K.St w0 (K.blk p1 28 [.slice Q1 m c1] :: K.row (.slice Q1 m c1) 3 1 m cv :: K.blk p2 3 [.int .i64 fw] :: K.blk p4 28 [.slice Q4 i c4] :: K.row (.slice Q4 i c4) 3 1 i lv :: K.blk p5 28 [.slice Q5 best.length c5] :: K.row (.slice Q5 best.length c5) 3 1 best.length (best.flatMap K.eI) :: K.blk p3 22 [.slice A r.length c] :: K.blk p6 72 [.pointer (some ⟨q, 0, none⟩)] :: K.blk p7 131 [.func (.func 69) #[] #[.pointer (some ⟨p1, 0, none⟩), .pointer (some ⟨p2, 0, none⟩), .pointer (some ⟨p3, 0, none⟩), .pointer (some ⟨p4, 0, none⟩), .pointer (some ⟨p5, 0, none⟩), .pointer (some ⟨p6, 0, none⟩), .pointer (some ⟨p7, 0, none⟩)]] :: K.blk q 82 (.slice A r.length c :: dcell (drT r)) :: T) w) (hm : m = cs.length) (hcv : cv = cs.flatMap K.eI) (hi : i = l.length) (hlv : lv = l.flatMap K.eI) (hcs : CsOk cs i) (hf : 0 + i = r.length) :
    Calls Tryz.prog 69 [.int .i64 (i : Int), .pointer (some ⟨p1, 0, none⟩), .pointer (some ⟨p2, 0, none⟩), .pointer (some ⟨p3, 0, none⟩), .pointer (some ⟨p4, 0, none⟩), .pointer (some ⟨p5, 0, none⟩), .pointer (some ⟨p6, 0, none⟩), .pointer (some ⟨p7, 0, none⟩)].toArray w (K.RetU (fun _ : (Option Addr × Nat) × (Option Addr × Nat) × (Option Addr × Nat) => True) (fun _ => .tuple #[]) w0 (fun z => K.blk p1 28 [.slice z.1.1 m z.1.2] :: K.row (.slice z.1.1 m z.1.2) 3 1 m cv :: K.blk p2 3 [.int .i64 (fillP r 0 cs l (best, fw)).2] :: K.blk p4 28 [.slice z.2.1.1 i z.2.1.2] :: K.row (.slice z.2.1.1 i z.2.1.2) 3 1 i lv :: K.blk p5 28 [.slice z.2.2.1 (fillP r 0 cs l (best, fw)).1.length z.2.2.2] :: K.row (.slice z.2.2.1 (fillP r 0 cs l (best, fw)).1.length z.2.2.2) 3 1 (fillP r 0 cs l (best, fw)).1.length ((fillP r 0 cs l (best, fw)).1.flatMap K.eI) :: K.blk p3 22 [.slice A r.length c] :: K.blk p6 72 [.pointer (some ⟨q, 0, none⟩)] :: K.blk p7 131 [.func (.func 69) #[] #[.pointer (some ⟨p1, 0, none⟩), .pointer (some ⟨p2, 0, none⟩), .pointer (some ⟨p3, 0, none⟩), .pointer (some ⟨p4, 0, none⟩), .pointer (some ⟨p5, 0, none⟩), .pointer (some ⟨p6, 0, none⟩), .pointer (some ⟨p7, 0, none⟩)]] :: K.blk q 82 (.slice A r.length c :: dcell (drT r)) :: T)) := by
  subst hm hcv hi hlv
  have hgn := g.n
  have hcl := hcs.l
  refine K.enterU (args := [.int .i64 (l.length : Int), .pointer (some ⟨p1, 0, none⟩), .pointer (some ⟨p2, 0, none⟩), .pointer (some ⟨p3, 0, none⟩), .pointer (some ⟨p4, 0, none⟩), .pointer (some ⟨p5, 0, none⟩), .pointer (some ⟨p6, 0, none⟩), .pointer (some ⟨p7, 0, none⟩)]) Tryz.func69 rfl (n := 87) rfl hst ?_
  simp only [List.replicate, List.cons_append, List.nil_append]
  refine sr ?_
  refine K.seq_new (K.box) rfl ?_
  intro b8
  refine zN ?_
  refine sn ?_
  refine K.seq ?_
  refine K.block ?_
  refine sr ?_
  refine K.permH (L' := _ :: _ :: _ :: _ :: _ :: _ :: _ :: _ :: _ :: _ :: _ :: _ :: _) (List.Perm.trans (List.perm_middle (l₁ := [_])) (List.Perm.cons _ (List.Perm.trans (List.perm_middle (l₁ := [_])) (List.Perm.cons _ (List.Perm.trans (List.perm_middle (l₁ := [_])) (List.Perm.cons _ (List.Perm.trans (List.perm_middle (l₁ := [_])) (List.Perm.cons _ (List.Perm.trans (List.perm_middle (l₁ := [_])) (List.Perm.cons _ (List.Perm.trans (List.perm_middle (l₁ := [_])) (List.Perm.cons _ (List.Perm.trans (List.perm_middle (l₁ := [_])) (List.Perm.cons _ (List.Perm.trans (List.perm_middle (l₁ := [_])) (List.Perm.cons _ (List.Perm.trans (List.perm_middle (l₁ := [_])) (List.Perm.cons _ (List.Perm.trans (List.perm_middle (l₁ := [_])) (List.Perm.cons _ (List.Perm.trans (List.perm_middle (l₁ := [_])) (List.Perm.cons _ (List.Perm.refl _))))))))))))))))))))))) ?_
  refine K.seq_sil (K.load1_own one_28 rfl (K.m0) rfl) rfl ?_
  refine zN ?_
  refine qp (K.len_sl sl_28 rfl) ?_
  refine K.seq_sil (K.load1_own one_3 rfl (K.m2) rfl) rfl ?_
  refine zN ?_
  refine qp (K.geq rfl rfl) ?_
  refine qa ?_
  refine sn ?_
  refine K.cond rfl (fun ht10 => ?_) (fun ht10 => ?_)
  · try replace ht10 := of_decide_eq_true ht10
    refine K.ret ?_
    refine K.ret_block ?_
    refine K.ret_then ?_
    refine K.end_ret (fun w _ => K.res_none rfl w) ?_
    have hfp : (fillP r 0 cs l (best, fw)) = (best, fw) := fillP_cut (by simp only; omega) _
    exact K.retsU ((Q1, c1), (Q4, c4), (Q5, c5)) trivial rfl (by rw [hfp]; exact (List.Sublist.cons_cons _ (List.Sublist.cons_cons _ (List.Sublist.cons_cons _ (List.Sublist.cons_cons _ (List.Sublist.cons_cons _ (List.Sublist.cons_cons _ (List.Sublist.cons_cons _ (List.Sublist.cons_cons _ (List.Sublist.cons_cons _ (List.Sublist.cons_cons _ (List.Sublist.cons_cons _ (List.Sublist.cons _ (List.Sublist.refl _))))))))))))))
  try replace ht10 := of_decide_eq_false ht10
  refine K.seq ?_
  refine K.use_row (A := Q4) K.m4 (fun hq4 => ?_)
  refine K.region_lit ?_
  refine K.permH (L' := _ :: _ :: _ :: _ :: _ :: _ :: _ :: _ :: _ :: _ :: _ :: _ :: _) (List.Perm.trans (List.perm_middle (l₁ := [_, _, _, _, _])) (List.Perm.cons _ (List.Perm.trans (List.perm_middle (l₁ := [_, _])) (List.Perm.cons _ (List.Perm.refl _))))) ?_
  refine K.seq_sil (K.load1_own one_3 rfl (K.m11) rfl) rfl ?_
  refine zN ?_
  refine K.seq_sil (K.load1_own one_22 rfl (K.m7) rfl) rfl ?_
  refine zN ?_
  refine qp (K.len_sl sl_22 rfl) ?_
  refine qp (K.eql rfl rfl) ?_
  refine qa ?_
  refine sn ?_
  refine K.cond_true (by exact congrArg Value.bool (decide_eq_true (by omega))) ?_
  refine K.seq ?_
  refine K.draw_drop 2 [] Tryz_mixed ?_
  refine K.d_mem 0 rfl (K.load1_own one_28 rfl (K.m2) rfl) (fun _ h => K.tl (K.tl h)) (by kernel_rfl) (by kernel_rfl) rfl ?_
  refine zN ?_
  refine K.d_mem 2 rfl (K.load1_own one_28 rfl (K.m0) rfl) (fun _ h => K.tl (K.tl h)) (by kernel_rfl) (by kernel_rfl) rfl ?_
  refine zN ?_
  refine K.d_pure 3 rfl (K.len_sl sl_28 rfl) (by kernel_rfl) rfl ?_
  refine zn ?_
  refine K.d_loud 1 rfl (K.call_f cal_46 (fun F w hF hw => (by have hh := (K.Rd.own (e := K.eI) (xs := l) hw (hF _ (K.m5)) hq4 (fun _ => rfl) (by decide)); exact c67 hh (by omega)))) (fun _ h => K.tl (K.tl h)) (by kernel_rfl) rfl ?_
  rintro ⟨Q6, q6⟩ hq6
  refine zN ?_
  refine K.d_upd 4 rfl (K.store sz_28 rfl rfl rfl rfl (K.rp1)) (fun _ => fun _ h => K.tl (K.tl (K.tl h))) (by kernel_rfl) rfl ?_
  intro _ _
  refine zN ?_
  refine K.d_upd 5 rfl (K.store sz_3 rfl rfl rfl rfl (K.rp2)) (fun _ => fun _ h => K.tl (K.tl (K.tl h))) (by kernel_rfl) rfl ?_
  intro _ _
  refine zN ?_
  refine K.d_done (by kernel_rfl) ?_
  refine K.norm_then ?_
  refine K.ret ?_
  refine K.ret_block ?_
  refine K.ret_then ?_
  refine K.end_ret (fun w _ => K.res_none rfl w) ?_
  have hfp : (fillP r 0 cs l (best, fw)) = (l, (cs.length : Int)) := fillP_end (by simp only; omega)
  refine K.weak (L' := _ :: _ :: _ :: _ :: _ :: _ :: _ :: _ :: _ :: _ :: _ :: _) ((List.Sublist.cons_cons _ (List.Sublist.cons_cons _ (List.Sublist.cons_cons _ (List.Sublist.cons_cons _ (List.Sublist.cons_cons _ (List.Sublist.cons_cons _ (List.Sublist.cons_cons _ (List.Sublist.cons _ (List.Sublist.cons_cons _ (List.Sublist.cons_cons _ (List.Sublist.cons_cons _ (List.Sublist.cons_cons _ (List.Sublist.cons _ (List.Sublist.refl _))))))))))))))) ?_
  refine K.permH (L' := K.blk p1 28 [.slice Q1 cs.length c1] :: K.row (.slice Q1 cs.length c1) 3 1 cs.length (cs.flatMap K.eI) :: K.blk p2 3 [.int .i64 (cs.length : Int)] :: K.blk p4 28 [.slice Q4 l.length c4] :: K.row (.slice Q4 l.length c4) 3 1 l.length (l.flatMap K.eI) :: K.blk p5 28 [.slice Q6 l.length q6] :: K.row (.slice Q6 l.length q6) 3 1 l.length (l.flatMap K.eI) :: K.blk p3 22 [.slice A r.length c] :: K.blk p6 72 [.pointer (some ⟨q, 0, none⟩)] :: K.blk p7 131 [.func (.func 69) #[] #[.pointer (some ⟨p1, 0, none⟩), .pointer (some ⟨p2, 0, none⟩), .pointer (some ⟨p3, 0, none⟩), .pointer (some ⟨p4, 0, none⟩), .pointer (some ⟨p5, 0, none⟩), .pointer (some ⟨p6, 0, none⟩), .pointer (some ⟨p7, 0, none⟩)]] :: K.blk q 82 (.slice A r.length c :: dcell (drT r)) :: T) (List.Perm.trans (List.perm_middle (l₁ := [_, _, _])) (List.Perm.cons _ (List.Perm.trans (List.perm_middle (l₁ := [_, _, _])) (List.Perm.cons _ (List.Perm.trans (List.perm_middle (l₁ := [_, _])) (List.Perm.cons _ (List.Perm.trans (List.perm_middle (l₁ := [_, _])) (List.Perm.cons _ (List.Perm.trans (List.perm_middle (l₁ := [_, _])) (List.Perm.cons _ (List.Perm.trans (List.perm_middle (l₁ := [_])) (List.Perm.cons _ (List.Perm.refl _))))))))))))) ?_
  exact K.retsU ((Q1, c1), (Q4, c4), (Q6, q6)) trivial rfl (by rw [hfp]; exact List.Sublist.refl _)

set_option maxRecDepth 100000 in
set_option maxHeartbeats 4000000 in
theorem c66_s {r : List RvT} {A : Option Addr} {c q : Nat} {p1 p2 p3 p4 p5 p6 p7 : Nat} {w0 : World} (hR : K.Rd w0 A 4 eR r) (hT : Tab w0) (g : Good r) {f : Nat} (IH : Go66 r A c q p1 p2 p3 p4 p5 p6 p7 f w0) {m i : Nat} {cs l best : List Int} {fw : Int} {cv lv : List Value} {Q1 Q4 Q5 : Option Addr} {c1 c4 c5 : Nat} {T : List K.Chunk} {w : World} (hst : K.St w0 (K.blk p1 28 [.slice Q1 m c1] :: K.row (.slice Q1 m c1) 3 1 m cv :: K.blk p2 3 [.int .i64 fw] :: K.blk p4 28 [.slice Q4 i c4] :: K.row (.slice Q4 i c4) 3 1 i lv :: K.blk p5 28 [.slice Q5 best.length c5] :: K.row (.slice Q5 best.length c5) 3 1 best.length (best.flatMap K.eI) :: K.blk p3 22 [.slice A r.length c] :: K.blk p6 72 [.pointer (some ⟨q, 0, none⟩)] :: K.blk p7 131 [.func (.func 69) #[] #[.pointer (some ⟨p1, 0, none⟩), .pointer (some ⟨p2, 0, none⟩), .pointer (some ⟨p3, 0, none⟩), .pointer (some ⟨p4, 0, none⟩), .pointer (some ⟨p5, 0, none⟩), .pointer (some ⟨p6, 0, none⟩), .pointer (some ⟨p7, 0, none⟩)]] :: K.blk q 82 (.slice A r.length c :: dcell (drT r)) :: T) w) (hm : m = cs.length) (hcv : cv = cs.flatMap K.eI) (hi : i = l.length) (hlv : lv = l.flatMap K.eI) (hcs : CsOk cs i) (hf : f + 1 + i = r.length) :
    Calls Tryz.prog 69 [.int .i64 (i : Int), .pointer (some ⟨p1, 0, none⟩), .pointer (some ⟨p2, 0, none⟩), .pointer (some ⟨p3, 0, none⟩), .pointer (some ⟨p4, 0, none⟩), .pointer (some ⟨p5, 0, none⟩), .pointer (some ⟨p6, 0, none⟩), .pointer (some ⟨p7, 0, none⟩)].toArray w (K.RetU (fun _ : (Option Addr × Nat) × (Option Addr × Nat) × (Option Addr × Nat) => True) (fun _ => .tuple #[]) w0 (fun z => K.blk p1 28 [.slice z.1.1 m z.1.2] :: K.row (.slice z.1.1 m z.1.2) 3 1 m cv :: K.blk p2 3 [.int .i64 (fillP r (f + 1) cs l (best, fw)).2] :: K.blk p4 28 [.slice z.2.1.1 i z.2.1.2] :: K.row (.slice z.2.1.1 i z.2.1.2) 3 1 i lv :: K.blk p5 28 [.slice z.2.2.1 (fillP r (f + 1) cs l (best, fw)).1.length z.2.2.2] :: K.row (.slice z.2.2.1 (fillP r (f + 1) cs l (best, fw)).1.length z.2.2.2) 3 1 (fillP r (f + 1) cs l (best, fw)).1.length ((fillP r (f + 1) cs l (best, fw)).1.flatMap K.eI) :: K.blk p3 22 [.slice A r.length c] :: K.blk p6 72 [.pointer (some ⟨q, 0, none⟩)] :: K.blk p7 131 [.func (.func 69) #[] #[.pointer (some ⟨p1, 0, none⟩), .pointer (some ⟨p2, 0, none⟩), .pointer (some ⟨p3, 0, none⟩), .pointer (some ⟨p4, 0, none⟩), .pointer (some ⟨p5, 0, none⟩), .pointer (some ⟨p6, 0, none⟩), .pointer (some ⟨p7, 0, none⟩)]] :: K.blk q 82 (.slice A r.length c :: dcell (drT r)) :: T)) := by
  subst hm hcv hi hlv
  have hgn := g.n
  have hcl := hcs.l
  refine K.enterU (args := [.int .i64 (l.length : Int), .pointer (some ⟨p1, 0, none⟩), .pointer (some ⟨p2, 0, none⟩), .pointer (some ⟨p3, 0, none⟩), .pointer (some ⟨p4, 0, none⟩), .pointer (some ⟨p5, 0, none⟩), .pointer (some ⟨p6, 0, none⟩), .pointer (some ⟨p7, 0, none⟩)]) Tryz.func69 rfl (n := 87) rfl hst ?_
  simp only [List.replicate, List.cons_append, List.nil_append]
  refine sr ?_
  refine K.seq_new (K.box) rfl ?_
  intro b8
  refine zN ?_
  refine sn ?_
  refine K.seq ?_
  refine K.block ?_
  refine sr ?_
  refine K.permH (L' := _ :: _ :: _ :: _ :: _ :: _ :: _ :: _ :: _ :: _ :: _ :: _ :: _) (List.Perm.trans (List.perm_middle (l₁ := [_])) (List.Perm.cons _ (List.Perm.trans (List.perm_middle (l₁ := [_])) (List.Perm.cons _ (List.Perm.trans (List.perm_middle (l₁ := [_])) (List.Perm.cons _ (List.Perm.trans (List.perm_middle (l₁ := [_])) (List.Perm.cons _ (List.Perm.trans (List.perm_middle (l₁ := [_])) (List.Perm.cons _ (List.Perm.trans (List.perm_middle (l₁ := [_])) (List.Perm.cons _ (List.Perm.trans (List.perm_middle (l₁ := [_])) (List.Perm.cons _ (List.Perm.trans (List.perm_middle (l₁ := [_])) (List.Perm.cons _ (List.Perm.trans (List.perm_middle (l₁ := [_])) (List.Perm.cons _ (List.Perm.trans (List.perm_middle (l₁ := [_])) (List.Perm.cons _ (List.Perm.trans (List.perm_middle (l₁ := [_])) (List.Perm.cons _ (List.Perm.refl _))))))))))))))))))))))) ?_
  refine K.seq_sil (K.load1_own one_28 rfl (K.m0) rfl) rfl ?_
  refine zN ?_
  refine qp (K.len_sl sl_28 rfl) ?_
  refine K.seq_sil (K.load1_own one_3 rfl (K.m2) rfl) rfl ?_
  refine zN ?_
  refine qp (K.geq rfl rfl) ?_
  refine qa ?_
  refine sn ?_
  refine K.cond rfl (fun ht10 => ?_) (fun ht10 => ?_)
  · try replace ht10 := of_decide_eq_true ht10
    refine K.ret ?_
    refine K.ret_block ?_
    refine K.ret_then ?_
    refine K.end_ret (fun w _ => K.res_none rfl w) ?_
    have hfp : (fillP r (f + 1) cs l (best, fw)) = (best, fw) := fillP_cut (by simp only; omega) _
    exact K.retsU ((Q1, c1), (Q4, c4), (Q5, c5)) trivial rfl (by rw [hfp]; exact (List.Sublist.cons_cons _ (List.Sublist.cons_cons _ (List.Sublist.cons_cons _ (List.Sublist.cons_cons _ (List.Sublist.cons_cons _ (List.Sublist.cons_cons _ (List.Sublist.cons_cons _ (List.Sublist.cons_cons _ (List.Sublist.cons_cons _ (List.Sublist.cons_cons _ (List.Sublist.cons_cons _ (List.Sublist.cons _ (List.Sublist.refl _))))))))))))))
  try replace ht10 := of_decide_eq_false ht10
  refine sr ?_
  refine K.seq_sil (K.load1_own one_3 rfl (K.m11) rfl) rfl ?_
  refine zN ?_
  refine K.seq_sil (K.load1_own one_22 rfl (K.m7) rfl) rfl ?_
  refine zN ?_
  refine qp (K.len_sl sl_22 rfl) ?_
  refine qp (K.eql rfl rfl) ?_
  refine qa ?_
  refine sn ?_
  refine K.cond_false (by exact congrArg Value.bool (decide_eq_false (by omega))) ?_
  refine sr ?_
  refine K.seq_sil (K.load1_own one_72 rfl (K.m8) rfl) rfl ?_
  refine zN ?_
  refine K.seq_sil (K.load1_own one_3 rfl (K.m11) rfl) rfl ?_
  refine zN ?_
  refine K.seq_call (K.call_g cal_70 (fun F w hF hw => c68 (K.PtrL.now hw (hF _ (K.m10))) (K.blk_lt hw (hF _ (K.m10))) (hR.pass hw) g (by omega))) rfl ?_
  refine zN ?_
  refine qa ?_
  refine sn ?_
  refine K.cond rfl (fun ht24 => ?_) (fun ht24 => ?_)
  · try replace ht24 := of_decide_eq_true ht24
    refine sr ?_
    refine K.seq_sil (K.load1_own one_28 rfl (K.m3) rfl) rfl ?_
    refine zN ?_
    refine K.seq_new (K.buildSlice (bs1 _)) rfl ?_
    intro b29
    refine zN ?_
    refine K.seq_upd (K.append el_28 rfl rfl (K.PtrL.own' (K.m0)) rfl rfl (by decide) (by omega) (by omega) (fun _ _ => K.rp5)) rfl ?_
    rintro ⟨g30, c30⟩ _
    refine zN ?_
    refine K.seq_st (K.store sz_28 rfl rfl rfl rfl (K.rp4)) rfl ?_
    refine zN ?_
    refine sn ?_
    refine K.seq ?_
    refine K.weak (List.Sublist.cons _ (List.Sublist.cons_cons _ (List.Sublist.cons_cons _ (List.Sublist.cons_cons _ (List.Sublist.cons_cons _ (List.Sublist.cons_cons _ (List.Sublist.cons_cons _ (List.Sublist.cons_cons _ (List.Sublist.cons_cons _ (List.Sublist.cons_cons _ (List.Sublist.cons_cons _ (List.Sublist.cons_cons _ (List.Sublist.cons_cons _ (List.Sublist.refl _)))))))))))))) ?_
    refine K.region_lit ?_
    refine K.seq_sil (K.load1_own one_131 rfl (K.m9) rfl) rfl ?_
    refine zN ?_
    refine K.seq_sil (K.load1_own one_3 rfl (K.m11) rfl) rfl ?_
    refine zN ?_
    refine qp (K.add_i64 rfl rfl (by omega)) ?_
    refine K.seq_upd (K.callU (first := []) (cap := [.pointer (some ⟨p1, 0, none⟩), .pointer (some ⟨p2, 0, none⟩), .pointer (some ⟨p3, 0, none⟩), .pointer (some ⟨p4, 0, none⟩), .pointer (some ⟨p5, 0, none⟩), .pointer (some ⟨p6, 0, none⟩), .pointer (some ⟨p7, 0, none⟩)]) rfl cal_66 (fun w hw => IH (cs := cs) (l := (l ++ [-1])) (i := l.length + 1) (T := K.blk b8 3 [.int .i64 (l.length : Int)] :: T) hw rfl rfl (by rw [List.length_append]; rfl) eI_snoc (hcs.up) (by omega))) rfl ?_
    rintro ⟨⟨Q1b, c1b⟩, ⟨Q4b, c4b⟩, Q5b, c5b⟩ _
    refine zN ?_
    refine sn ?_
    refine K.seq ?_
    refine K.use_rowc (A := Q4b) K.m4 (fun _ hc4 => ?_)
    refine K.region_lit ?_
    refine K.seq_sil (K.load1_own one_28 rfl (K.m3) rfl) rfl ?_
    refine zN ?_
    refine K.seq_sil (K.load1_own one_3 rfl (K.m11) rfl) rfl ?_
    refine zN ?_
    refine K.seq_pure (K.slice_hi l.length sl_28 rfl rfl rfl (by omega)) rfl ?_
    refine zN ?_
    refine K.seq_st (K.store sz_28 rfl rfl rfl rfl (K.rp3)) rfl ?_
    refine zN ?_
    refine sn ?_
    refine K.ret ?_
    refine K.ret_block ?_
    refine K.ret_then ?_
    refine K.end_ret (fun w _ => K.res_none rfl w) ?_
    have hfp : (fillP r (f + 1) cs l (best, fw)) = (fillP r f cs (l ++ [-1]) (best, fw)) := fillP_out (by simp only; omega) ht24
    refine K.row_pop K.rp4 eI_len ?_
    exact K.retsU ((Q1b, c1b), (Q4b, c4b), (Q5b, c5b)) trivial rfl (by rw [hfp]; exact (List.Sublist.cons_cons _ (List.Sublist.cons_cons _ (List.Sublist.cons_cons _ (List.Sublist.cons_cons _ (List.Sublist.cons_cons _ (List.Sublist.cons_cons _ (List.Sublist.cons_cons _ (List.Sublist.cons_cons _ (List.Sublist.cons_cons _ (List.Sublist.cons_cons _ (List.Sublist.cons_cons _ (List.Sublist.cons _ (List.Sublist.refl _))))))))))))))
  try replace ht24 := of_decide_eq_false ht24
  refine K.skip ?_
  refine K.norm_block ?_
  refine K.norm_then ?_
  refine sr ?_
  refine K.seq_sil (K.load1_own one_28 rfl (K.m0) rfl) rfl ?_
  refine zN ?_
  refine qp (K.len_sl sl_28 rfl) ?_
  refine qp (K.add_i64 rfl rfl (by omega)) ?_
  refine qm ?_
  refine sn ?_
  refine K.block ?_
  refine K.loopW [41] [9, 42, 43, 44, 45, 46, 47, 48, 49, 50, 51, 52, 53, 54, 55, 56, 57, 58, 59, 60, 61, 62, 63, 64, 65, 66, 67, 68, 69, 70, 71, 72, 73, 74, 75, 76, 77, 78, 79, 80, 81, 82, 83, 84, 85, 86, 87, 88, 89, 90, 91, 92, 93, 94] (fun vi L => ∃ (n : Nat) (R1 R4 R5 : Option Addr) (d1 d4 d5 : Nat), vi = [.int .i64 (n : Int)] ∧ L = K.blk p1 28 [.slice R1 cs.length d1] :: K.row (.slice R1 cs.length d1) 3 1 cs.length (cs.flatMap K.eI) :: K.blk p2 3 [.int .i64 (loopP (fillP r f) r cs l (best, fw) n).2] :: K.blk p4 28 [.slice R4 l.length d4] :: K.row (.slice R4 l.length d4) 3 1 l.length (l.flatMap K.eI) :: K.blk p5 28 [.slice R5 (loopP (fillP r f) r cs l (best, fw) n).1.length d5] :: K.row (.slice R5 (loopP (fillP r f) r cs l (best, fw) n).1.length d5) 3 1 (loopP (fillP r f) r cs l (best, fw) n).1.length ((loopP (fillP r f) r cs l (best, fw) n).1.flatMap K.eI) :: K.blk p3 22 [.slice A r.length c] :: K.blk p6 72 [.pointer (some ⟨q, 0, none⟩)] :: K.blk p7 131 [.func (.func 69) #[] #[.pointer (some ⟨p1, 0, none⟩), .pointer (some ⟨p2, 0, none⟩), .pointer (some ⟨p3, 0, none⟩), .pointer (some ⟨p4, 0, none⟩), .pointer (some ⟨p5, 0, none⟩), .pointer (some ⟨p6, 0, none⟩), .pointer (some ⟨p7, 0, none⟩)]] :: K.blk q 82 (.slice A r.length c :: dcell (drT r)) :: K.blk b8 3 [.int .i64 (l.length : Int)] :: T ∧ n ≤ cs.length + 1) (fun vi => cs.length + 1 - (intOf (K.nth vi 0)).toNat) ?_ ?_
  · exact ⟨0, Q1, Q4, Q5, c1, c4, c5, rfl, rfl, Nat.zero_le _⟩
  intro vi vr L hJ
  obtain ⟨n, R1, R4, R5, d1, d4, d5, rfl, rfl, hnn⟩ := hJ
  try dsimp only [setd, setn, ev, nth, over, cl, eI, eP, eT, eR, setM, setF, List.map, List.append, List.drop, List.take]
  refine sr ?_
  refine qp (K.lss rfl rfl) ?_
  refine sn ?_
  refine K.seq ?_
  refine K.cond rfl (fun ht42 => ?_) (fun ht42 => ?_)
  · try replace ht42 := of_decide_eq_true ht42
    have hnl : n ≤ cs.length := by omega
    refine K.skip ?_
    refine K.norm_then ?_
    refine K.seq ?_
    refine K.block ?_
    refine sr ?_
    refine qm ?_
    refine qa ?_
    refine sn ?_
    refine K.seqJ [] [44, 45, 46, 47, 48, 49, 50] (fun vi L => vi = [] ∧ ∃ (R1 : Option Addr) (d1 : Nat), L = K.blk p1 28 [.slice R1 (chX cs n).length d1] :: K.row (.slice R1 (chX cs n).length d1) 3 1 (chX cs n).length ((chX cs n).flatMap K.eI) :: K.blk p2 3 [.int .i64 (loopP (fillP r f) r cs l (best, fw) n).2] :: K.blk p4 28 [.slice R4 l.length d4] :: K.row (.slice R4 l.length d4) 3 1 l.length (l.flatMap K.eI) :: K.blk p5 28 [.slice R5 (loopP (fillP r f) r cs l (best, fw) n).1.length d5] :: K.row (.slice R5 (loopP (fillP r f) r cs l (best, fw) n).1.length d5) 3 1 (loopP (fillP r f) r cs l (best, fw) n).1.length ((loopP (fillP r f) r cs l (best, fw) n).1.flatMap K.eI) :: K.blk p3 22 [.slice A r.length c] :: K.blk p6 72 [.pointer (some ⟨q, 0, none⟩)] :: K.blk p7 131 [.func (.func 69) #[] #[.pointer (some ⟨p1, 0, none⟩), .pointer (some ⟨p2, 0, none⟩), .pointer (some ⟨p3, 0, none⟩), .pointer (some ⟨p4, 0, none⟩), .pointer (some ⟨p5, 0, none⟩), .pointer (some ⟨p6, 0, none⟩), .pointer (some ⟨p7, 0, none⟩)]] :: K.blk q 82 (.slice A r.length c :: dcell (drT r)) :: K.blk b8 3 [.int .i64 (l.length : Int)] :: T) ?_ ?_
    · refine sr ?_
      refine qm ?_
      refine K.seq_sil (K.load1_own one_28 rfl (K.m0) rfl) rfl ?_
      refine zN ?_
      refine qp (K.len_sl sl_28 rfl) ?_
      refine qp (K.eql rfl rfl) ?_
      refine sn ?_
      refine K.cond rfl (fun ht47 => ?_) (fun ht47 => ?_)
      · try replace ht47 := of_decide_eq_true ht47
        refine K.region_lit ?_
        refine K.seq_sil (K.load1_own one_28 rfl (K.m0) rfl) rfl ?_
        refine zN ?_
        refine K.seq_new (K.buildSlice (bs1 _)) rfl ?_
        intro b49
        refine zN ?_
        refine K.seq_upd (K.append el_28 rfl rfl (K.PtrL.own' (K.m0)) rfl rfl (by decide) (by omega) (by omega) (fun _ _ => K.rp2)) rfl ?_
        rintro ⟨g50, c50⟩ _
        refine zN ?_
        refine K.seq_st (K.store sz_28 rfl rfl rfl rfl (K.rp1)) rfl ?_
        refine zN ?_
        refine K.seq_nil ?_
        have e0 : n = cs.length := by omega
        have ex : chX cs n = cs ++ [0] := by unfold chX; rw [if_pos e0]
        have el : (chX cs n).length = cs.length + 1 := by rw [ex, List.length_append]; rfl
        have ef : (chX cs n).flatMap K.eI = cs.flatMap K.eI ++ [.int .i64 0] := by rw [ex]; exact eI_snoc.symm
        exact K.join_here (L' := K.blk p1 28 [.slice (some ⟨g50, 0, none⟩) (cs.length + 1) c50] :: K.row (.slice (some ⟨g50, 0, none⟩) (cs.length + 1) c50) 3 1 (cs.length + 1) (cs.flatMap K.eI ++ [.int .i64 0]) :: K.blk p2 3 [.int .i64 (loopP (fillP r f) r cs l (best, fw) n).2] :: K.blk p4 28 [.slice R4 l.length d4] :: K.row (.slice R4 l.length d4) 3 1 l.length (l.flatMap K.eI) :: K.blk p5 28 [.slice R5 (loopP (fillP r f) r cs l (best, fw) n).1.length d5] :: K.row (.slice R5 (loopP (fillP r f) r cs l (best, fw) n).1.length d5) 3 1 (loopP (fillP r f) r cs l (best, fw) n).1.length ((loopP (fillP r f) r cs l (best, fw) n).1.flatMap K.eI) :: K.blk p3 22 [.slice A r.length c] :: K.blk p6 72 [.pointer (some ⟨q, 0, none⟩)] :: K.blk p7 131 [.func (.func 69) #[] #[.pointer (some ⟨p1, 0, none⟩), .pointer (some ⟨p2, 0, none⟩), .pointer (some ⟨p3, 0, none⟩), .pointer (some ⟨p4, 0, none⟩), .pointer (some ⟨p5, 0, none⟩), .pointer (some ⟨p6, 0, none⟩), .pointer (some ⟨p7, 0, none⟩)]] :: K.blk q 82 (.slice A r.length c :: dcell (drT r)) :: K.blk b8 3 [.int .i64 (l.length : Int)] :: T) [] ⟨rfl, some ⟨g50, 0, none⟩, c50, by rw [el, ef]⟩ (K.st_sub ((List.Sublist.cons _ (List.Sublist.refl _)))) (by kernel_rfl)
      try replace ht47 := of_decide_eq_false ht47
      refine K.skip ?_
      have e0 : n < cs.length := by omega
      have ex : chX cs n = cs := chX_old e0
      exact K.join_here (L' := K.blk p1 28 [.slice R1 cs.length d1] :: K.row (.slice R1 cs.length d1) 3 1 cs.length (cs.flatMap K.eI) :: K.blk p2 3 [.int .i64 (loopP (fillP r f) r cs l (best, fw) n).2] :: K.blk p4 28 [.slice R4 l.length d4] :: K.row (.slice R4 l.length d4) 3 1 l.length (l.flatMap K.eI) :: K.blk p5 28 [.slice R5 (loopP (fillP r f) r cs l (best, fw) n).1.length d5] :: K.row (.slice R5 (loopP (fillP r f) r cs l (best, fw) n).1.length d5) 3 1 (loopP (fillP r f) r cs l (best, fw) n).1.length ((loopP (fillP r f) r cs l (best, fw) n).1.flatMap K.eI) :: K.blk p3 22 [.slice A r.length c] :: K.blk p6 72 [.pointer (some ⟨q, 0, none⟩)] :: K.blk p7 131 [.func (.func 69) #[] #[.pointer (some ⟨p1, 0, none⟩), .pointer (some ⟨p2, 0, none⟩), .pointer (some ⟨p3, 0, none⟩), .pointer (some ⟨p4, 0, none⟩), .pointer (some ⟨p5, 0, none⟩), .pointer (some ⟨p6, 0, none⟩), .pointer (some ⟨p7, 0, none⟩)]] :: K.blk q 82 (.slice A r.length c :: dcell (drT r)) :: K.blk b8 3 [.int .i64 (l.length : Int)] :: T) [] ⟨rfl, R1, d1, by rw [ex]⟩ (K.st_sub ((List.Sublist.refl _))) (by kernel_rfl)
    intro vi vr L hJ
    obtain ⟨rfl, R1, d1, rfl⟩ := hJ
    try dsimp only [setd, setn, ev, nth, over, cl, eI, eP, eT, eR, setM, setF, List.map, List.append, List.drop, List.take]
    refine K.seqJ [] [51, 52, 53, 54, 55, 56, 57, 58, 59, 60, 61, 62, 63, 64, 65, 66, 67, 68, 69, 70, 71, 72, 73, 74, 75, 76, 77, 78, 79, 80, 81, 82, 83, 84, 85] (fun vi L => vi = [] ∧ ∃ (R1 R4 R5 : Option Addr) (d1 d4 d5 : Nat), L = K.blk p1 28 [.slice R1 (chX cs n).length d1] :: K.row (.slice R1 (chX cs n).length d1) 3 1 (chX cs n).length ((chX cs n).flatMap K.eI) :: K.blk p2 3 [.int .i64 (loopP (fillP r f) r cs l (best, fw) (n + 1)).2] :: K.blk p4 28 [.slice R4 l.length d4] :: K.row (.slice R4 l.length d4) 3 1 l.length (l.flatMap K.eI) :: K.blk p5 28 [.slice R5 (loopP (fillP r f) r cs l (best, fw) (n + 1)).1.length d5] :: K.row (.slice R5 (loopP (fillP r f) r cs l (best, fw) (n + 1)).1.length d5) 3 1 (loopP (fillP r f) r cs l (best, fw) (n + 1)).1.length ((loopP (fillP r f) r cs l (best, fw) (n + 1)).1.flatMap K.eI) :: K.blk p3 22 [.slice A r.length c] :: K.blk p6 72 [.pointer (some ⟨q, 0, none⟩)] :: K.blk p7 131 [.func (.func 69) #[] #[.pointer (some ⟨p1, 0, none⟩), .pointer (some ⟨p2, 0, none⟩), .pointer (some ⟨p3, 0, none⟩), .pointer (some ⟨p4, 0, none⟩), .pointer (some ⟨p5, 0, none⟩), .pointer (some ⟨p6, 0, none⟩), .pointer (some ⟨p7, 0, none⟩)]] :: K.blk q 82 (.slice A r.length c :: dcell (drT r)) :: K.blk b8 3 [.int .i64 (l.length : Int)] :: T) ?_ ?_
    · refine K.seq ?_
      refine K.use_row (A := R1) K.m1 (fun hR1 => ?_)
      have hchb := chX_bd hcs hnl
      have hcn := ch_nat hcs hnl
      have hlt := chX_lt hnl
      have hxl := chX_le hnl
      have hpw := pow_bd (n := l.length) (by omega)
      have hch9 : ((chX cs n).getD n default) ≤ 511 := by have := pow_cast (i := l.length); omega
      obtain ⟨gb, rfl⟩ : ∃ gb, R1 = some ⟨gb, 0, none⟩ := by
        rcases hR1 with h | h
        · omega
        · exact h
      have hcv := eI_at0 (xs := (chX cs n)) (k := n) hlt
      refine K.region_lit ?_
      refine K.seq_sil (K.load1_own one_28 rfl (K.m0) rfl) rfl ?_
      refine zN ?_
      refine qm ?_
      refine K.seq_pure (K.Pure.eq (K.indexAddr_sl sl_28 rfl rfl (by omega) (by omega)) (show _ = Value.pointer (some ⟨gb, 0 + n * 1, none⟩) from by rw [K.add_lit, Int.toNat_natCast])) rfl ?_
      refine zN ?_
      refine zN ?_
      refine K.seq_sil (K.load_at one_3 rfl ((K.Sl.ptr (K.Sl.of_row' (t := 3) (c := d1) (n := (chX cs n).length) (e := K.eI) (xs := (chX cs n)) (.inr ⟨gb, rfl⟩) rfl (fun _ => rfl) rfl) (fun _ => rfl) (by decide)).at1 (K.m1)) hcv) rfl ?_
      refine zN ?_
      refine K.seq_loud (K.call_f cal_65 (fun F w hF hw => c60 (hT.pass hw) ⟨hchb.1, hch9⟩)) rfl ?_
      rintro ⟨Q6, q6⟩ hq6
      refine zN ?_
      refine K.seq_pure (K.mkFunc) rfl ?_
      refine zN ?_
      refine K.seq_call (K.call_g cal_71 (fun F w hF hw => (by have hX := (K.Rd.own (e := K.eI) (xs := (bitsL ((chX cs n).getD n default))) hw (hF _ (K.m0)) hq6 (fun _ => rfl) (by decide)); have hbl := bits_len (x := ((chX cs n).getD n default)); exact c69 (cap := [.pointer (some ⟨p6, 0, none⟩), .pointer (some ⟨b8, 0, none⟩)]) (p := fun k => !conS r l.length k.toNat) hX (by omega) cal_72 (fun x hx w1 hb => by have hxb := ch_bits hchb.1 hchb.2 hx; have hg := c70 (i := l.length) (k := x.toNat) (K.PtrL.pass hw (hF _ (K.m9)) hb) (K.PtrL.pass hw (hF _ (K.m12)) hb) (K.PtrL.pass hw (hF _ (K.m11)) hb) (Nat.lt_of_lt_of_le (K.blk_lt hw (hF _ (K.m11))) hb.size) ((hR.pass hw).later hb) g (by omega) (by omega); rw [Int.toNat_of_nonneg hxb.1] at hg; exact hg)))) rfl ?_
      refine zN ?_
      first | refine K.seq_pure (K.not_d rfl) rfl ?_ | refine K.seq_pure (K.not_ rfl) rfl ?_
      refine zN ?_
      refine sn ?_
      refine K.cond rfl (fun ht58 => ?_) (fun ht58 => ?_)
      · try replace ht58 := of_decide_eq_true ht58
        refine K.seq ?_
        have hok : okP r l.length ((chX cs n).getD n default) = true := ht58
        have hfit : 0 + n * 1 + 1 ≤ ((chX cs n).flatMap K.eI).length := by rw [eI_len]; omega
        have hset : K.over ((chX cs n).flatMap K.eI) (0 + n * 1) (K.cl (.int .i64 ((((chX cs n).getD n default).toNat ||| 2 ^ l.length : Nat) : Int))) = (setX cs n l.length).flatMap K.eI := K.set_cut0 (e := K.eI) (size := 1) (k := n) (xs := (chX cs n)) (x := ((((chX cs n).getD n default).toNat ||| 2 ^ l.length : Nat) : Int)) (fun _ => rfl) hlt
        have hor := or_pow hcn
        refine K.weak (List.Sublist.cons _ (List.Sublist.cons_cons _ (List.Sublist.cons_cons _ (List.Sublist.cons_cons _ (List.Sublist.cons_cons _ (List.Sublist.cons_cons _ (List.Sublist.cons_cons _ (List.Sublist.cons_cons _ (List.Sublist.cons_cons _ (List.Sublist.cons_cons _ (List.Sublist.cons_cons _ (List.Sublist.cons_cons _ (List.Sublist.cons_cons _ (List.Sublist.refl _)))))))))))))) ?_
        refine K.draw_L [8] Tryz_mixed ?_
        refine K.d_mem 0 rfl (K.load1_own one_28 rfl (K.m0) rfl) (fun _ h => h) (by kernel_rfl) (by kernel_rfl) rfl ?_
        refine zN ?_
        refine K.d_pure 1 rfl (K.move) (by kernel_rfl) rfl ?_
        refine zn ?_
        refine K.d_pure 2 rfl (K.Pure.eq (K.indexAddr_sl sl_28 rfl rfl (by omega) (by omega)) (show _ = Value.pointer (some ⟨gb, 0 + n * 1, none⟩) from by rw [K.add_lit, Int.toNat_natCast])) (by kernel_rfl) rfl ?_
        refine zN ?_
        refine zN ?_
        refine K.d_mem 3 rfl (K.load_at one_3 rfl ((K.Sl.ptr (K.Sl.of_row' (t := 3) (c := d1) (n := (chX cs n).length) (e := K.eI) (xs := (chX cs n)) (.inr ⟨gb, rfl⟩) rfl (fun _ => rfl) rfl) (fun _ => rfl) (by decide)).at1 (K.m1)) hcv) (fun _ h => h) (by kernel_rfl) (by kernel_rfl) rfl ?_
        refine zN ?_
        refine K.d_mem 4 rfl (K.load1_own one_3 rfl (K.m11) rfl) (fun _ h => h) (by kernel_rfl) (by kernel_rfl) rfl ?_
        refine zN ?_
        refine K.d_pure 5 rfl (K.Pure.eq (K.shl_int rfl rfl (by omega)) (show _ = Value.int .i64 ((2 ^ l.length : Nat) : Int) from by rw [shl_val (by omega)])) (by kernel_rfl) rfl ?_
        refine zn ?_
        refine K.d_pure 6 rfl (K.Pure.eq (K.or_int rfl rfl) (show _ = Value.int .i64 ((((chX cs n).getD n default).toNat ||| 2 ^ l.length : Nat) : Int) from by rw [← or_nat (by omega) (by omega), Int.toNat_of_nonneg hchb.1])) (by kernel_rfl) rfl ?_
        refine zn ?_
        refine K.d_pure 7 rfl (K.Pure.eq (K.indexAddr_sl sl_28 rfl rfl (by omega) (by omega)) (show _ = Value.pointer (some ⟨gb, 0 + n * 1, none⟩) from by rw [K.add_lit, Int.toNat_natCast])) (by kernel_rfl) rfl ?_
        refine zN ?_
        refine zN ?_
        refine K.d_last 8 rfl (K.store_row (xs := (chX cs n).flatMap K.eI) (j := 0 + n * 1) sz_3 rfl rfl hfit rfl (K.rpe K.rp1 (show K.row (.slice (some ⟨gb, 0, none⟩) (chX cs n).length d1) 3 1 (chX cs n).length ((setX cs n l.length).flatMap K.eI) = K.row (.slice (some ⟨gb, 0, none⟩) (chX cs n).length d1) 3 1 (chX cs n).length (K.over ((chX cs n).flatMap K.eI) (0 + n * 1) _) from congrArg (K.row (.slice (some ⟨gb, 0, none⟩) (chX cs n).length d1) 3 1 (chX cs n).length) hset.symm))) rfl (by kernel_rfl) rfl ?_
        intro _ _
        refine zN ?_
        refine zN ?_
        refine K.d_done (by kernel_rfl) ?_
        refine K.norm_then ?_
        refine sr ?_
        refine K.seq_sil (K.load1_own one_28 rfl (K.m3) rfl) rfl ?_
        refine zN ?_
        refine qm ?_
        refine K.seq_new (K.buildSlice (bs1 _)) rfl ?_
        intro b69
        refine zN ?_
        refine K.seq_upd (K.append el_28 rfl rfl (K.PtrL.own' (K.m0)) rfl rfl (by decide) (by omega) (by omega) (fun _ _ => K.rp5)) rfl ?_
        rintro ⟨g70, c70⟩ _
        refine zN ?_
        refine K.seq_st (K.store sz_28 rfl rfl rfl rfl (K.rp4)) rfl ?_
        refine zN ?_
        refine sn ?_
        refine K.seq ?_
        refine K.weak (List.Sublist.cons _ (List.Sublist.cons_cons _ (List.Sublist.cons_cons _ (List.Sublist.cons_cons _ (List.Sublist.cons_cons _ (List.Sublist.cons_cons _ (List.Sublist.cons_cons _ (List.Sublist.cons_cons _ (List.Sublist.cons_cons _ (List.Sublist.cons_cons _ (List.Sublist.cons_cons _ (List.Sublist.cons_cons _ (List.Sublist.cons_cons _ (List.Sublist.refl _)))))))))))))) ?_
        refine K.region_lit ?_
        refine K.seq_sil (K.load1_own one_131 rfl (K.m9) rfl) rfl ?_
        refine zN ?_
        refine K.seq_sil (K.load1_own one_3 rfl (K.m11) rfl) rfl ?_
        refine zN ?_
        refine qp (K.add_i64 rfl rfl (by omega)) ?_
        refine K.seq_upd (K.callU (first := []) (cap := [.pointer (some ⟨p1, 0, none⟩), .pointer (some ⟨p2, 0, none⟩), .pointer (some ⟨p3, 0, none⟩), .pointer (some ⟨p4, 0, none⟩), .pointer (some ⟨p5, 0, none⟩), .pointer (some ⟨p6, 0, none⟩), .pointer (some ⟨p7, 0, none⟩)]) rfl cal_66 (fun w hw => IH (cs := (setX cs n l.length)) (l := (l ++ [(n : Int)])) (i := l.length + 1) (T := K.blk b8 3 [.int .i64 (l.length : Int)] :: T) hw setX_len.symm rfl (by rw [List.length_append]; rfl) eI_snoc (setX_ok hcs hnl) (by omega))) rfl ?_
        rintro ⟨⟨Q1b, c1b⟩, ⟨Q4b, c4b⟩, Q5b, c5b⟩ _
        refine zN ?_
        refine sn ?_
        refine K.seq ?_
        refine K.use_rowc (A := Q4b) K.m4 (fun _ hc4 => ?_)
        refine K.region_lit ?_
        refine K.seq_sil (K.load1_own one_28 rfl (K.m3) rfl) rfl ?_
        refine zN ?_
        refine K.seq_sil (K.load1_own one_3 rfl (K.m11) rfl) rfl ?_
        refine zN ?_
        refine K.seq_pure (K.slice_hi l.length sl_28 rfl rfl rfl (by omega)) rfl ?_
        refine zN ?_
        refine K.seq_st (K.store sz_28 rfl rfl rfl rfl (K.rp3)) rfl ?_
        refine zN ?_
        refine sn ?_
        refine K.row_pop K.rp4 eI_len ?_
        refine K.use_row (A := Q1b) K.m1 (fun hR2 => ?_)
        obtain ⟨gc, rfl⟩ : ∃ gc, Q1b = some ⟨gc, 0, none⟩ := by
          rcases hR2 with h | h
          · omega
          · exact h
        have hsl2 : (setX cs n l.length).length = (chX cs n).length := setX_len
        have hcv2 := eI_at0 (xs := (setX cs n l.length)) (k := n) (by omega)
        rw [setX_at hnl] at hcv2
        have hfit2 : 0 + n * 1 + 1 ≤ ((setX cs n l.length).flatMap K.eI).length := by rw [eI_len]; omega
        have hset2 : K.over ((setX cs n l.length).flatMap K.eI) (0 + n * 1) (K.cl (.int .i64 ((chX cs n).getD n default))) = (chX cs n).flatMap K.eI := by
          have h := K.set_cut0 (e := K.eI) (size := 1) (k := n) (xs := (setX cs n l.length)) (x := ((chX cs n).getD n default)) (fun _ => rfl) (by omega)
          rw [setX_back hnl] at h
          exact h
        refine K.draw_L [8] Tryz_mixed ?_
        refine K.d_mem 0 rfl (K.load1_own one_28 rfl (K.m0) rfl) (fun _ h => h) (by kernel_rfl) (by kernel_rfl) rfl ?_
        refine zN ?_
        refine K.d_pure 1 rfl (K.move) (by kernel_rfl) rfl ?_
        refine zn ?_
        refine K.d_pure 2 rfl (K.Pure.eq (K.indexAddr_sl sl_28 rfl rfl (by omega) (by omega)) (show _ = Value.pointer (some ⟨gc, 0 + n * 1, none⟩) from by rw [K.add_lit, Int.toNat_natCast])) (by kernel_rfl) rfl ?_
        refine zN ?_
        refine zN ?_
        refine K.d_mem 3 rfl (K.load_at one_3 rfl ((K.Sl.ptr (K.Sl.of_row' (t := 3) (c := c1b) (n := (chX cs n).length) (e := K.eI) (xs := (setX cs n l.length)) (.inr ⟨gc, rfl⟩) hsl2 (fun _ => rfl) rfl) (fun _ => rfl) (by decide)).at1 (K.m1)) hcv2) (fun _ h => h) (by kernel_rfl) (by kernel_rfl) rfl ?_
        refine zN ?_
        refine K.d_mem 4 rfl (K.load1_own one_3 rfl (K.m11) rfl) (fun _ h => h) (by kernel_rfl) (by kernel_rfl) rfl ?_
        refine zN ?_
        refine K.d_pure 5 rfl (K.Pure.eq (K.shl_int rfl rfl (by omega)) (show _ = Value.int .i64 ((2 ^ l.length : Nat) : Int) from by rw [shl_val (by omega)])) (by kernel_rfl) rfl ?_
        refine zn ?_
        refine K.d_pure 6 rfl (K.Pure.eq (K.andnot_int rfl rfl) (show _ = Value.int .i64 ((chX cs n).getD n default) from by rw [andnot_val (by omega) hcn, Int.toNat_of_nonneg hchb.1])) (by kernel_rfl) rfl ?_
        refine zn ?_
        refine K.d_pure 7 rfl (K.Pure.eq (K.indexAddr_sl sl_28 rfl rfl (by omega) (by omega)) (show _ = Value.pointer (some ⟨gc, 0 + n * 1, none⟩) from by rw [K.add_lit, Int.toNat_natCast])) (by kernel_rfl) rfl ?_
        refine zN ?_
        refine zN ?_
        refine K.d_last 8 rfl (K.store_row (xs := (setX cs n l.length).flatMap K.eI) (j := 0 + n * 1) sz_3 rfl rfl hfit2 rfl (K.rpe K.rp1 (show K.row (.slice (some ⟨gc, 0, none⟩) (chX cs n).length c1b) 3 1 (chX cs n).length ((chX cs n).flatMap K.eI) = K.row (.slice (some ⟨gc, 0, none⟩) (chX cs n).length c1b) 3 1 (chX cs n).length (K.over ((setX cs n l.length).flatMap K.eI) (0 + n * 1) _) from congrArg (K.row (.slice (some ⟨gc, 0, none⟩) (chX cs n).length c1b) 3 1 (chX cs n).length) hset2.symm))) rfl (by kernel_rfl) rfl ?_
        intro _ _
        refine zN ?_
        refine zN ?_
        refine K.d_done (by kernel_rfl) ?_
        have es : (loopP (fillP r f) r cs l (best, fw) (n + 1)) = fillP r f (setX cs n l.length) (l ++ [(n : Int)]) (loopP (fillP r f) r cs l (best, fw) n) := loopP_yes hok
        exact K.join_here (L' := K.blk p1 28 [.slice (some ⟨gc, 0, none⟩) (chX cs n).length c1b] :: K.row (.slice (some ⟨gc, 0, none⟩) (chX cs n).length c1b) 3 1 (chX cs n).length ((chX cs n).flatMap K.eI) :: K.blk p2 3 [.int .i64 (fillP r f (setX cs n l.length) (l ++ [(n : Int)]) (loopP (fillP r f) r cs l (best, fw) n)).2] :: K.blk p4 28 [.slice Q4b l.length c4b] :: K.row (.slice Q4b l.length c4b) 3 1 l.length (l.flatMap K.eI) :: K.blk p5 28 [.slice Q5b (fillP r f (setX cs n l.length) (l ++ [(n : Int)]) (loopP (fillP r f) r cs l (best, fw) n)).1.length c5b] :: K.row (.slice Q5b (fillP r f (setX cs n l.length) (l ++ [(n : Int)]) (loopP (fillP r f) r cs l (best, fw) n)).1.length c5b) 3 1 (fillP r f (setX cs n l.length) (l ++ [(n : Int)]) (loopP (fillP r f) r cs l (best, fw) n)).1.length ((fillP r f (setX cs n l.length) (l ++ [(n : Int)]) (loopP (fillP r f) r cs l (best, fw) n)).1.flatMap K.eI) :: K.blk p3 22 [.slice A r.length c] :: K.blk p6 72 [.pointer (some ⟨q, 0, none⟩)] :: K.blk p7 131 [.func (.func 69) #[] #[.pointer (some ⟨p1, 0, none⟩), .pointer (some ⟨p2, 0, none⟩), .pointer (some ⟨p3, 0, none⟩), .pointer (some ⟨p4, 0, none⟩), .pointer (some ⟨p5, 0, none⟩), .pointer (some ⟨p6, 0, none⟩), .pointer (some ⟨p7, 0, none⟩)]] :: K.blk q 82 (.slice A r.length c :: dcell (drT r)) :: K.blk b8 3 [.int .i64 (l.length : Int)] :: T) [] ⟨rfl, some ⟨gc, 0, none⟩, Q4b, Q5b, c1b, c4b, c5b, by rw [es]⟩ (K.st_sub ((List.Sublist.refl _))) (by kernel_rfl)
      try replace ht58 := of_decide_eq_false ht58
      refine K.skip ?_
      have hok : okP r l.length ((chX cs n).getD n default) = false := ht58
      have es : (loopP (fillP r f) r cs l (best, fw) (n + 1)) = (loopP (fillP r f) r cs l (best, fw) n) := loopP_no hok
      exact K.join_here (L' := K.blk p1 28 [.slice (some ⟨gb, 0, none⟩) (chX cs n).length d1] :: K.row (.slice (some ⟨gb, 0, none⟩) (chX cs n).length d1) 3 1 (chX cs n).length ((chX cs n).flatMap K.eI) :: K.blk p2 3 [.int .i64 (loopP (fillP r f) r cs l (best, fw) n).2] :: K.blk p4 28 [.slice R4 l.length d4] :: K.row (.slice R4 l.length d4) 3 1 l.length (l.flatMap K.eI) :: K.blk p5 28 [.slice R5 (loopP (fillP r f) r cs l (best, fw) n).1.length d5] :: K.row (.slice R5 (loopP (fillP r f) r cs l (best, fw) n).1.length d5) 3 1 (loopP (fillP r f) r cs l (best, fw) n).1.length ((loopP (fillP r f) r cs l (best, fw) n).1.flatMap K.eI) :: K.blk p3 22 [.slice A r.length c] :: K.blk p6 72 [.pointer (some ⟨q, 0, none⟩)] :: K.blk p7 131 [.func (.func 69) #[] #[.pointer (some ⟨p1, 0, none⟩), .pointer (some ⟨p2, 0, none⟩), .pointer (some ⟨p3, 0, none⟩), .pointer (some ⟨p4, 0, none⟩), .pointer (some ⟨p5, 0, none⟩), .pointer (some ⟨p6, 0, none⟩), .pointer (some ⟨p7, 0, none⟩)]] :: K.blk q 82 (.slice A r.length c :: dcell (drT r)) :: K.blk b8 3 [.int .i64 (l.length : Int)] :: T) [] ⟨rfl, some ⟨gb, 0, none⟩, R4, R5, d1, d4, d5, by rw [es]⟩ (K.st_sub ((List.Sublist.cons _ (List.Sublist.refl _)))) (by kernel_rfl)
    intro vi vr L hJ
    obtain ⟨rfl, R1, R4, R5, d1, d4, d5, rfl⟩ := hJ
    try dsimp only [setd, setn, ev, nth, over, cl, eI, eP, eT, eR, setM, setF, List.map, List.append, List.drop, List.take]
    refine K.seq ?_
    have hchb := chX_bd hcs hnl
    have hcn := ch_nat hcs hnl
    have hlt := chX_lt hnl
    have hxl := chX_le hnl
    have hpw := pow_bd (n := l.length) (by omega)
    have hch9 : ((chX cs n).getD n default) ≤ 511 := by have := pow_cast (i := l.length); omega
    refine K.use_rowc (A := R1) K.m1 (fun hR3 hd1 => ?_)
    obtain ⟨gd, rfl⟩ : ∃ gd, R1 = some ⟨gd, 0, none⟩ := by
      rcases hR3 with h | h
      · omega
      · exact h
    have hcv := eI_at0 (xs := (chX cs n)) (k := n) hlt
    refine K.region_lit ?_
    refine K.seq_sil (K.load1_own one_28 rfl (K.m0) rfl) rfl ?_
    refine zN ?_
    refine qm ?_
    refine K.seq_pure (K.Pure.eq (K.indexAddr_sl sl_28 rfl rfl (by omega) (by omega)) (show _ = Value.pointer (some ⟨gd, 0 + n * 1, none⟩) from by rw [K.add_lit, Int.toNat_natCast])) rfl ?_
    refine zN ?_
    refine zN ?_
    refine K.seq_sil (K.load_at one_3 rfl ((K.Sl.ptr (K.Sl.of_row' (t := 3) (c := d1) (n := (chX cs n).length) (e := K.eI) (xs := (chX cs n)) (.inr ⟨gd, rfl⟩) rfl (fun _ => rfl) rfl) (fun _ => rfl) (by decide)).at1 (K.m1)) hcv) rfl ?_
    refine zN ?_
    refine qp (K.eql rfl rfl) ?_
    refine sn ?_
    refine K.cond rfl (fun ht90 => ?_) (fun ht90 => ?_)
    · try replace ht90 := of_decide_eq_true ht90
      refine K.region_lit ?_
      refine K.seq_sil (K.load1_own one_28 rfl (K.m0) rfl) rfl ?_
      refine zN ?_
      refine qm ?_
      refine K.seq_pure (K.slice_hi n sl_28 rfl rfl rfl (by omega)) rfl ?_
      refine zN ?_
      refine K.seq_st (K.store sz_28 rfl rfl rfl rfl (K.rp0)) rfl ?_
      refine zN ?_
      refine K.seq_nil ?_
      refine K.norm_block ?_
      refine K.norm_then ?_
      refine K.region_lit ?_
      refine qp (K.add_i64 rfl rfl (by omega)) ?_
      refine qm ?_
      refine K.seq_nil ?_
      have e0 : n = cs.length := (chX_zero hcs hnl).1 ht90
      subst e0
      have ex : chX cs cs.length = cs ++ [0] := by unfold chX; rw [if_pos rfl]
      have el : (chX cs cs.length).length = cs.length + 1 := by rw [ex, List.length_append]; rfl
      have ef : (chX cs cs.length).flatMap K.eI = cs.flatMap K.eI ++ [.int .i64 0] := by rw [ex]; exact eI_snoc.symm
      rw [el, ef]
      refine K.row_pop K.rp1 eI_len ?_
      exact K.round_endW (L'' := K.blk p1 28 [.slice (some ⟨gd, 0, none⟩) cs.length d1] :: K.row (.slice (some ⟨gd, 0, none⟩) cs.length d1) 3 1 cs.length (cs.flatMap K.eI) :: K.blk p2 3 [.int .i64 (loopP (fillP r f) r cs l (best, fw) (cs.length + 1)).2] :: K.blk p4 28 [.slice R4 l.length d4] :: K.row (.slice R4 l.length d4) 3 1 l.length (l.flatMap K.eI) :: K.blk p5 28 [.slice R5 (loopP (fillP r f) r cs l (best, fw) (cs.length + 1)).1.length d5] :: K.row (.slice R5 (loopP (fillP r f) r cs l (best, fw) (cs.length + 1)).1.length d5) 3 1 (loopP (fillP r f) r cs l (best, fw) (cs.length + 1)).1.length ((loopP (fillP r f) r cs l (best, fw) (cs.length + 1)).1.flatMap K.eI) :: K.blk p3 22 [.slice A r.length c] :: K.blk p6 72 [.pointer (some ⟨q, 0, none⟩)] :: K.blk p7 131 [.func (.func 69) #[] #[.pointer (some ⟨p1, 0, none⟩), .pointer (some ⟨p2, 0, none⟩), .pointer (some ⟨p3, 0, none⟩), .pointer (some ⟨p4, 0, none⟩), .pointer (some ⟨p5, 0, none⟩), .pointer (some ⟨p6, 0, none⟩), .pointer (some ⟨p7, 0, none⟩)]] :: K.blk q 82 (.slice A r.length c :: dcell (drT r)) :: K.blk b8 3 [.int .i64 (l.length : Int)] :: T) [.int .i64 ((cs.length : Int) + 1)] ⟨cs.length + 1, some ⟨gd, 0, none⟩, R4, R5, d1, d4, d5, rfl, rfl, by omega⟩ (by simp [K.nth, intOf] <;> omega) ((List.Sublist.refl _)) (by kernel_rfl)
    try replace ht90 := of_decide_eq_false ht90
    refine K.skip ?_
    refine K.norm_block ?_
    refine K.norm_then ?_
    refine K.region_lit ?_
    refine qp (K.add_i64 rfl rfl (by omega)) ?_
    refine qm ?_
    refine K.seq_nil ?_
    have e0 : n < cs.length := by
      rcases Nat.lt_or_ge n cs.length with h | h
      · exact h
      · exact absurd ((chX_zero hcs hnl).2 (by omega)) ht90
    rw [chX_old e0]
    exact K.round_endW (L'' := K.blk p1 28 [.slice (some ⟨gd, 0, none⟩) cs.length d1] :: K.row (.slice (some ⟨gd, 0, none⟩) cs.length d1) 3 1 cs.length (cs.flatMap K.eI) :: K.blk p2 3 [.int .i64 (loopP (fillP r f) r cs l (best, fw) (n + 1)).2] :: K.blk p4 28 [.slice R4 l.length d4] :: K.row (.slice R4 l.length d4) 3 1 l.length (l.flatMap K.eI) :: K.blk p5 28 [.slice R5 (loopP (fillP r f) r cs l (best, fw) (n + 1)).1.length d5] :: K.row (.slice R5 (loopP (fillP r f) r cs l (best, fw) (n + 1)).1.length d5) 3 1 (loopP (fillP r f) r cs l (best, fw) (n + 1)).1.length ((loopP (fillP r f) r cs l (best, fw) (n + 1)).1.flatMap K.eI) :: K.blk p3 22 [.slice A r.length c] :: K.blk p6 72 [.pointer (some ⟨q, 0, none⟩)] :: K.blk p7 131 [.func (.func 69) #[] #[.pointer (some ⟨p1, 0, none⟩), .pointer (some ⟨p2, 0, none⟩), .pointer (some ⟨p3, 0, none⟩), .pointer (some ⟨p4, 0, none⟩), .pointer (some ⟨p5, 0, none⟩), .pointer (some ⟨p6, 0, none⟩), .pointer (some ⟨p7, 0, none⟩)]] :: K.blk q 82 (.slice A r.length c :: dcell (drT r)) :: K.blk b8 3 [.int .i64 (l.length : Int)] :: T) [.int .i64 ((n : Int) + 1)] ⟨n + 1, some ⟨gd, 0, none⟩, R4, R5, d1, d4, d5, rfl, rfl, by omega⟩ (by simp [K.nth, intOf]; omega) ((List.Sublist.refl _)) (by kernel_rfl)
  try replace ht42 := of_decide_eq_false ht42
  refine K.exit ?_
  refine K.exit_then ?_
  refine K.exit_then ?_
  refine K.exit_here ?_
  refine K.end_normal (fun w _ => K.res_none rfl w) ?_
  have e0 : n = cs.length + 1 := by omega
  subst e0
  have hfp : (fillP r (f + 1) cs l (best, fw)) = (loopP (fillP r f) r cs l (best, fw) (cs.length + 1)) := fillP_loop (by simp only; omega) ht24
  exact K.retsU ((R1, d1), (R4, d4), (R5, d5)) trivial rfl (by rw [hfp]; exact (List.Sublist.cons_cons _ (List.Sublist.cons_cons _ (List.Sublist.cons_cons _ (List.Sublist.cons_cons _ (List.Sublist.cons_cons _ (List.Sublist.cons_cons _ (List.Sublist.cons_cons _ (List.Sublist.cons_cons _ (List.Sublist.cons_cons _ (List.Sublist.cons_cons _ (List.Sublist.cons_cons _ (List.Sublist.cons _ (List.Sublist.refl _))))))))))))))

theorem c66 {r : List RvT} {A : Option Addr} {c q : Nat} {p1 p2 p3 p4 p5 p6 p7 : Nat} {w0 : World} (hR : K.Rd w0 A 4 eR r) (hT : Tab w0) (g : Good r) : ∀ f, Go66 r A c q p1 p2 p3 p4 p5 p6 p7 f w0
  | 0 => fun h1 h2 h3 h4 h5 h6 h7 => c66_0 hR hT g h1 h2 h3 h4 h5 h6 h7
  | f + 1 => fun h1 h2 h3 h4 h5 h6 h7 => c66_s hR hT g (c66 hR hT g f) h1 h2 h3 h4 h5 h6 h7


set_option maxRecDepth 100000 in
theorem e30 {r : List RvT} {A : Option Addr} {c : Nat} {w : World} (hR : K.Rd w A 4 eR r) (hn : r.length ≤ 4611686018427387904) (hc : (chk r).2.2 ≠ 0) :
    Calls Tryz.prog 34 [.slice A r.length c].toArray w (K.RetSE 3 1 K.eI (prfL r) (chk r).2.2 w) := by
  refine K.enter (args := [.slice A r.length c]) Tryz.func34 rfl (n := 25) rfl ?_
  simp only [List.replicate, List.cons_append, List.nil_append]
  refine sr ?_
  refine K.seq_new (K.box) rfl ?_
  intro b1
  refine zN ?_
  iterate 2 refine qa ?_
  refine sn ?_
  refine sr ?_
  refine K.seq_sil (K.load1_own one_22 rfl (K.m0) rfl) rfl ?_
  refine zN ?_
  refine K.seq_call (K.call_g cal_36 (fun F w hF hw => e52 (hR.pass hw) hn hc)) rfl ?_
  refine zN ?_
  refine qm ?_
  refine qx ?_
  refine qx ?_
  refine K.seq_new (K.alloc zr_72) rfl ?_
  intro b4
  refine zN ?_
  refine K.seq_st (K.store sz_72 rfl rfl rfl rfl (K.rp0)) rfl ?_
  refine zN ?_
  refine qa ?_
  refine sn ?_
  refine K.seq ?_
  refine sr ?_
  refine qm ?_
  refine qp (K.neq rfl rfl) ?_
  refine sn ?_
  refine K.cond_true (by exact congrArg Value.bool (decide_eq_true hc)) ?_
  refine sr ?_
  refine qm ?_
  iterate 2 refine qa ?_
  refine sn ?_
  refine K.ret ?_
  refine K.ret_then ?_
  refine K.end_ret (fun w _ => K.res_tmp2 rfl w) ?_
  exact K.rets_se0 (by unfold prfL; rw [if_pos hc]) rfl rfl

set_option maxRecDepth 100000 in
theorem g30 {r : List RvT} {A : Option Addr} {c : Nat} {w : World} (hR : K.Rd w A 4 eR r) (hn : r.length ≤ 4611686018427387904) (hT : Tab w) (hc : (chk r).2.2 = 0) :
    Calls Tryz.prog 34 [.slice A r.length c].toArray w (K.RetSE 3 1 K.eI (prfL r) (chk r).2.2 w) := by
  have g : Good r := chk_good hc
  have hgn := g.n
  refine K.enter (args := [.slice A r.length c]) Tryz.func34 rfl (n := 25) rfl ?_
  simp only [List.replicate, List.cons_append, List.nil_append]
  refine sr ?_
  refine K.seq_new (K.box) rfl ?_
  intro b1
  refine zN ?_
  iterate 2 refine qa ?_
  refine sn ?_
  refine sr ?_
  refine K.seq_sil (K.load1_own one_22 rfl (K.m0) rfl) rfl ?_
  refine zN ?_
  refine K.seq_loud (K.call_f cal_36 (fun F w hF hw => g52 (hR.pass hw) hn hc)) rfl ?_
  rintro q _
  refine zN ?_
  refine qm ?_
  refine qx ?_
  refine qx ?_
  refine K.seq_new (K.alloc zr_72) rfl ?_
  intro b4
  refine zN ?_
  refine K.seq_st (K.store sz_72 rfl rfl rfl rfl (K.rp0)) rfl ?_
  refine zN ?_
  refine qa ?_
  refine sn ?_
  refine K.seq ?_
  refine sr ?_
  refine qm ?_
  refine qp (K.neq rfl rfl) ?_
  refine sn ?_
  refine K.cond_false (by rfl) ?_
  refine K.skip ?_
  refine K.norm_then ?_
  refine sr ?_
  refine K.seq_new (K.alloc zr_28) rfl ?_
  intro b6
  refine zN ?_
  refine sn ?_
  refine sr ?_
  refine K.seq_sil (K.load1_own one_22 rfl (K.m3) rfl) rfl ?_
  refine zN ?_
  refine qp (K.len_sl sl_22 rfl) ?_
  refine qp (K.add_i64 rfl rfl (by omega)) ?_
  refine K.seq_new (K.alloc zr_3) rfl ?_
  intro b7
  refine zN ?_
  refine K.seq_st (K.store sz_3 rfl rfl rfl rfl (K.rp0)) rfl ?_
  refine zN ?_
  refine sn ?_
  refine sr ?_
  refine K.seq_new (K.alloc zr_28) rfl ?_
  intro b8
  refine zN ?_
  refine sn ?_
  refine sr ?_
  refine K.seq_new (K.alloc zr_28) rfl ?_
  intro b9
  refine zN ?_
  refine sn ?_
  refine sr ?_
  refine K.seq_new (K.alloc zr_131) rfl ?_
  intro b10
  refine zN ?_
  refine sn ?_
  refine sr ?_
  refine K.seq_pure (K.mkFunc) rfl ?_
  refine zN ?_
  refine K.seq_st (K.store sz_131 rfl rfl rfl rfl (K.rp0)) rfl ?_
  refine zN ?_
  refine sn ?_
  refine sr ?_
  refine K.nil_row (e := 3) (size := 1) ?_
  refine K.nil_row (e := 3) (size := 1) ?_
  refine K.nil_row (e := 3) (size := 1) ?_
  refine K.permH (L' := [_, _, _, _, _, _, _, _, _, _, _]) (List.Perm.trans (List.perm_middle (l₁ := [_, _, _, _, _])) (List.Perm.cons _ (List.Perm.cons _ (List.Perm.trans (List.perm_middle (l₁ := [_, _, _, _])) (List.Perm.cons _ (List.Perm.trans (List.perm_middle (l₁ := [_, _, _])) (List.Perm.cons _ (List.Perm.cons _ (List.Perm.trans (List.perm_middle (l₁ := [_, _])) (List.Perm.cons _ (List.Perm.cons _ (List.Perm.trans (List.perm_middle (l₁ := [_, _, _])) (List.Perm.cons _ (List.Perm.trans (List.perm_middle (l₁ := [_])) (List.Perm.cons _ (List.Perm.refl _)))))))))))))))) ?_
  refine K.seq_sil (K.load1_own one_131 rfl (K.m9) rfl) rfl ?_
  refine zN ?_
  refine K.seq_upd (K.callU (first := []) (cap := [.pointer (some ⟨b8, 0, none⟩), .pointer (some ⟨b7, 0, none⟩), .pointer (some ⟨b1, 0, none⟩), .pointer (some ⟨b9, 0, none⟩), .pointer (some ⟨b6, 0, none⟩), .pointer (some ⟨b4, 0, none⟩), .pointer (some ⟨b10, 0, none⟩)]) rfl cal_66 (fun w hw => c66 (r := r) (A := A) (c := c) (q := q) (p1 := b8) (p2 := b7) (p3 := b1) (p4 := b9) (p5 := b6) (p6 := b4) (p7 := b10) hR hT g r.length (cs := []) (l := []) (best := []) (i := 0) (T := []) hw rfl rfl rfl rfl CsOk.nil rfl)) rfl ?_
  rintro ⟨⟨Q1, c1⟩, ⟨Q4, c4⟩, Q5, c5⟩ _
  refine zN ?_
  refine sn ?_
  refine sr ?_
  refine K.seq_sil (K.load1_own one_28 rfl (K.m5) rfl) rfl ?_
  refine zN ?_
  iterate 2 refine qa ?_
  refine sn ?_
  refine K.ret ?_
  refine K.end_ret (fun w _ => K.res_tmp2 rfl w) ?_
  have hl : prfL r = (prfS r).1 := by unfold prfL; rw [if_neg (by omega)]
  rw [hl, hc]
  exact K.rets_se K.m6 rfl rfl rfl rfl

theorem c30 {r : List RvT} {A : Option Addr} {c : Nat} {w : World} (hR : K.Rd w A 4 eR r) (hn : r.length ≤ 4611686018427387904) (hT : Tab w) : Calls Tryz.prog 34 [.slice A r.length c].toArray w (K.RetSE 3 1 K.eI (prfL r) (chk r).2.2 w) := by
  by_cases hc : (chk r).2.2 = 0
  · exact g30 hR hn hT hc
  · exact e30 hR hn hc


end Go.Proofs.YtekkpcpbnonkaaaGreatDoor.Rv
end
section
set_option linter.unusedSimpArgs false
set_option linter.unusedVariables false
namespace Go.Proofs.YtekkpcpbnonkaaaGreatDoor.Rv
open Go.RowKit Go
open Go.K (setd setn ev nth over cl eI eP eT setM setF)
attribute [local irreducible] K.blk K.row
open Go.Shelf in
def lays189_ren : Go.Shelf.Ren := ⟨fun | 189 => 40 | 125 => 78 | 257 => 77 | 128 => 108 | 129 => 109 | 294 => 99 | 295 => 100 | 296 => 101 | 297 => 102 | 298 => 103 | 299 => 104 | 216 => 105 | 300 => 106 | 301 => 107 | 328 => 117 | 329 => 118 | 330 => 119 | 331 => 120 | 332 => 121 | 215 => 114 | 343 => 122 | n => n, fun | 28 => 28 | 3 => 3 | 46 => 126 | 0 => 0 | 51 => 154 | 53 => 156 | 4 => 4 | 183 => 160 | 182 => 159 | 131 => 139 | 5 => 5 | 9 => 9 | 218 => 165 | 222 => 169 | 228 => 173 | 229 => 144 | n => n, fun | n => n⟩
theorem lays189 : Go.Proofs.Lays.n189 Tryz.prog lays189_ren := {
  mixed := by kernel_rfl
  f125 := Tryz.func78.trans (congrArg some (by kernel_rfl))
  f128 := Tryz.func108.trans (congrArg some (by kernel_rfl))
  f129 := Tryz.func109.trans (congrArg some (by kernel_rfl))
  f189 := Tryz.func40.trans (congrArg some (by kernel_rfl))
  f215 := Tryz.func114.trans (congrArg some (by kernel_rfl))
  f216 := Tryz.func105.trans (congrArg some (by kernel_rfl))
  f257 := Tryz.func77.trans (congrArg some (by kernel_rfl))
  f294 := Tryz.func99.trans (congrArg some (by kernel_rfl))
  f295 := Tryz.func100.trans (congrArg some (by kernel_rfl))
  f296 := Tryz.func101.trans (congrArg some (by kernel_rfl))
  f297 := Tryz.func102.trans (congrArg some (by kernel_rfl))
  f298 := Tryz.func103.trans (congrArg some (by kernel_rfl))
  f299 := Tryz.func104.trans (congrArg some (by kernel_rfl))
  f300 := Tryz.func106.trans (congrArg some (by kernel_rfl))
  f301 := Tryz.func107.trans (congrArg some (by kernel_rfl))
  f328 := Tryz.func117.trans (congrArg some (by kernel_rfl))
  f329 := Tryz.func118.trans (congrArg some (by kernel_rfl))
  f330 := Tryz.func119.trans (congrArg some (by kernel_rfl))
  f331 := Tryz.func120.trans (congrArg some (by kernel_rfl))
  f332 := Tryz.func121.trans (congrArg some (by kernel_rfl))
  f343 := Tryz.func122.trans (congrArg some (by kernel_rfl))
  t0 := Tryz.underlying0
  a0 := Tryz.isAgg0
  z0 := Tryz.sizeOf0
  v0 := Tryz.zeroValue0
  t3 := Tryz.underlying3
  a3 := Tryz.isAgg3
  z3 := Tryz.sizeOf3
  v3 := Tryz.zeroValue3
  t4 := Tryz.underlying4
  a4 := Tryz.isAgg4
  z4 := Tryz.sizeOf4
  v4 := Tryz.zeroValue4
  t5 := Tryz.underlying5
  a5 := Tryz.isAgg5
  z5 := Tryz.sizeOf5
  v5 := Tryz.zeroValue5
  t9 := Tryz.underlying9
  a9 := Tryz.isAgg9
  z9 := Tryz.sizeOf9
  v9 := Tryz.zeroValue9
  t28 := Tryz.underlying28
  a28 := Tryz.isAgg28
  z28 := Tryz.sizeOf28
  v28 := Tryz.zeroValue28
  t46 := Tryz.underlying126
  a46 := Tryz.isAgg126
  z46 := Tryz.sizeOf126
  v46 := Tryz.zeroValue126
  t51 := Tryz.underlying154
  a51 := Tryz.isAgg154
  z51 := Tryz.sizeOf154
  v51 := Tryz.zeroValue154
  t53 := Tryz.underlying156
  a53 := Tryz.isAgg156
  z53 := Tryz.sizeOf156
  v53 := Tryz.zeroValue156
  t131 := Tryz.underlying139
  a131 := Tryz.isAgg139
  z131 := Tryz.sizeOf139
  v131 := Tryz.zeroValue139
  t182 := Tryz.underlying159
  a182 := Tryz.isAgg159
  z182 := Tryz.sizeOf159
  v182 := Tryz.zeroValue159
  t183 := Tryz.underlying160
  a183 := Tryz.isAgg160
  z183 := Tryz.sizeOf160
  v183 := Tryz.zeroValue160
  t218 := Tryz.underlying165
  a218 := Tryz.isAgg165
  z218 := Tryz.sizeOf165
  v218 := Tryz.zeroValue165
  t222 := Tryz.underlying169
  a222 := Tryz.isAgg169
  z222 := Tryz.sizeOf169
  v222 := Tryz.zeroValue169
  t228 := Tryz.underlying173
  a228 := Tryz.isAgg173
  z228 := Tryz.sizeOf173
  v228 := Tryz.zeroValue173
  t229 := Tryz.underlying144
  a229 := Tryz.isAgg144
  z229 := Tryz.sizeOf144
  v229 := Tryz.zeroValue144 }
theorem eI_map {xs : List Int} : xs.flatMap K.eI = xs.map (Value.int .i64) := by
  induction xs with
  | nil => rfl
  | cons x xs ih => rw [List.flatMap_cons, List.map_cons, ih]; rfl
theorem c75 {gb n cp : Nat} {xs : List Int} {T : List K.Chunk} {w0 w : World} (hst : K.St w0 (K.row (.slice (some ⟨gb, 0, none⟩) n cp) 3 1 n (xs.flatMap K.eI) :: T) w) (hn : xs.length = n) (hs : n ≤ 1000) :
    Calls Tryz.prog 40 [.slice (some ⟨gb, 0, none⟩) n cp].toArray w (K.RetU (fun _ : Unit => True) (fun _ => .tuple #[]) w0 (fun _ => K.row (.slice (some ⟨gb, 0, none⟩) n cp) 3 1 n ((sortS xs).flatMap K.eI) :: T)) := by
  subst hn
  have ho : w.ownsRow 0 3 1 (.slice (some ⟨gb, 0, none⟩) xs.length cp) xs.length (xs.flatMap K.eI) := K.row_holds.1 (hst.2.1 _ (List.Mem.head _)).1
  rcases ho.2 with ⟨h, _⟩ | ⟨g', cap, cur, hv, hb0, hb, h2, h3, h4, h5⟩
  · cases h
  injection hv with e1 _ e3
  have e1' : gb = g' := by injection e1 with e1; injection e1
  subst e1' e3
  rw [eI_map, Nat.mul_one] at h5
  have hc := Go.Proofs.Any.slices_Sort_int lays189 gb 0 cp xs w (holds_of_blockI hb h5) (Array.getElem?_eq_some_iff.1 hb).1 (by omega)
  refine Calls.mono hc ?_
  rintro e w' ⟨rfl, nn, os, rfl⟩
  refine ⟨(), trivial, rfl, hst.upd (row := some gb) K.rp0 (grownBy_sortedI _) (fun k hk => K.row_foot.2 hk) ?_ (fun k hk => .inl (K.row_foot.2 (K.row_foot.1 hk)))⟩
  have := ownsRow_sortedI (n := nn) (os := os) (base := 0) (ss := xs) (ts := sortS xs) sort_perm.length_eq hb0 hb h2 h3 h4
  rw [eI_map]
  exact K.row_holds.2 this

set_option maxRecDepth 100000 in
theorem c74 {p : RvT} {w : World} :
    Calls Tryz.prog 39 [.agg (eR p).toArray].toArray w (K.Gives (.bool (decide (p.dn = -1))) w) := by
  refine K.enter (args := [.agg (eR p).toArray]) Tryz.func39 rfl (n := 5) rfl ?_
  simp only [List.replicate, List.cons_append, List.nil_append]
  refine sr ?_
  refine K.seq_new (K.box) rfl ?_
  intro b1
  refine zN ?_
  refine qa ?_
  refine sn ?_
  refine sr ?_
  refine qp (K.fieldAddr_lit fo_34_1 rfl) ?_
  refine K.seq_sil (K.load1_own one_3 rfl (K.m0) rfl) rfl ?_
  refine zN ?_
  refine qp (K.eql rfl rfl) ?_
  refine qa ?_
  refine sn ?_
  refine K.ret ?_
  refine K.end_ret (fun w _ => K.res_tmp rfl w) ?_
  exact K.gives rfl

set_option maxRecDepth 100000 in
theorem c73 {A : Option Addr} {c f : Nat} {cap : List Value} {xs : List RvT} {p : RvT → Bool} {w : World} (hR : K.Rd w A 4 eR xs) (hn : xs.length ≤ 4611686018427387904) (hcal : K.callable Tryz.prog f = true) (hf : ∀ x ∈ xs, ∀ w1, Below w.heap.size w w1 → Calls Tryz.prog f ([Value.agg (eR x).toArray] ++ cap).toArray w1 (K.Gives (.bool (p x)) w1)) :
    Calls Tryz.prog 38 [.slice A xs.length c, .func (.func f) #[] cap.toArray].toArray w (K.Gives (.int .i64 (K.idx p xs)) w) := by
  refine K.enter (args := [.slice A xs.length c, .func (.func f) #[] cap.toArray]) Tryz.func38 rfl (n := 17) rfl ?_
  simp only [List.replicate, List.cons_append, List.nil_append]
  refine sr ?_
  refine qa ?_
  refine sn ?_
  refine K.seq ?_
  refine sr ?_
  refine qm ?_
  refine qp (K.len_sl sl_22 rfl) ?_
  refine qm ?_
  refine sn ?_
  refine K.block ?_
  refine K.loopW [8] [4, 5, 9, 10, 11, 12, 13, 14, 15, 16, 17, 18] (fun vi L => ∃ k : Nat, vi = [.int .i64 (k : Int)] ∧ L = [] ∧ k ≤ xs.length ∧ ∀ j, j < k → p (xs.getD j default) = false) (fun vi => xs.length - (intOf (K.nth vi 0)).toNat) ?_ ?_
  · exact ⟨0, rfl, rfl, Nat.zero_le _, fun j hj => absurd hj (Nat.not_lt_zero j)⟩
  intro vi vr L hJ
  obtain ⟨k, rfl, rfl, hkn, hall⟩ := hJ
  try dsimp only [setd, setn, ev, nth, over, cl, eI, eP, eT, eR, setM, setF, List.map, List.append, List.drop, List.take]
  refine sr ?_
  refine qp (K.lss rfl rfl) ?_
  refine sn ?_
  refine K.seq ?_
  refine K.cond rfl (fun ht9 => ?_) (fun ht9 => ?_)
  · try replace ht9 := of_decide_eq_true ht9
    have hk : k < xs.length := by omega
    refine K.skip ?_
    refine K.norm_then ?_
    refine K.seq ?_
    refine K.block ?_
    refine sr ?_
    refine qm ?_
    refine qa ?_
    refine sn ?_
    refine sr ?_
    iterate 3 refine qm ?_
    refine K.seq_ix (M := []) _ hR.sl sl_22 rfl rfl rfl (by omega) rfl ?_
    intro p14 hp14
    refine zN ?_
    refine K.seq_sil (K.loadA_p ag_34 rfl (hp14.any) rfl) rfl ?_
    refine zN ?_
    refine K.seq_call (K.callv_g (first := []) (cap := cap) rfl hcal (fun F w1 _ hw => hf _ (K.gt_mem hk) w1 hw.1)) rfl ?_
    refine zN ?_
    refine sn ?_
    refine K.cond rfl (fun ht16 => ?_) (fun ht16 => ?_)
    · try replace ht16 := of_decide_eq_true ht16
      refine sr ?_
      refine qm ?_
      refine qa ?_
      refine sn ?_
      refine K.ret ?_
      refine K.ret_block ?_
      refine K.ret_then ?_
      refine K.ret_then ?_
      refine K.ret_block ?_
      refine K.ret_then ?_
      refine K.end_ret (fun w _ => K.res_tmp rfl w) ?_
      exact K.gives_i rfl (K.idx_found hk hall ht16).symm
    try replace ht16 := of_decide_eq_false ht16
    refine K.skip ?_
    refine K.norm_block ?_
    refine K.norm_then ?_
    refine K.region_lit ?_
    refine qp (K.add_i64 rfl rfl (by omega)) ?_
    refine qm ?_
    refine K.seq_nil ?_
    exact K.round_endW [.int .i64 ((k : Int) + 1)] ⟨k + 1, rfl, rfl, by omega, K.lt_succ_case hall ht16⟩ (by simp [K.nth, intOf]; omega) (List.Sublist.refl _) (by kernel_rfl)
  try replace ht9 := of_decide_eq_false ht9
  refine K.exit ?_
  refine K.exit_then ?_
  refine K.exit_then ?_
  refine K.exit_here ?_
  refine K.norm_then ?_
  refine sr ?_
  refine qa ?_
  refine sn ?_
  refine K.ret ?_
  refine K.end_ret (fun w _ => K.res_tmp rfl w) ?_
  exact K.gives_i rfl (K.idx_none (fun j hj => hall j (by omega))).symm

end Go.Proofs.YtekkpcpbnonkaaaGreatDoor.Rv
end
