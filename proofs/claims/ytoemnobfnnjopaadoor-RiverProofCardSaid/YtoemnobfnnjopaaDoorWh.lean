/-
  Walks of the program's functions, printed by program: what each returns.
  Conditions stand in each theorem.
-/
import Derived.WalkArith
import Derived.Laws.Closers25b
import Derived.Test.YtoemnobfnnjopaaDoorWe
import Derived.Test.YtoemnobfnnjopaaDoorWg
set_option linter.unusedSimpArgs false
set_option linter.unusedVariables false
namespace Go.Proofs.YtoemnobfnnjopaaDoor
open Go.RowKit Go
open Go.K (setd setn ev nth over cl eI eP eT setM setF)
attribute [local irreducible] K.blk K.row
theorem bl79 {A : Option Addr} {n c : Nat} (S : Value) (h : S = .slice A n c) : K.Bl Tryd.prog 79 [(0, S)] (.agg (S :: dcell (fun _ _ => 0)).toArray) := fun w => by subst h; kernel_rfl

set_option maxRecDepth 100000 in
theorem c54 {r : List RvT} {A : Option Addr} {c : Nat} {b i : Nat} {w : World} (hX : K.PtrL w [] ⟨b, 0, none⟩ (.slice A r.length c :: dcell (drT r))) (hXb : b < w.heap.size) (hR : K.Rd w A 4 eR r) (hi : i < r.length) :
    Calls Tryd.prog 54 [.pointer (some ⟨b, 0, none⟩), .int .i64 (i : Int)].toArray w (K.Gives (.int .i64 (r.getD i default).ht) w) := by
  refine K.enter (args := [.pointer (some ⟨b, 0, none⟩), .int .i64 (i : Int)]) Tryd.func54 rfl (n := 11) rfl ?_
  simp only [List.replicate, List.cons_append, List.nil_append]
  refine sr ?_
  refine qa ?_
  refine sn ?_
  refine sr ?_
  refine qm ?_
  refine qp (K.nilCheck rfl) ?_
  refine qp (K.fieldAddr_lit fo_79_0 rfl) ?_
  refine K.seq_sil (K.load_at one_75 rfl (hX.any) rfl) rfl ?_
  refine zN ?_
  refine qm ?_
  refine K.seq_ix (M := []) _ hR.sl sl_75 rfl rfl rfl (by omega) rfl ?_
  intro p10 hp10
  refine zN ?_
  refine qp (K.fieldAddr fo_44_3 rfl) ?_
  refine K.seq_sil (K.load1 one_3 rfl ((K.PtrL.fld hp10 (k := 3)).any)) rfl ?_
  refine zN ?_
  refine qa ?_
  refine sn ?_
  refine K.ret ?_
  refine K.end_ret (fun w _ => K.res_tmp rfl w) ?_
  exact K.gives rfl

set_option maxRecDepth 100000 in
theorem c53 {r : List RvT} {A : Option Addr} {c : Nat} {b i : Nat} {w : World} (hX : K.PtrL w [] ⟨b, 0, none⟩ (.slice A r.length c :: dcell (drT r))) (hXb : b < w.heap.size) (hR : K.Rd w A 4 eR r) (g : Good r) (hi : i < r.length) :
    Calls Tryd.prog 53 [.pointer (some ⟨b, 0, none⟩), .int .i64 (i : Int), .func (.func 54) #[.pointer (some ⟨b, 0, none⟩)] #[]].toArray w (K.Gives (.bool (!badB r (ownS r) i)) w) := by
  have hpi := g.p i hi
  have hgn := g.n
  refine K.enter (args := [.pointer (some ⟨b, 0, none⟩), .int .i64 (i : Int), .func (.func 54) #[.pointer (some ⟨b, 0, none⟩)] #[]]) Tryd.func53 rfl (n := 28) rfl ?_
  simp only [List.replicate, List.cons_append, List.nil_append]
  refine sr ?_
  refine qa ?_
  refine sn ?_
  refine sr ?_
  refine qm ?_
  refine qp (K.nilCheck rfl) ?_
  refine qp (K.fieldAddr_lit fo_79_0 rfl) ?_
  refine K.seq_sil (K.load_at one_75 rfl (hX.any) rfl) rfl ?_
  refine zN ?_
  refine qm ?_
  refine K.seq_ix (M := []) _ hR.sl sl_75 rfl rfl rfl (by omega) rfl ?_
  intro p13 hp13
  refine zN ?_
  refine K.seq_sil (K.loadA_p ag_44 rfl (hp13.any) rfl) rfl ?_
  refine zN ?_
  refine K.seq_new (K.alloc zr_44) rfl ?_
  intro b7
  refine zN ?_
  refine K.seq_st (K.store_all sz_44 rfl rfl rfl rfl (K.rp0)) rfl ?_
  refine zN ?_
  refine sn ?_
  refine K.seq ?_
  refine K.draw_L [] Tryd_mixed ?_
  refine K.d_pure 0 rfl (K.fieldAddr_lit fo_44_1 rfl) (by kernel_rfl) rfl ?_
  refine zn ?_
  refine K.d_mem 1 rfl (K.load1_own one_3 rfl (K.m0) rfl) (fun _ h => h) (by kernel_rfl) (by kernel_rfl) rfl ?_
  refine zN ?_
  refine K.d_pure 2 rfl (K.eql rfl rfl) (by kernel_rfl) rfl ?_
  refine zn ?_
  refine K.d_pure 3 rfl (K.move) (by kernel_rfl) rfl ?_
  refine zn ?_
  refine K.dsplit 18 rfl (fun hg18 => ?_) (fun hg18 => ?_)
  · try replace hg18 := of_decide_eq_true hg18
    refine K.d_skip 4 rfl (by kernel_rfl) rfl ?_
    refine zN ?_
    refine K.d_skip 5 rfl (by kernel_rfl) rfl ?_
    refine zN ?_
    refine K.d_skip 6 rfl (by kernel_rfl) rfl ?_
    refine zN ?_
    refine K.d_skip 7 rfl (by kernel_rfl) rfl ?_
    refine zN ?_
    refine K.d_skip 8 rfl (by kernel_rfl) rfl ?_
    refine zN ?_
    refine K.d_skip 9 rfl (by kernel_rfl) rfl ?_
    refine zN ?_
    refine K.d_skip 10 rfl (by kernel_rfl) rfl ?_
    refine zN ?_
    refine K.d_skip 11 rfl (by kernel_rfl) rfl ?_
    refine zN ?_
    refine K.d_skip 12 rfl (by kernel_rfl) rfl ?_
    refine zN ?_
    refine K.d_skip 13 rfl (by kernel_rfl) rfl ?_
    refine zN ?_
    refine K.d_skip 14 rfl (by kernel_rfl) rfl ?_
    refine zN ?_
    refine K.d_pure 15 rfl (K.pick_t rfl) (by kernel_rfl) rfl ?_
    refine zn ?_
    refine K.d_pure 16 rfl (K.assign) (by kernel_rfl) rfl ?_
    refine zn ?_
    refine K.d_done (by kernel_rfl) ?_
    refine K.norm_then ?_
    refine K.ret ?_
    refine K.end_ret (fun w _ => K.res_tmp rfl w) ?_
    have hb : badB r (ownS r) i = false := bad_no.2 (.inl hg18)
    exact K.gives_b rfl (by rw [hb]; rfl)
  try replace hg18 := of_decide_eq_false hg18
  have hd : (r.getD i default).dn ≠ -1 := hg18
  have hdl := dn_lt g hi hd
  have hdv : (((r.getD i default).dn.toNat : Nat) : Int) = (r.getD i default).dn := by omega
  have hpd := g.p _ hdl
  refine K.d_pure 4 rfl (K.move) (by kernel_rfl) rfl ?_
  refine zn ?_
  refine K.d_pure 5 rfl (K.move) (by kernel_rfl) rfl ?_
  refine zn ?_
  refine K.d_pure 7 rfl (K.move) (by kernel_rfl) rfl ?_
  refine zn ?_
  refine K.d_pure 8 rfl (K.fieldAddr_lit fo_44_1 rfl) (by kernel_rfl) rfl ?_
  refine zn ?_
  refine K.d_mem 9 rfl (K.load1_own one_3 rfl (K.m0) rfl) (fun _ h => h) (by kernel_rfl) (by kernel_rfl) rfl ?_
  refine zN ?_
  refine K.d_pure 11 rfl (K.fieldAddr_lit fo_44_2 rfl) (by kernel_rfl) rfl ?_
  refine zn ?_
  refine K.d_mem 12 rfl (K.load1_own one_3 rfl (K.m0) rfl) (fun _ h => h) (by kernel_rfl) (by kernel_rfl) rfl ?_
  refine zN ?_
  refine K.d_call 6 rfl (K.callv_g (first := [.pointer (some ⟨b, 0, none⟩)]) (cap := []) rfl cal_54 (fun F w hF hw => c54 (hX.into hXb hw) (K.lt_into hXb hw) (hR.pass hw) hi)) (fun _ h => h) (by kernel_rfl) rfl ?_
  refine zN ?_
  refine K.d_call 10 rfl (K.callv_g (first := [.pointer (some ⟨b, 0, none⟩)]) (cap := []) rfl cal_54 (fun F w hF hw => (by have hg := c54 (i := (r.getD i default).dn.toNat) (hX.into hXb hw) (K.lt_into hXb hw) (hR.pass hw) hdl; rw [hdv] at hg; exact hg))) (fun _ h => h) (by kernel_rfl) rfl ?_
  refine zN ?_
  refine K.d_pure 13 rfl (K.add_i64 rfl rfl (by omega)) (by kernel_rfl) rfl ?_
  refine zn ?_
  refine K.d_pure 14 rfl (K.geq rfl rfl) (by kernel_rfl) rfl ?_
  refine zn ?_
  refine K.d_pure 15 rfl (K.pick_f rfl) (by kernel_rfl) rfl ?_
  refine zn ?_
  refine K.d_pure 16 rfl (K.assign) (by kernel_rfl) rfl ?_
  refine zn ?_
  refine K.d_done (by kernel_rfl) ?_
  refine K.norm_then ?_
  refine K.ret ?_
  refine K.end_ret (fun w _ => K.res_tmp rfl w) ?_
  exact K.gives_b rfl (by rw [Bool.eq_iff_iff, decide_eq_true_eq, Bool.not_eq_true', bad_no, own_at hi, own_at hdl]; exact ⟨fun h => .inr (by omega), fun h => by rcases h with h | h <;> omega⟩)

set_option maxRecDepth 100000 in
theorem e52 {r : List RvT} {A : Option Addr} {c : Nat} {w : World} (hR : K.Rd w A 4 eR r) (hn : r.length ≤ 4611686018427387904) (hc : (chk r).2.2 ≠ 0) :
    Calls Tryd.prog 52 [.slice A r.length c].toArray w (K.Gives (.tuple #[.pointer none, .int .i64 (chk r).2.2]) w) := by
  refine R.enter (args := [.slice A r.length c]) Tryd.func52 rfl (m := 55) rfl ?_
  simp only [List.replicate, List.cons_append, List.nil_append]
  refine R.seq ?_
  refine R.region_lit rfl ?_
  refine K.seq_new (K.alloc zr_65) rfl ?_
  intro b2
  refine zN ?_
  refine qa ?_
  refine K.seq_nil ?_
  refine R.out ?_
  refine R.norm_then ?_
  refine R.seq ?_
  refine R.seq ?_
  refine R.region_lit rfl ?_
  refine qm ?_
  refine K.seq_call (K.call_g cal_14 (fun F w hF hw => c14 (hR.pass hw) hn)) rfl ?_
  refine zN ?_
  refine qm ?_
  refine qx ?_
  refine qx ?_
  refine qx ?_
  refine qa ?_
  refine K.seq_nil ?_
  refine R.out ?_
  refine R.norm_then ?_
  refine R.seq ?_
  refine R.region_lit rfl ?_
  refine qm ?_
  refine qp (K.neq rfl rfl) ?_
  refine K.seq_nil ?_
  refine R.out ?_
  refine R.norm_then ?_
  refine R.cond_true (by exact congrArg Value.bool (decide_eq_true hc)) ?_
  refine R.seq ?_
  refine R.region_lit rfl ?_
  refine qm ?_
  refine K.seq_st (K.store sz_65 rfl rfl rfl rfl (K.rp0)) rfl ?_
  refine zN ?_
  refine qa ?_
  refine K.seq_nil ?_
  refine R.out ?_
  refine R.norm_then ?_
  refine R.ret ?_
  refine R.ret_then ?_
  refine R.end_ret (fun w hw => K.res_ct rfl rfl (K.run_cell1 one_65 rfl (K.m0) w hw)) ?_
  exact K.gives rfl

set_option maxRecDepth 100000 in
set_option maxHeartbeats 1000000 in
theorem g52 {r : List RvT} {A : Option Addr} {c : Nat} {w : World} (hR : K.Rd w A 4 eR r) (hn : r.length ≤ 4611686018427387904) (hc : (chk r).2.2 = 0) :
    Calls Tryd.prog 52 [.slice A r.length c].toArray w (K.Ret (fun _ : Nat => True) (fun b => .tuple #[.pointer (some ⟨b, 0, none⟩), .int .i64 0]) (fun b => [K.blk b 79 (.slice A r.length c :: dcell (drT r))]) w) := by
  have g : Good r := chk_good hc
  have hgn := g.n
  refine R.enter (args := [.slice A r.length c]) Tryd.func52 rfl (m := 55) rfl ?_
  simp only [List.replicate, List.cons_append, List.nil_append]
  refine R.seq ?_
  refine R.region_lit rfl ?_
  refine K.seq_new (K.alloc zr_65) rfl ?_
  intro b2
  refine zN ?_
  refine qa ?_
  refine K.seq_nil ?_
  refine R.out ?_
  refine R.norm_then ?_
  refine R.seq ?_
  refine R.seq ?_
  refine R.region_lit rfl ?_
  refine qm ?_
  refine K.seq_call (K.call_g cal_14 (fun F w hF hw => c14 (hR.pass hw) hn)) rfl ?_
  refine zN ?_
  refine qm ?_
  refine qx ?_
  refine qx ?_
  refine qx ?_
  refine K.seq_pure (K.assign) rfl ?_
  refine zN ?_
  rw [hc]
  refine zN ?_
  refine K.seq_nil ?_
  refine R.out ?_
  refine R.norm_then ?_
  refine R.seq ?_
  refine R.region_lit rfl ?_
  refine qm ?_
  refine qp (K.neq rfl rfl) ?_
  refine K.seq_nil ?_
  refine R.out ?_
  refine R.norm_then ?_
  refine R.cond_false (by exact congrArg Value.bool (decide_eq_false (by omega))) ?_
  refine R.skip ?_
  refine R.norm_then ?_
  refine R.seq ?_
  refine R.region_lit rfl ?_
  refine qm ?_
  refine K.seq_pure (K.build (bl79 _ rfl)) rfl ?_
  refine zN ?_
  try dsimp only [List.toList_toArray]
  refine zN ?_
  refine K.seq_new (K.box) rfl ?_
  intro b19
  refine zN ?_
  refine K.seq_st (K.store sz_65 rfl rfl rfl rfl (K.rp1)) rfl ?_
  refine zN ?_
  refine K.seq_nil ?_
  refine R.out ?_
  refine R.norm_then ?_
  refine R.seq ?_
  refine R.seq ?_
  refine R.region_lit rfl ?_
  refine qm ?_
  refine qp (K.len_sl sl_22 rfl) ?_
  refine qm ?_
  refine K.seq_nil ?_
  refine R.out ?_
  refine R.norm_then ?_
  refine R.block ?_
  refine R.loopD [22] [4, 5, 6, 7, 23, 24, 25, 26, 27, 28, 29, 30, 31, 32, 33, 34, 35, 36, 37, 38, 39, 40, 41, 42, 43, 46, 47, 48, 49, 50, 51, 52, 53, 54] (fun vi L => ∃ i : Nat, vi = [.int .i64 (i : Int)] ∧ L = [K.blk b19 79 (.slice A r.length c :: dcell (dA r i 0)), K.blk b2 65 [.pointer (some ⟨b19, 0, none⟩)]] ∧ i ≤ r.length) (fun vi => r.length - (intOf (K.nth vi 0)).toNat) ?_ ?_
  · rw [← dA_0]
    exact ⟨0, rfl, rfl, Nat.zero_le _⟩
  intro vi vr L bs hJ
  obtain ⟨i, rfl, rfl, hin⟩ := hJ
  try dsimp only [List.cons_append, List.nil_append]
  try dsimp only [setd, setn, ev, nth, over, cl, eI, eP, eT, eR, setM, setF, List.map, List.append, List.drop, List.take]
  refine R.seq ?_
  refine R.region_lit rfl ?_
  refine qp (K.lss rfl rfl) ?_
  refine K.seq_nil ?_
  refine R.out ?_
  refine R.norm_then ?_
  refine R.seq ?_
  refine R.cond rfl (fun ht23 => ?_) (fun ht23 => ?_)
  · try replace ht23 := of_decide_eq_true ht23
    have hi : i < r.length := by omega
    refine R.skip ?_
    refine R.norm_then ?_
    refine R.seq ?_
    refine R.block ?_
    refine R.seq ?_
    refine R.region_lit rfl ?_
    refine qm ?_
    refine K.seq_new (K.alloc zr_3) rfl ?_
    intro b4
    refine zN ?_
    refine K.seq_st (K.store sz_3 rfl rfl rfl rfl (K.rp0)) rfl ?_
    refine zN ?_
    refine K.seq_nil ?_
    refine R.out ?_
    refine R.norm_then ?_
    refine R.seq ?_
    refine R.seq ?_
    refine R.region_lit rfl ?_
    refine qm ?_
    refine qp (K.len_sl sl_22 rfl) ?_
    refine qm ?_
    refine K.seq_nil ?_
    refine R.out ?_
    refine R.norm_then ?_
    refine R.block ?_
    refine R.loopW [27] [5, 28, 29, 30, 31, 32, 33, 34, 35, 36, 37] (fun vi L => ∃ k : Nat, vi = [.int .i64 (k : Int)] ∧ L = [K.blk b4 3 [.int .i64 (i : Int)], K.blk b19 79 (.slice A r.length c :: dcell (dA r i k)), K.blk b2 65 [.pointer (some ⟨b19, 0, none⟩)], R.dfs bs] ∧ k ≤ r.length) (fun vi => r.length - (intOf (K.nth vi 0)).toNat) ?_ ?_
    · exact ⟨0, rfl, rfl, Nat.zero_le _⟩
    intro vi vr L hJ
    obtain ⟨k, rfl, rfl, hkn⟩ := hJ
    try dsimp only [setd, setn, ev, nth, over, cl, eI, eP, eT, eR, setM, setF, List.map, List.append, List.drop, List.take]
    refine R.seq ?_
    refine R.region_lit rfl ?_
    refine qp (K.lss rfl rfl) ?_
    refine K.seq_nil ?_
    refine R.out ?_
    refine R.norm_then ?_
    refine R.seq ?_
    refine R.cond rfl (fun ht28 => ?_) (fun ht28 => ?_)
    · try replace ht28 := of_decide_eq_true ht28
      have hk : k < r.length := by omega
      refine R.skip ?_
      refine R.norm_then ?_
      refine R.seq ?_
      refine R.block ?_
      refine R.seq ?_
      refine R.region_lit rfl ?_
      refine qm ?_
      refine qa ?_
      refine K.seq_nil ?_
      refine R.out ?_
      refine R.norm_then ?_
      refine R.draw_L [7] Tryd_mixed rfl ?_
      refine K.d_mem 0 rfl (K.load1_own one_65 rfl (K.m2) rfl) (fun _ h => h) (by kernel_rfl) (by kernel_rfl) rfl ?_
      refine zN ?_
      refine K.d_mem 1 rfl (K.load1_own one_3 rfl (K.m0) rfl) (fun _ h => h) (by kernel_rfl) (by kernel_rfl) rfl ?_
      refine zN ?_
      refine K.d_pure 2 rfl (K.move) (by kernel_rfl) rfl ?_
      refine zn ?_
      refine K.d_pure 3 rfl (K.nilCheck rfl) (by kernel_rfl) rfl ?_
      refine zn ?_
      refine K.d_pure 4 rfl (K.fieldAddr_lit fo_79_1 rfl) (by kernel_rfl) rfl ?_
      refine zn ?_
      refine K.d_pure 5 rfl (K.indexAddr_ar ar_77 rfl rfl (by omega) (by omega)) (by kernel_rfl) rfl ?_
      refine zN ?_
      refine K.d_pure 6 rfl (K.indexAddr_ar ar_76 rfl rfl (by omega) (by omega)) (by kernel_rfl) rfl ?_
      refine zN ?_
      refine K.d_last 7 rfl (K.store_ix sz_3 rfl rfl (by simp only [List.length_cons, dcell_len]; omega) rfl (K.rp1)) rfl (by kernel_rfl) rfl ?_
      intro _ _
      refine zN ?_
      rw [Int.toNat_natCast i, Int.toNat_natCast k, dA_next (r := r) (i := i) (k := k) (by omega) (by omega)]
      refine zN ?_
      refine K.d_done (by kernel_rfl) ?_
      refine R.out ?_
      refine R.norm_block ?_
      refine R.norm_then ?_
      refine R.region_lit rfl ?_
      refine qp (K.add_i64 rfl rfl (by omega)) ?_
      refine qm ?_
      refine K.seq_nil ?_
      refine R.out ?_
      exact R.round_endW (L'' := [K.blk b4 3 [.int .i64 (i : Int)], K.blk b19 79 (.slice A r.length c :: dcell (dA r i (k + 1))), K.blk b2 65 [.pointer (some ⟨b19, 0, none⟩)], R.dfs bs]) [.int .i64 ((k : Int) + 1)] ⟨k + 1, rfl, rfl, by omega⟩ (by simp [K.nth, intOf]; omega) (by repeat (first | exact List.Sublist.refl _ | apply List.Sublist.cons)) (by kernel_rfl)
    try replace ht28 := of_decide_eq_false ht28
    have hkr : k = r.length := by omega
    subst hkr
    rw [dB_0]
    refine R.exit ?_
    refine R.exit_then ?_
    refine R.exit_then ?_
    refine R.exit_here ?_
    refine R.norm_then ?_
    refine R.seq ?_
    refine R.draw_L [] Tryd_mixed rfl ?_
    refine K.d_mem 0 rfl (K.load1_own one_65 rfl (K.m2) rfl) (fun _ h => h) (by kernel_rfl) (by kernel_rfl) rfl ?_
    refine zN ?_
    refine K.d_pure 1 rfl (K.nilCheck rfl) (by kernel_rfl) rfl ?_
    refine zn ?_
    refine K.d_pure 2 rfl (K.fieldAddr_lit fo_79_0 rfl) (by kernel_rfl) rfl ?_
    refine zn ?_
    refine K.d_mem 3 rfl (K.load1_own one_75 rfl (K.m1) rfl) (fun _ h => h) (by kernel_rfl) (by kernel_rfl) rfl ?_
    refine zN ?_
    refine K.d_mem 4 rfl (K.load1_own one_3 rfl (K.m0) rfl) (fun _ h => h) (by kernel_rfl) (by kernel_rfl) rfl ?_
    refine zN ?_
    refine K.d_loud 5 rfl (K.call_f cal_57 (fun F w hF hw => c57 w)) (fun _ h => h) (by kernel_rfl) rfl ?_
    rintro ⟨q1, q2⟩ _
    refine zN ?_
    refine K.d_done (by kernel_rfl) ?_
    refine R.out ?_
    refine R.norm_then ?_
    refine R.block ?_
    refine R.rangeX (gf := 84) (first := []) (cap := [.pointer (some ⟨q2, 0, none⟩), .pointer (some ⟨q1, 0, none⟩)]) (enc := (fun s : Int × Int => [Value.int .i64 s.1, Value.int .i64 s.2])) (XS := belS r i) (ps := [44, 45]) rfl cal_84 [K.blk b4 3 [.int .i64 (i : Int)], K.blk b19 79 (.slice A r.length c :: dcell (dB r i 0)), K.blk b2 65 [.pointer (some ⟨b19, 0, none⟩)], R.dfs bs] [K.blk q1 75 [.slice A r.length c]] (K.st_perm (show List.Perm [K.blk q2 3 [.int .i64 (i : Int)], K.blk q1 75 [.slice A r.length c], K.blk b4 3 [.int .i64 (i : Int)], K.blk b19 79 (.slice A r.length c :: dcell (dB r i 0)), K.blk b2 65 [.pointer (some ⟨b19, 0, none⟩)], R.dfs bs] ([K.blk b4 3 [.int .i64 (i : Int)], K.blk b19 79 (.slice A r.length c :: dcell (dB r i 0)), K.blk b2 65 [.pointer (some ⟨b19, 0, none⟩)], R.dfs bs] ++ ([K.blk q1 75 [.slice A r.length c]] ++ [K.blk q2 3 [.int .i64 (i : Int)]])) from (List.Perm.trans (List.perm_middle (l₁ := [_, _])) (List.Perm.cons _ (List.Perm.trans (List.perm_middle (l₁ := [_, _])) (List.Perm.cons _ (List.Perm.trans (List.perm_middle (l₁ := [_, _])) (List.Perm.cons _ (List.Perm.trans (List.perm_middle (l₁ := [_, _])) (List.Perm.cons _ (List.Perm.trans (List.perm_middle (l₁ := [_])) (List.Perm.cons _ (List.Perm.refl _))))))))))))) (R.fixC R.fixN) (fun _ => rfl) (c84 (c := c) (A := A) (p := ⟨q1, 0, none⟩) (b := q2) g hi) (fun f w hf hb => ⟨hb, hf.own1 K.m0, hf.oldR hR⟩) (fun k L => L = [K.blk b4 3 [.int .i64 (i : Int)], K.blk b19 79 (.slice A r.length c :: dcell (dB r i k)), K.blk b2 65 [.pointer (some ⟨b19, 0, none⟩)], R.dfs bs]) (fun cX L => False) ?_ ?_ ?_ ?_
    · rfl
    · intro k s L lr E hs hE hJ
      subst hJ
      obtain ⟨hkd, rfl⟩ := bel_some hs
      have hsl := stps_lt g hi k
      dsimp only [R.setP]
      try dsimp only [List.cons_append, List.nil_append]
      try dsimp only [setd, setn, ev, nth, over, cl, eI, eP, eT, eR, setM, setF, List.map, List.append, List.drop, List.take]
      refine R.seq ?_
      refine R.region_lit rfl ?_
      refine qa ?_
      refine K.seq_nil ?_
      refine R.out ?_
      refine R.norm_then ?_
      refine R.region_lit rfl ?_
      refine qa ?_
      refine K.seq_nil ?_
      refine R.out ?_
      refine R.norm_then ?_
      refine R.bodyC' rfl (fun E hE => ?_)
      dsimp only [List.dropLast, List.cons_append, List.nil_append]
      refine zN ?_
      refine R.block ?_
      refine R.draw_L [8] Tryd_mixed rfl ?_
      refine K.d_mem 0 rfl (K.load1_own one_65 rfl (K.m2) rfl) (fun _ h => h) (by kernel_rfl) (by kernel_rfl) rfl ?_
      refine zN ?_
      refine K.d_mem 1 rfl (K.load1_own one_3 rfl (K.m0) rfl) (fun _ h => h) (by kernel_rfl) (by kernel_rfl) rfl ?_
      refine zN ?_
      refine K.d_pure 2 rfl (K.move) (by kernel_rfl) rfl ?_
      refine zn ?_
      refine K.d_pure 3 rfl (K.move) (by kernel_rfl) rfl ?_
      refine zn ?_
      refine K.d_pure 4 rfl (K.nilCheck rfl) (by kernel_rfl) rfl ?_
      refine zn ?_
      refine K.d_pure 5 rfl (K.fieldAddr_lit fo_79_1 rfl) (by kernel_rfl) rfl ?_
      refine zn ?_
      refine K.d_pure 6 rfl (K.indexAddr_ar ar_77 rfl rfl (by omega) (by omega)) (by kernel_rfl) rfl ?_
      refine zN ?_
      refine K.d_pure 7 rfl (K.indexAddr_ar ar_76 rfl rfl (by omega) (by omega)) (by kernel_rfl) rfl ?_
      refine zN ?_
      refine K.d_last 8 rfl (K.store_ix sz_3 rfl rfl (by simp only [List.length_cons, dcell_len]; omega) rfl (K.rp1)) rfl (by kernel_rfl) rfl ?_
      intro _ _
      refine zN ?_
      rw [Int.toNat_natCast i, Int.toNat_natCast (stps r k i), dB_next (r := r) (i := i) (m := k) g hi hkd]
      refine zN ?_
      refine K.d_done (by kernel_rfl) ?_
      refine R.out ?_
      refine R.norm_block ?_
      exact R.rp_normal (L := [K.blk b4 3 [.int .i64 (i : Int)], K.blk b19 79 (.slice A r.length c :: dcell (dB r i (k + 1))), K.blk b2 65 [.pointer (some ⟨b19, 0, none⟩)], R.dfs bs]) rfl (by repeat (first | exact List.Sublist.refl _ | apply List.Sublist.cons))
    · intro bD L hJ
      subst hJ
      rw [bel_len, dB_all g hi]
      try dsimp only [List.cons_append, List.nil_append]
      try dsimp only [setd, setn, ev, nth, over, cl, eI, eP, eT, eR, setM, setF, List.map, List.append, List.drop, List.take]
      refine R.markJ (L := [K.blk b19 79 (.slice A r.length c :: dcell (dA r (i + 1) 0)), K.blk b2 65 [.pointer (some ⟨b19, 0, none⟩)]]) (K.st_sub (List.Sublist.cons _ (List.Sublist.cons_cons _ (List.Sublist.cons_cons _ (List.Sublist.cons_cons _ (List.Sublist.cons _ (List.Sublist.cons_cons _ (List.Sublist.refl _)))))))) ?_
      try dsimp only [List.cons_append, List.nil_append]
      refine zN ?_
      refine R.norm_block ?_
      refine R.norm_block ?_
      refine R.norm_then ?_
      refine R.region_lit rfl ?_
      refine qp (K.add_i64 rfl rfl (by omega)) ?_
      refine qm ?_
      refine K.seq_nil ?_
      refine R.out ?_
      exact R.round_endD (L'' := [K.blk b19 79 (.slice A r.length c :: dcell (dA r (i + 1) 0)), K.blk b2 65 [.pointer (some ⟨b19, 0, none⟩)]]) [.int .i64 ((i : Int) + 1)] ⟨i + 1, rfl, rfl, by omega⟩ (by simp [K.nth, intOf]; omega) (by repeat (first | exact List.Sublist.refl _ | apply List.Sublist.cons)) (by kernel_rfl)
    · intro bD cX L hJ
      exact hJ.elim
      skip
  try replace ht23 := of_decide_eq_false ht23
  refine R.exit ?_
  refine R.exit_then ?_
  refine R.exit_then ?_
  refine R.exit_here ?_
  refine R.norm_then ?_
  refine R.seq ?_
  refine R.region_lit rfl ?_
  refine K.seq_sil (K.load1_own one_65 rfl (K.m1) rfl) rfl ?_
  refine zN ?_
  refine K.seq_st (K.store sz_65 rfl rfl rfl rfl (K.rp1)) rfl ?_
  refine zN ?_
  refine qa ?_
  refine K.seq_nil ?_
  refine R.out ?_
  refine R.norm_then ?_
  refine R.ret ?_
  refine R.end_retD rfl (by dsimp only [List.dropLast]; exact (fun w hw => K.res_ct rfl rfl (K.run_cell1 one_65 rfl (K.m1) w hw))) ?_
  dsimp only [List.dropLast]
  have e0 : i = r.length := by omega
  subst e0
  rw [dA_all]
  exact K.rets_v b19 trivial rfl rfl (List.Sublist.cons_cons _ (List.nil_sublist _))

end Go.Proofs.YtoemnobfnnjopaaDoor
