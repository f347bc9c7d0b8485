/-
  Lemmas and walks of functions, joined and with only what the claim needs.
  Conditions stand in each theorem.
-/
import Derived.Test.YtoemnobfnnjopaaDoorProg
import Derived.Test.YtoemnobfnnjopaaDoorRows
import Derived.Below
import Derived.Laws.AppendOwn
import Derived.Laws.Rows
import Derived.Laws.Slices
import Derived.Tactics
import Derived.OrdersHeld
import Derived.KernelRfl
import Derived.WalkKit
import Derived.Deep.AppendLies
import Derived.IntWalk
import Derived.Scope
import Derived.WalkSpells
import Derived.DeepKeys
import Derived.Deep.Upon
import Derived.RangeFuncLeaves
import Derived.RangeFuncSeq
import Derived.OrdersIn
import Derived.Sort.LoopGhostIn
import Derived.TacticsIn
import Derived.RangeFuncOwn
import Derived.WideKeyMaps
import Derived.DeepKeys4
import Derived.Carry
import Derived.Laws.CopyRow
import Derived.Laws.Strings
import Derived.WalkArith
import Derived.Laws.Closers25b
import Derived.ProofKit
import Derived.OpenShut
import Derived.LaidMore
import Derived.Lay
import Derived.Stop.Joined
import Derived.ChangeOld
import Derived.SizedLaws
import Derived.Deep.Slices
import Derived.Deep.Fields
import Derived.ChangeSame
import Derived.Lib.SmallJoins
import Derived.Laws.MakeOwn
import Derived.Shelf.Sort.Plain
import Derived.Sort.OwnSortedInts
import Derived.SevenTiedAt
import Derived.Test.YtoemnobfnnjopaaDoorZe
section
set_option linter.unusedSimpArgs false
set_option linter.unusedVariables false
namespace Go.Proofs.YtoemnobfnnjopaaDoor
open Go.RowKit Go
open Go.K (setd setn ev nth over cl eI eP eT setM setF)
attribute [local irreducible] K.blk K.row
theorem bs50 (A : Option Addr) (n c : Nat) : K.Bs Tryd.prog 50 1 [(0, .slice A n c)] 26 [.slice A n c] := fun w => by kernel_rfl
theorem vi_app {A : Option Addr} {c : Nat} {vs us : List Value} {x y : Int} (h : x = y) : [Value.slice A (vs.length + us.length) c, .int .i64 x] = [.slice A (vs ++ us).length c, .int .i64 y] := by rw [List.length_append, h]
theorem lsF_len9 {m : Nat} {f n : Int} (hn : n ≤ 9) (hf : 0 ≤ f) (hm : m ≤ 9) : (lsF m f n).length ≤ 387420489 := lsF_len hn hf hm

set_option maxRecDepth 100000 in
theorem c92 {r : List RvT} {A : Option Addr} {c : Nat} {i k : Nat} {w : World} (hR : K.Rd w A 4 eR r) (g : Good r) (hi : i < r.length) (hk : k < r.length) :
    Calls Tryd.prog 92 [.slice A r.length c, .int .i64 (i : Int), .int .i64 (k : Int)].toArray w (K.Gives (.bool (conS r i k)) w) := by
  have hgn := g.n
  have hpi := g.p i hi
  have hpk := g.p k hk
  have hb1 := drp_bd (k := k) g hi
  have hb2 := drp_bd (k := i) g hk
  have h00 := drp_0 g hi
  refine K.enter (args := [.slice A r.length c, .int .i64 (i : Int), .int .i64 (k : Int)]) Tryd.func92 rfl (n := 39) rfl ?_
  simp only [List.replicate, List.cons_append, List.nil_append]
  refine sr ?_
  refine qa ?_
  refine sn ?_
  refine sr ?_
  iterate 3 refine qm ?_
  refine K.seq_call (K.call_g cal_37 (fun F w hF hw => c37 (hR.pass hw) g hi)) rfl ?_
  refine zN ?_
  refine qa ?_
  refine sn ?_
  refine K.seq ?_
  refine sr ?_
  refine qm ?_
  refine qp (K.lss rfl rfl) ?_
  refine sn ?_
  refine K.cond rfl (fun ht13 => ?_) (fun ht13 => ?_)
  · try replace ht13 := of_decide_eq_true ht13
    refine K.region_lit ?_
    iterate 5 refine qm ?_
    refine K.seq_call (K.call_g cal_37 (fun F w hF hw => c37 (hR.pass hw) g hk)) rfl ?_
    refine zN ?_
    iterate 3 refine qa ?_
    refine sn ?_
    refine K.seq ?_
    refine K.draw_L [] Tryd_mixed ?_
    refine K.d_pure 0 rfl (K.move) (by kernel_rfl) rfl ?_
    refine zn ?_
    refine K.d_pure 1 rfl (K.move) (by kernel_rfl) rfl ?_
    refine zn ?_
    refine K.d_pure 2 rfl (K.neq rfl rfl) (by kernel_rfl) rfl ?_
    refine zn ?_
    refine K.d_pure 3 rfl (K.move) (by kernel_rfl) rfl ?_
    refine zn ?_
    refine K.dsplit 23 rfl (fun hg23 => ?_) (fun hg23 => ?_)
    · try replace hg23 := of_decide_eq_true hg23
      refine K.d_pure 4 rfl (K.move) (by kernel_rfl) rfl ?_
      refine zn ?_
      refine K.d_pure 5 rfl (K.geq rfl rfl) (by kernel_rfl) rfl ?_
      refine zn ?_
      refine K.d_pure 6 rfl (K.pick_t rfl) (by kernel_rfl) rfl ?_
      refine zn ?_
      refine K.d_pure 7 rfl (K.move) (by kernel_rfl) rfl ?_
      refine zn ?_
      refine K.dsplit 27 rfl (fun hg27 => ?_) (fun hg27 => ?_)
      · try replace hg27 := of_decide_eq_true hg27
        refine K.d_pure 8 rfl (K.move) (by kernel_rfl) rfl ?_
        refine zn ?_
        refine K.d_pure 9 rfl (K.move) (by kernel_rfl) rfl ?_
        refine zn ?_
        refine K.d_ix (M := []) 10 _ rfl hR.sl sl_22 rfl rfl rfl (by omega) (by kernel_rfl) rfl ?_
        intro p30 hp30
        refine zN ?_
        refine K.d_pure 11 rfl (K.fieldAddr fo_44_3 rfl) (by kernel_rfl) rfl ?_
        refine zn ?_
        refine K.d_mem 12 rfl (K.load1 one_3 rfl ((K.PtrL.fld hp30 (k := 3)).any)) (fun _ h => h) (by kernel_rfl) (by kernel_rfl) rfl ?_
        refine zN ?_
        refine K.d_pure 13 rfl (K.move) (by kernel_rfl) rfl ?_
        refine zn ?_
        refine K.d_pure 14 rfl (K.move) (by kernel_rfl) rfl ?_
        refine zn ?_
        refine K.d_ix (M := []) 15 _ rfl hR.sl sl_22 rfl rfl rfl (by omega) (by kernel_rfl) rfl ?_
        intro p35 hp35
        refine zN ?_
        refine K.d_pure 16 rfl (K.fieldAddr fo_44_3 rfl) (by kernel_rfl) rfl ?_
        refine zn ?_
        refine K.d_mem 17 rfl (K.load1 one_3 rfl ((K.PtrL.fld hp35 (k := 3)).any)) (fun _ h => h) (by kernel_rfl) (by kernel_rfl) rfl ?_
        refine zN ?_
        refine K.d_pure 18 rfl (K.sub_i64 rfl rfl (by omega)) (by kernel_rfl) rfl ?_
        refine zn ?_
        refine K.d_pure 19 rfl (K.move) (by kernel_rfl) rfl ?_
        refine zn ?_
        refine K.d_pure 20 rfl (K.lss rfl rfl) (by kernel_rfl) rfl ?_
        refine zn ?_
        refine K.d_pure 21 rfl (K.pick_t rfl) (by kernel_rfl) rfl ?_
        refine zn ?_
        refine K.d_pure 22 rfl (K.assign) (by kernel_rfl) rfl ?_
        refine zn ?_
        refine K.d_done (by kernel_rfl) ?_
        refine K.norm_then ?_
        refine K.ret ?_
        refine K.end_ret (fun w _ => K.res_tmp rfl w) ?_
        exact K.gives_b rfl (by unfold conS; rw [if_pos (by omega), decide_eq_true (show drp r k i ≠ -1 by omega), Bool.true_and])
      try replace hg27 := of_decide_eq_false hg27
      refine K.d_skip 8 rfl (by kernel_rfl) rfl ?_
      refine zN ?_
      refine K.d_skip 9 rfl (by kernel_rfl) rfl ?_
      refine zN ?_
      refine K.d_skip 10 rfl (by kernel_rfl) rfl ?_
      refine zN ?_
      refine K.d_skip 11 rfl (by kernel_rfl) rfl ?_
      refine zN ?_
      refine K.d_skip 12 rfl (by kernel_rfl) rfl ?_
      refine zN ?_
      refine K.d_skip 13 rfl (by kernel_rfl) rfl ?_
      refine zN ?_
      refine K.d_skip 14 rfl (by kernel_rfl) rfl ?_
      refine zN ?_
      refine K.d_skip 15 rfl (by kernel_rfl) rfl ?_
      refine zN ?_
      refine K.d_skip 16 rfl (by kernel_rfl) rfl ?_
      refine zN ?_
      refine K.d_skip 17 rfl (by kernel_rfl) rfl ?_
      refine zN ?_
      refine K.d_skip 18 rfl (by kernel_rfl) rfl ?_
      refine zN ?_
      refine K.d_skip 19 rfl (by kernel_rfl) rfl ?_
      refine zN ?_
      refine K.d_skip 20 rfl (by kernel_rfl) rfl ?_
      refine zN ?_
      refine K.d_pure 21 rfl (K.pick_f rfl) (by kernel_rfl) rfl ?_
      refine zn ?_
      refine K.d_pure 22 rfl (K.assign) (by kernel_rfl) rfl ?_
      refine zn ?_
      refine K.d_done (by kernel_rfl) ?_
      refine K.norm_then ?_
      refine K.ret ?_
      refine K.end_ret (fun w _ => K.res_tmp rfl w) ?_
      exact K.gives_b rfl (by unfold conS; rw [if_pos (by omega), decide_eq_false (show ¬ drp r k i ≠ -1 by omega), Bool.false_and])
    try replace hg23 := of_decide_eq_false hg23
    refine K.d_skip 4 rfl (by kernel_rfl) rfl ?_
    refine zN ?_
    refine K.d_skip 5 rfl (by kernel_rfl) rfl ?_
    refine zN ?_
    refine K.d_pure 6 rfl (K.pick_f rfl) (by kernel_rfl) rfl ?_
    refine zn ?_
    refine K.d_pure 7 rfl (K.move) (by kernel_rfl) rfl ?_
    refine zn ?_
    refine K.d_skip 8 rfl (by kernel_rfl) rfl ?_
    refine zN ?_
    refine K.d_skip 9 rfl (by kernel_rfl) rfl ?_
    refine zN ?_
    refine K.d_skip 10 rfl (by kernel_rfl) rfl ?_
    refine zN ?_
    refine K.d_skip 11 rfl (by kernel_rfl) rfl ?_
    refine zN ?_
    refine K.d_skip 12 rfl (by kernel_rfl) rfl ?_
    refine zN ?_
    refine K.d_skip 13 rfl (by kernel_rfl) rfl ?_
    refine zN ?_
    refine K.d_skip 14 rfl (by kernel_rfl) rfl ?_
    refine zN ?_
    refine K.d_skip 15 rfl (by kernel_rfl) rfl ?_
    refine zN ?_
    refine K.d_skip 16 rfl (by kernel_rfl) rfl ?_
    refine zN ?_
    refine K.d_skip 17 rfl (by kernel_rfl) rfl ?_
    refine zN ?_
    refine K.d_skip 18 rfl (by kernel_rfl) rfl ?_
    refine zN ?_
    refine K.d_skip 19 rfl (by kernel_rfl) rfl ?_
    refine zN ?_
    refine K.d_skip 20 rfl (by kernel_rfl) rfl ?_
    refine zN ?_
    refine K.d_pure 21 rfl (K.pick_f rfl) (by kernel_rfl) rfl ?_
    refine zn ?_
    refine K.d_pure 22 rfl (K.assign) (by kernel_rfl) rfl ?_
    refine zn ?_
    refine K.d_done (by kernel_rfl) ?_
    refine K.norm_then ?_
    refine K.ret ?_
    refine K.end_ret (fun w _ => K.res_tmp rfl w) ?_
    have e0 : k = i := by omega
    subst e0
    exfalso; omega
  try replace ht13 := of_decide_eq_false ht13
  refine K.skip ?_
  refine K.norm_then ?_
  refine K.seq ?_
  refine K.draw_L [] Tryd_mixed ?_
  refine K.d_pure 0 rfl (K.move) (by kernel_rfl) rfl ?_
  refine zn ?_
  refine K.d_pure 1 rfl (K.move) (by kernel_rfl) rfl ?_
  refine zn ?_
  refine K.d_pure 2 rfl (K.neq rfl rfl) (by kernel_rfl) rfl ?_
  refine zn ?_
  refine K.d_pure 3 rfl (K.move) (by kernel_rfl) rfl ?_
  refine zn ?_
  refine K.dsplit 23 rfl (fun hg23 => ?_) (fun hg23 => ?_)
  · try replace hg23 := of_decide_eq_true hg23
    refine K.d_pure 4 rfl (K.move) (by kernel_rfl) rfl ?_
    refine zn ?_
    refine K.d_pure 5 rfl (K.geq rfl rfl) (by kernel_rfl) rfl ?_
    refine zn ?_
    refine K.d_pure 6 rfl (K.pick_t rfl) (by kernel_rfl) rfl ?_
    refine zn ?_
    refine K.d_pure 7 rfl (K.move) (by kernel_rfl) rfl ?_
    refine zn ?_
    refine K.dsplit 27 rfl (fun hg27 => ?_) (fun hg27 => ?_)
    · try replace hg27 := of_decide_eq_true hg27
      refine K.d_pure 8 rfl (K.move) (by kernel_rfl) rfl ?_
      refine zn ?_
      refine K.d_pure 9 rfl (K.move) (by kernel_rfl) rfl ?_
      refine zn ?_
      refine K.d_ix (M := []) 10 _ rfl hR.sl sl_22 rfl rfl rfl (by omega) (by kernel_rfl) rfl ?_
      intro p30 hp30
      refine zN ?_
      refine K.d_pure 11 rfl (K.fieldAddr fo_44_3 rfl) (by kernel_rfl) rfl ?_
      refine zn ?_
      refine K.d_mem 12 rfl (K.load1 one_3 rfl ((K.PtrL.fld hp30 (k := 3)).any)) (fun _ h => h) (by kernel_rfl) (by kernel_rfl) rfl ?_
      refine zN ?_
      refine K.d_pure 13 rfl (K.move) (by kernel_rfl) rfl ?_
      refine zn ?_
      refine K.d_pure 14 rfl (K.move) (by kernel_rfl) rfl ?_
      refine zn ?_
      refine K.d_ix (M := []) 15 _ rfl hR.sl sl_22 rfl rfl rfl (by omega) (by kernel_rfl) rfl ?_
      intro p35 hp35
      refine zN ?_
      refine K.d_pure 16 rfl (K.fieldAddr fo_44_3 rfl) (by kernel_rfl) rfl ?_
      refine zn ?_
      refine K.d_mem 17 rfl (K.load1 one_3 rfl ((K.PtrL.fld hp35 (k := 3)).any)) (fun _ h => h) (by kernel_rfl) (by kernel_rfl) rfl ?_
      refine zN ?_
      refine K.d_pure 18 rfl (K.sub_i64 rfl rfl (by omega)) (by kernel_rfl) rfl ?_
      refine zn ?_
      refine K.d_pure 19 rfl (K.move) (by kernel_rfl) rfl ?_
      refine zn ?_
      refine K.d_pure 20 rfl (K.lss rfl rfl) (by kernel_rfl) rfl ?_
      refine zn ?_
      refine K.d_pure 21 rfl (K.pick_t rfl) (by kernel_rfl) rfl ?_
      refine zn ?_
      refine K.d_pure 22 rfl (K.assign) (by kernel_rfl) rfl ?_
      refine zn ?_
      refine K.d_done (by kernel_rfl) ?_
      refine K.norm_then ?_
      refine K.ret ?_
      refine K.end_ret (fun w _ => K.res_tmp rfl w) ?_
      exact K.gives_b rfl (by unfold conS; rw [if_neg (by omega)])
    try replace hg27 := of_decide_eq_false hg27
    refine K.d_skip 8 rfl (by kernel_rfl) rfl ?_
    refine zN ?_
    refine K.d_skip 9 rfl (by kernel_rfl) rfl ?_
    refine zN ?_
    refine K.d_skip 10 rfl (by kernel_rfl) rfl ?_
    refine zN ?_
    refine K.d_skip 11 rfl (by kernel_rfl) rfl ?_
    refine zN ?_
    refine K.d_skip 12 rfl (by kernel_rfl) rfl ?_
    refine zN ?_
    refine K.d_skip 13 rfl (by kernel_rfl) rfl ?_
    refine zN ?_
    refine K.d_skip 14 rfl (by kernel_rfl) rfl ?_
    refine zN ?_
    refine K.d_skip 15 rfl (by kernel_rfl) rfl ?_
    refine zN ?_
    refine K.d_skip 16 rfl (by kernel_rfl) rfl ?_
    refine zN ?_
    refine K.d_skip 17 rfl (by kernel_rfl) rfl ?_
    refine zN ?_
    refine K.d_skip 18 rfl (by kernel_rfl) rfl ?_
    refine zN ?_
    refine K.d_skip 19 rfl (by kernel_rfl) rfl ?_
    refine zN ?_
    refine K.d_skip 20 rfl (by kernel_rfl) rfl ?_
    refine zN ?_
    refine K.d_pure 21 rfl (K.pick_f rfl) (by kernel_rfl) rfl ?_
    refine zn ?_
    refine K.d_pure 22 rfl (K.assign) (by kernel_rfl) rfl ?_
    refine zn ?_
    refine K.d_done (by kernel_rfl) ?_
    refine K.norm_then ?_
    refine K.ret ?_
    refine K.end_ret (fun w _ => K.res_tmp rfl w) ?_
    exfalso; omega
  try replace hg23 := of_decide_eq_false hg23
  refine K.d_skip 4 rfl (by kernel_rfl) rfl ?_
  refine zN ?_
  refine K.d_skip 5 rfl (by kernel_rfl) rfl ?_
  refine zN ?_
  refine K.d_pure 6 rfl (K.pick_f rfl) (by kernel_rfl) rfl ?_
  refine zn ?_
  refine K.d_pure 7 rfl (K.move) (by kernel_rfl) rfl ?_
  refine zn ?_
  refine K.d_skip 8 rfl (by kernel_rfl) rfl ?_
  refine zN ?_
  refine K.d_skip 9 rfl (by kernel_rfl) rfl ?_
  refine zN ?_
  refine K.d_skip 10 rfl (by kernel_rfl) rfl ?_
  refine zN ?_
  refine K.d_skip 11 rfl (by kernel_rfl) rfl ?_
  refine zN ?_
  refine K.d_skip 12 rfl (by kernel_rfl) rfl ?_
  refine zN ?_
  refine K.d_skip 13 rfl (by kernel_rfl) rfl ?_
  refine zN ?_
  refine K.d_skip 14 rfl (by kernel_rfl) rfl ?_
  refine zN ?_
  refine K.d_skip 15 rfl (by kernel_rfl) rfl ?_
  refine zN ?_
  refine K.d_skip 16 rfl (by kernel_rfl) rfl ?_
  refine zN ?_
  refine K.d_skip 17 rfl (by kernel_rfl) rfl ?_
  refine zN ?_
  refine K.d_skip 18 rfl (by kernel_rfl) rfl ?_
  refine zN ?_
  refine K.d_skip 19 rfl (by kernel_rfl) rfl ?_
  refine zN ?_
  refine K.d_skip 20 rfl (by kernel_rfl) rfl ?_
  refine zN ?_
  refine K.d_pure 21 rfl (K.pick_f rfl) (by kernel_rfl) rfl ?_
  refine zn ?_
  refine K.d_pure 22 rfl (K.assign) (by kernel_rfl) rfl ?_
  refine zn ?_
  refine K.d_done (by kernel_rfl) ?_
  refine K.norm_then ?_
  refine K.ret ?_
  refine K.end_ret (fun w _ => K.res_tmp rfl w) ?_
  have e0 : k = i := by omega
  subst e0
  exact K.gives_b rfl (con_self g hi).symm

set_option maxRecDepth 100000 in
theorem c90 {r : List RvT} {A : Option Addr} {c : Nat} {Q : Option Addr} {q : Nat} {l : List Int} {w : World} (hR : K.Rd w A 4 eR r) (g : Good r) (hL : K.Rd w Q 1 K.eI l) (hl : l.length ≤ 1000000) :
    Calls Tryd.prog 90 [.slice A r.length c, .slice Q l.length q].toArray w (K.Gives (.bool (corZ r l)) w) := by
  have hgn := g.n
  refine K.enter (args := [.slice A r.length c, .slice Q l.length q]) Tryd.func90 rfl (n := 38) rfl ?_
  simp only [List.replicate, List.cons_append, List.nil_append]
  refine sr ?_
  refine qa ?_
  refine sn ?_
  refine K.seq ?_
  refine sr ?_
  refine qa ?_
  refine sn ?_
  refine K.block ?_
  refine K.loopW [5] [4, 6, 7, 8, 9, 10, 11, 12, 13, 14, 15, 16, 17, 18, 19, 20, 21, 22, 23, 24, 25, 26, 27, 28, 29, 30, 31, 32, 33, 34, 35, 36, 37, 38, 39] (fun vi L => ∃ i : Nat, vi = [.int .i64 (i : Int)] ∧ L = [] ∧ i ≤ r.length ∧ ∀ x, x < i → (x : Int) ∈ l ∨ (outS r x = false ∧ ∀ j, j < r.length → (j : Int) ∈ l ∨ conS r x j = false)) (fun vi => r.length - (intOf (K.nth vi 0)).toNat) ?_ ?_
  · exact ⟨0, rfl, rfl, Nat.zero_le _, fun j hj => absurd hj (Nat.not_lt_zero j)⟩
  intro vi vr L hJ
  obtain ⟨i, rfl, rfl, hin, hall⟩ := hJ
  try dsimp only [setd, setn, ev, nth, over, cl, eI, eP, eT, eR, setM, setF, List.map, List.append, List.drop, List.take]
  refine K.seq ?_
  refine sr ?_
  iterate 2 refine qm ?_
  refine qp (K.len_sl sl_22 rfl) ?_
  refine qp (K.lss rfl rfl) ?_
  refine sn ?_
  refine K.cond rfl (fun ht10 => ?_) (fun ht10 => ?_)
  · try replace ht10 := of_decide_eq_true ht10
    have hi : i < r.length := by omega
    refine K.skip ?_
    refine K.norm_then ?_
    refine K.seq ?_
    refine K.block ?_
    refine sr ?_
    refine qa ?_
    refine sn ?_
    refine K.block ?_
    refine K.loopW [6] [4, 13, 14, 15, 16, 17, 18, 19, 20, 21, 22, 23, 24, 25, 26, 27, 28, 29, 30, 31, 32, 33, 34, 35, 36, 37, 38, 39] (fun vi L => ∃ k : Nat, vi = [.int .i64 (k : Int)] ∧ L = [] ∧ k ≤ r.length ∧ ∀ j, j < k → ¬ (i : Int) ∈ l ∧ outS r i = false ∧ ((j : Int) ∈ l ∨ conS r i j = false)) (fun vi => r.length - (intOf (K.nth vi 0)).toNat) ?_ ?_
    · exact ⟨0, rfl, rfl, Nat.zero_le _, fun j hj => absurd hj (Nat.not_lt_zero j)⟩
    intro vi vr L hJ
    obtain ⟨k, rfl, rfl, hkn, hinn⟩ := hJ
    try dsimp only [setd, setn, ev, nth, over, cl, eI, eP, eT, eR, setM, setF, List.map, List.append, List.drop, List.take]
    refine K.seq ?_
    refine sr ?_
    iterate 2 refine qm ?_
    refine qp (K.len_sl sl_22 rfl) ?_
    refine qp (K.lss rfl rfl) ?_
    refine qm ?_
    refine K.split 17 rfl (fun hg17 => ?_) (fun hg17 => ?_)
    · try replace hg17 := of_decide_eq_true hg17
      have hk : k < r.length := by omega
      iterate 2 refine qm ?_
      refine K.seq_call (K.call_g cal_38 (fun F w hF hw => c38 (hL.pass hw) hl)) rfl ?_
      refine zN ?_
      first | refine K.seq_pure (K.not_d rfl) rfl ?_ | refine K.seq_pure (K.not_ rfl) rfl ?_
      refine zN ?_
      refine qp (K.pick_t rfl) ?_
      refine sn ?_
      refine K.cond rfl (fun ht22 => ?_) (fun ht22 => ?_)
      · try replace ht22 := of_decide_eq_true ht22
        refine K.skip ?_
        refine K.norm_then ?_
        refine K.seq ?_
        refine K.block ?_
        refine sr ?_
        iterate 2 refine qm ?_
        refine K.seq_call (K.call_g cal_80 (fun F w hF hw => c80 (hR.pass hw) g hi)) rfl ?_
        refine zN ?_
        refine qm ?_
        refine K.split 28 rfl (fun hg28 => ?_) (fun hg28 => ?_)
        · try replace hg28 := of_decide_eq_true hg28
          iterate 10 refine qs ?_
          refine qp (K.pick_t rfl) ?_
          refine sn ?_
          refine K.cond_true rfl ?_
          refine sr ?_
          refine qa ?_
          refine sn ?_
          refine K.ret ?_
          refine K.ret_block ?_
          refine K.ret_then ?_
          refine K.ret_then ?_
          refine K.ret_block ?_
          refine K.ret_block ?_
          refine K.ret_then ?_
          refine K.ret_then ?_
          refine K.ret_block ?_
          refine K.ret_then ?_
          refine K.end_ret (fun w _ => K.res_tmp rfl w) ?_
          have hil : ¬ (i : Int) ∈ l := by simpa using ht22
          first
            | exact K.gives_b rfl (corZ_f1 hi hil (by simpa using hg28)).symm
            | exact K.gives_b rfl (corZ_f2 g hi hk hil (by simpa using hg33) (by simpa using ht39)).symm
        try replace hg28 := of_decide_eq_false hg28
        iterate 2 refine qm ?_
        refine K.seq_call (K.call_g cal_38 (fun F w hF hw => c38 (hL.pass hw) hl)) rfl ?_
        refine zN ?_
        first | refine K.seq_pure (K.not_d rfl) rfl ?_ | refine K.seq_pure (K.not_ rfl) rfl ?_
        refine zN ?_
        refine qm ?_
        refine K.split 33 rfl (fun hg33 => ?_) (fun hg33 => ?_)
        · try replace hg33 := of_decide_eq_true hg33
          iterate 3 refine qm ?_
          refine K.seq_call (K.call_g cal_92 (fun F w hF hw => c92 (hR.pass hw) g hi hk)) rfl ?_
          refine zN ?_
          refine qp (K.pick_t rfl) ?_
          refine qp (K.pick_f rfl) ?_
          refine sn ?_
          refine K.cond rfl (fun ht39 => ?_) (fun ht39 => ?_)
          · try replace ht39 := of_decide_eq_true ht39
            refine sr ?_
            refine qa ?_
            refine sn ?_
            refine K.ret ?_
            refine K.ret_block ?_
            refine K.ret_then ?_
            refine K.ret_then ?_
            refine K.ret_block ?_
            refine K.ret_block ?_
            refine K.ret_then ?_
            refine K.ret_then ?_
            refine K.ret_block ?_
            refine K.ret_then ?_
            refine K.end_ret (fun w _ => K.res_tmp rfl w) ?_
            have hil : ¬ (i : Int) ∈ l := by simpa using ht22
            first
              | exact K.gives_b rfl (corZ_f1 hi hil (by simpa using hg28)).symm
              | exact K.gives_b rfl (corZ_f2 g hi hk hil (by simpa using hg33) (by simpa using ht39)).symm
          try replace ht39 := of_decide_eq_false ht39
          refine K.skip ?_
          refine K.norm_block ?_
          refine K.norm_then ?_
          refine K.region_lit ?_
          refine qm ?_
          refine qp (K.add_i64 rfl rfl (by omega)) ?_
          refine qa ?_
          refine K.seq_nil ?_
          have hil : ¬ (i : Int) ∈ l := by simpa using ht22
          have ho : outS r i = false := by simpa using hg28
          have hc2 : (k : Int) ∈ l ∨ conS r i k = false := by
            first
              | exact .inl (by simpa using hg33)
              | exact .inr (by simpa using ht39)
          exact K.round_endW (L'' := []) [.int .i64 ((k : Int) + 1)] ⟨k + 1, rfl, rfl, by omega, K.lt_succ_case hinn ⟨hil, ho, hc2⟩⟩ (by simp [K.nth, intOf]; omega) (List.nil_sublist _) (by kernel_rfl)
        try replace hg33 := of_decide_eq_false hg33
        iterate 4 refine qs ?_
        refine qp (K.pick_f rfl) ?_
        refine qp (K.pick_f rfl) ?_
        refine sn ?_
        refine K.cond_false rfl ?_
        refine K.skip ?_
        refine K.norm_block ?_
        refine K.norm_then ?_
        refine K.region_lit ?_
        refine qm ?_
        refine qp (K.add_i64 rfl rfl (by omega)) ?_
        refine qa ?_
        refine K.seq_nil ?_
        have hil : ¬ (i : Int) ∈ l := by simpa using ht22
        have ho : outS r i = false := by simpa using hg28
        have hc2 : (k : Int) ∈ l ∨ conS r i k = false := by
          first
            | exact .inl (by simpa using hg33)
            | exact .inr (by simpa using ht39)
        exact K.round_endW (L'' := []) [.int .i64 ((k : Int) + 1)] ⟨k + 1, rfl, rfl, by omega, K.lt_succ_case hinn ⟨hil, ho, hc2⟩⟩ (by simp [K.nth, intOf]; omega) (List.nil_sublist _) (by kernel_rfl)
      try replace ht22 := of_decide_eq_false ht22
      refine K.exit ?_
      refine K.exit_then ?_
      refine K.exit_then ?_
      refine K.exit_here ?_
      refine K.norm_block ?_
      refine K.norm_then ?_
      refine K.region_lit ?_
      refine qm ?_
      refine qp (K.add_i64 rfl rfl (by omega)) ?_
      refine qa ?_
      refine K.seq_nil ?_
      have hone : (i : Int) ∈ l ∨ (outS r i = false ∧ ∀ j, j < r.length → (j : Int) ∈ l ∨ conS r i j = false) := by
        first
          | exact .inl (by simpa using ht22)
          | exact .inr ⟨(hinn 0 (by omega)).2.1, fun j hj => (hinn j (by omega)).2.2⟩
      exact K.round_endW (L'' := []) [.int .i64 ((i : Int) + 1)] ⟨i + 1, rfl, rfl, by omega, K.lt_succ_case hall hone⟩ (by simp [K.nth, intOf]; omega) (List.nil_sublist _) (by kernel_rfl)
    try replace hg17 := of_decide_eq_false hg17
    iterate 4 refine qs ?_
    refine qp (K.pick_f rfl) ?_
    refine sn ?_
    refine K.cond_false rfl ?_
    refine K.exit ?_
    refine K.exit_then ?_
    refine K.exit_then ?_
    refine K.exit_here ?_
    refine K.norm_block ?_
    refine K.norm_then ?_
    refine K.region_lit ?_
    refine qm ?_
    refine qp (K.add_i64 rfl rfl (by omega)) ?_
    refine qa ?_
    refine K.seq_nil ?_
    have hone : (i : Int) ∈ l ∨ (outS r i = false ∧ ∀ j, j < r.length → (j : Int) ∈ l ∨ conS r i j = false) := by
      first
        | exact .inl (by simpa using ht22)
        | exact .inr ⟨(hinn 0 (by omega)).2.1, fun j hj => (hinn j (by omega)).2.2⟩
    exact K.round_endW (L'' := []) [.int .i64 ((i : Int) + 1)] ⟨i + 1, rfl, rfl, by omega, K.lt_succ_case hall hone⟩ (by simp [K.nth, intOf]; omega) (List.nil_sublist _) (by kernel_rfl)
  try replace ht10 := of_decide_eq_false ht10
  refine K.exit ?_
  refine K.exit_then ?_
  refine K.exit_then ?_
  refine K.exit_here ?_
  refine K.norm_then ?_
  refine sr ?_
  refine qa ?_
  refine sn ?_
  refine K.ret ?_
  refine K.end_ret (fun w _ => K.res_tmp rfl w) ?_
  exact K.gives_b rfl (corZ_t (fun j hj => hall j (by omega))).symm

set_option maxRecDepth 100000 in
theorem z89 {f n : Int} (w : World) :
    Calls Tryd.prog 89 [.int .i64 f, .int .i64 n, .int .i64 0].toArray w (K.Ret (fun _ : Nat => True) (fun r => .slice (some ⟨r, 0, none⟩) 1 1) (fun r => [K.blk r 26 [.slice none 0 0]]) w) := by
  refine K.enter (args := [.int .i64 f, .int .i64 n, .int .i64 0]) Tryd.func89 rfl (n := 40) rfl ?_
  simp only [List.replicate, List.cons_append, List.nil_append]
  refine sr ?_
  refine qa ?_
  refine sn ?_
  refine K.seq ?_
  refine sr ?_
  refine qm ?_
  refine qp (K.eql rfl rfl) ?_
  refine sn ?_
  refine K.cond rfl (fun ht12 => ?_) (fun ht12 => ?_)
  · try replace ht12 := of_decide_eq_true ht12
    refine sr ?_
    refine K.seq_new (K.buildSlice (bs50 _ _ _)) rfl ?_
    intro b13
    refine zN ?_
    refine qa ?_
    refine sn ?_
    refine K.ret ?_
    refine K.ret_then ?_
    refine K.end_ret (fun w _ => K.res_tmp rfl w) ?_
    exact K.rets b13 trivial rfl (List.Sublist.refl _)
  try replace ht12 := of_decide_eq_false ht12
  exact absurd rfl ht12

set_option maxRecDepth 100000 in
set_option maxHeartbeats 1000000 in
theorem s89 {m : Nat} {n : Int} (hm8 : m + 1 ≤ 9) (hn8 : n ≤ 9) (ih : ∀ {f : Int} {w : World}, 0 ≤ f → f ≤ 10 → Calls Tryd.prog 89 [.int .i64 f, .int .i64 n, .int .i64 (m : Int)].toArray w (K.RetLT 26 (lsF m f n) w)) {f : Int} {w : World} (hf : 0 ≤ f) (hf9 : f ≤ 10) :
    Calls Tryd.prog 89 [.int .i64 f, .int .i64 n, .int .i64 ((m + 1 : Nat) : Int)].toArray w (K.RetLT 26 (lsF (m + 1) f n) w) := by
  refine K.enter (args := [.int .i64 f, .int .i64 n, .int .i64 ((m + 1 : Nat) : Int)]) Tryd.func89 rfl (n := 40) rfl ?_
  simp only [List.replicate, List.cons_append, List.nil_append]
  refine sr ?_
  refine qa ?_
  refine sn ?_
  refine K.seq ?_
  refine sr ?_
  refine qm ?_
  refine qp (K.eql rfl rfl) ?_
  refine sn ?_
  refine K.cond rfl (fun ht12 => ?_) (fun ht12 => ?_)
  · try replace ht12 := of_decide_eq_true ht12
    exact absurd ht12 (by omega)
  try replace ht12 := of_decide_eq_false ht12
  refine K.skip ?_
  refine K.norm_then ?_
  refine sr ?_
  refine qa ?_
  refine sn ?_
  refine K.seq ?_
  refine sr ?_
  refine K.inn_none [] [] rfl (by simp) ?_
  refine K.nil_row (e := 26) (size := 1) ?_
  refine qm ?_
  refine qa ?_
  refine sn ?_
  refine K.block ?_
  refine K.loopW [7, 8] [9, 10, 15, 16, 17, 18, 19, 20, 21, 22, 23, 24, 25, 26, 27, 28, 29, 30, 31, 32, 33, 34, 35, 36, 37, 38, 39, 40, 41] (fun vi L => ∃ (k : Nat) (Q1 : Option Addr) (q1 : Nat) (vs : List Value) (F : Nat → Prop), vi = [.slice Q1 vs.length q1, .int .i64 (f + (k : Int))] ∧ L = [K.row (.slice Q1 vs.length q1) 26 1 vs.length (vs.flatMap K.eV), K.inn F vs (partF m f n k)] ∧ vs.all Value.oneCell' = true ∧ vs.length = (partF m f n k).length ∧ k ≤ (n - f).toNat) (fun vi => (n - intOf (K.nth vi 1)).toNat) ?_ ?_
  · exact ⟨0, none, 0, [], fun _ => False, by rw [show ((0 : Nat) : Int) = 0 from rfl, Int.add_zero]; rfl, rfl, rfl, rfl, Nat.zero_le _⟩
  intro vi vr L hJ
  obtain ⟨k, Q1, q1, vs, F, rfl, rfl, hvo, hvl, hkn⟩ := hJ
  try dsimp only [setd, setn, ev, nth, over, cl, eI, eP, eT, eR, setM, setF, List.map, List.append, List.drop, List.take]
  refine K.seq ?_
  refine sr ?_
  iterate 2 refine qm ?_
  refine qp (K.lss rfl rfl) ?_
  refine sn ?_
  refine K.cond rfl (fun ht17 => ?_) (fun ht17 => ?_)
  · try replace ht17 := of_decide_eq_true ht17
    have hk : k < (n - f).toNat := by omega
    have hpl := partF_len (m := m) (f := f) (n := n) (k := k) hn8 hf (by omega) (by omega)
    refine K.skip ?_
    refine K.norm_then ?_
    refine K.seq ?_
    refine K.block ?_
    refine sr ?_
    refine qm ?_
    refine qp (K.add_i64 rfl rfl (by omega)) ?_
    iterate 2 refine qm ?_
    refine qp (K.Pure.eq (K.sub_i64 rfl rfl (by omega)) (by rw [show ((m + 1 : Nat) : Int) - 1 = (m : Int) by omega])) ?_
    refine K.seq_loud (K.call_f cal_89 (fun F w hF hw => ih (by omega) (by omega))) rfl ?_
    rintro ⟨A25, c25, vs2, F2⟩ ⟨hvo2, hvl2⟩
    refine zN ?_
    have hvl2' : vs2.length = (lsF m (f + (k : Int) + 1) n).length := hvl2
    have hZl := lsF_len9 (m := m) (f := f + (k : Int) + 1) (n := n) hn8 (by omega) (by omega)
    refine K.use_row K.m0 (fun hA25 => ?_)
    refine zN ?_
    refine qa ?_
    refine sn ?_
    refine sr ?_
    refine K.permH (L' := [_, _, _, _]) (List.Perm.trans (List.perm_middle (l₁ := [_, _])) (List.Perm.cons _ (List.Perm.trans (List.perm_middle (l₁ := [_, _])) (List.Perm.cons _ (List.Perm.refl _))))) ?_
    refine qa ?_
    refine sn ?_
    refine K.block ?_
    refine K.loopW [7, 10] [26, 27, 28, 29, 30, 31, 32, 33, 34, 35, 36, 37, 38, 39, 40, 41] (fun vi L => ∃ (i : Nat) (Q2 : Option Addr) (q2 : Nat) (vs3 : List Value) (F3 : Nat → Prop), vi = [.slice Q2 vs3.length q2, .int .i64 (i : Int)] ∧ L = [K.row (.slice Q2 vs3.length q2) 26 1 vs3.length (vs3.flatMap K.eV), K.inn F3 vs3 ((partF m f n k) ++ ((lsF m (f + (k : Int) + 1) n).take i).map (List.cons (f + (k : Int)))), K.row (.slice A25 vs2.length c25) 26 1 vs2.length (vs2.flatMap K.eV), K.inn F2 vs2 (lsF m (f + (k : Int) + 1) n)] ∧ vs3.all Value.oneCell' = true ∧ vs3.length = (partF m f n k).length + i ∧ i ≤ (lsF m (f + (k : Int) + 1) n).length) (fun vi => (lsF m (f + (k : Int) + 1) n).length - (intOf (K.nth vi 1)).toNat) ?_ ?_
    · exact ⟨0, Q1, q1, vs, F, rfl, by rw [List.take_zero, List.map_nil, List.append_nil], hvo, hvl, Nat.zero_le _⟩
    intro vi vr L hJ
    obtain ⟨i, Q2, q2, vs3, F3, rfl, rfl, hvo3, hvl3, hil⟩ := hJ
    try dsimp only [setd, setn, ev, nth, over, cl, eI, eP, eT, eR, setM, setF, List.map, List.append, List.drop, List.take]
    refine K.seq ?_
    refine sr ?_
    iterate 2 refine qm ?_
    refine qp (K.len_sl sl_50 rfl) ?_
    refine qp (K.lss rfl rfl) ?_
    refine sn ?_
    refine K.cond rfl (fun ht29 => ?_) (fun ht29 => ?_)
    · try replace ht29 := of_decide_eq_true ht29
      have hi : i < (lsF m (f + (k : Int) + 1) n).length := by omega
      have hzl : ((lsF m (f + (k : Int) + 1) n).getD i default).length = m := lsF_ln (K.gt_mem hi)
      refine K.use_innS (i := i) K.m3 hi (fun A3 c3 hv3 hsl => ?_)
      refine K.skip ?_
      refine K.norm_then ?_
      refine K.seq ?_
      refine K.block ?_
      refine K.region_lit ?_
      iterate 2 refine qm ?_
      refine K.seq_new (K.buildSlice (bs1 _)) rfl ?_
      intro b34
      refine zN ?_
      refine K.blk_row (n := 1) (size := 1) rfl (by decide) ?_
      refine zN ?_
      iterate 2 refine qm ?_
      refine K.seq_ix (M := [K.row (.slice A25 vs2.length c25) 26 1 vs2.length (vs2.flatMap K.eV)]) _ (K.Sl.own (w0 := w) (t := 26) (c := c25) (size := 1) (e := K.eV) hA25 (fun _ => rfl)) sl_50 rfl rfl rfl (by omega) rfl ?_
      intro p37 hp37
      refine zN ?_
      refine K.seq_sil ((K.load1 one_26 rfl (hp37.at1 (K.m3))).cast hv3) rfl ?_
      refine zN ?_
      refine K.seq_upd (K.appendS el_26 rfl rfl (hsl.at1 (K.m4)) (fun _ => rfl) (K.oneI _) (by omega) (by omega) (fun _ _ => K.rp0)) rfl ?_
      rintro ⟨A39, c39⟩ _
      refine zN ?_
      rw [show 1 + ((lsF m (f + (k : Int) + 1) n).getD i default).length = ((f + (k : Int)) :: ((lsF m (f + (k : Int) + 1) n).getD i default)).length by rw [List.length_cons, Nat.add_comm], show [Value.int .i64 (f + (k : Int))] ++ ((lsF m (f + (k : Int) + 1) n).getD i default).flatMap K.eI = ((f + (k : Int)) :: ((lsF m (f + (k : Int) + 1) n).getD i default)).flatMap K.eI from rfl]
      refine zN ?_
      refine K.seq_new (K.buildSlice (bs50 _ _ _)) rfl ?_
      intro b40
      refine zN ?_
      refine K.seq_upd (K.append el_50 rfl rfl (K.PtrL.own' K.m0) rfl rfl (by decide) (by omega) (by omega) (fun _ _ => K.rp2)) rfl ?_
      rintro ⟨g41, c41⟩ _
      refine zN ?_
      refine qa ?_
      refine K.seq_nil ?_
      refine K.norm_block ?_
      refine K.norm_then ?_
      refine K.region_lit ?_
      refine qm ?_
      refine qp (K.add_i64 rfl rfl (by omega)) ?_
      refine qa ?_
      refine K.seq_nil ?_
      refine K.use_row K.m1 (fun hA39 => ?_)
      refine K.weak (L' := [K.row (.slice A39 ((f + (k : Int)) :: ((lsF m (f + (k : Int) + 1) n).getD i default)).length c39) 3 1 ((f + (k : Int)) :: ((lsF m (f + (k : Int) + 1) n).getD i default)).length (((f + (k : Int)) :: ((lsF m (f + (k : Int) + 1) n).getD i default)).flatMap K.eI), K.row (.slice (some ⟨g41, 0, none⟩) (vs3.length + 1) c41) 26 1 (vs3.length + 1) (vs3.flatMap K.eV ++ [(.slice A39 ((f + (k : Int)) :: ((lsF m (f + (k : Int) + 1) n).getD i default)).length c39)]), K.inn F3 vs3 ((partF m f n k) ++ ((lsF m (f + (k : Int) + 1) n).take i).map (List.cons (f + (k : Int)))), K.row (.slice A25 vs2.length c25) 26 1 vs2.length (vs2.flatMap K.eV), K.inn F2 vs2 (lsF m (f + (k : Int) + 1) n)]) (List.Sublist.cons _ (List.Sublist.refl _)) ?_
      refine K.row_inn hA39 ?_
      refine K.reorder (.trans (.cons _ (.swap _ _ _)) (.swap _ _ _)) ?_
      refine K.inn_app ?_
      refine K.reorder (.swap _ _ _) ?_
      have hz1 : ((partF m f n k) ++ ((lsF m (f + (k : Int) + 1) n).take (i + 1)).map (List.cons (f + (k : Int)))) = ((partF m f n k) ++ ((lsF m (f + (k : Int) + 1) n).take i).map (List.cons (f + (k : Int)))) ++ [((f + (k : Int)) :: ((lsF m (f + (k : Int) + 1) n).getD i default))] := by rw [take_succ_map _ hi, List.append_assoc]
      exact K.round_endW (vi := _) [.slice (some ⟨g41, 0, none⟩) (vs3.length + 1) c41, .int .i64 ((i : Int) + 1)] ⟨i + 1, some ⟨g41, 0, none⟩, c41, vs3 ++ [(.slice A39 ((f + (k : Int)) :: ((lsF m (f + (k : Int) + 1) n).getD i default)).length c39)], _, vi_app (us := [(.slice A39 ((f + (k : Int)) :: ((lsF m (f + (k : Int) + 1) n).getD i default)).length c39)]) (by omega), by rw [hz1, List.length_append, List.flatMap_append]; rfl, by rw [List.all_append, hvo3]; rfl, by rw [List.length_append]; simp only [List.length_singleton]; omega, by omega⟩ (by simp [K.nth, intOf]; omega) (List.Sublist.refl _) (by kernel_rfl)
    try replace ht29 := of_decide_eq_false ht29
    refine K.exit ?_
    refine K.exit_then ?_
    refine K.exit_then ?_
    refine K.exit_here ?_
    refine K.norm_block ?_
    refine K.norm_then ?_
    refine K.region_lit ?_
    refine qm ?_
    refine qp (K.add_i64 rfl rfl (by omega)) ?_
    refine qa ?_
    refine K.seq_nil ?_
    have hii : i = (lsF m (f + (k : Int) + 1) n).length := by omega
    have hz2 : ((partF m f n k) ++ ((lsF m (f + (k : Int) + 1) n).take i).map (List.cons (f + (k : Int)))) = partF m f n (k + 1) := by rw [partF_succ, List.take_of_length_le (by omega)]
    exact K.round_endW (L'' := [K.row (.slice Q2 vs3.length q2) 26 1 vs3.length (vs3.flatMap K.eV), K.inn F3 vs3 ((partF m f n k) ++ ((lsF m (f + (k : Int) + 1) n).take i).map (List.cons (f + (k : Int))))]) [.slice Q2 vs3.length q2, .int .i64 ((f + (k : Int)) + 1)] ⟨k + 1, Q2, q2, vs3, F3, by rw [show (f + (k : Int)) + 1 = f + ((k + 1 : Nat) : Int) by omega], by rw [hz2], hvo3, by rw [partF_succ, List.length_append, List.length_map]; omega, by omega⟩ (by simp [K.nth, intOf]; omega) (List.Sublist.cons_cons _ (List.Sublist.cons_cons _ (List.nil_sublist _))) (by kernel_rfl)
  try replace ht17 := of_decide_eq_false ht17
  refine K.exit ?_
  refine K.exit_then ?_
  refine K.exit_then ?_
  refine K.exit_here ?_
  refine K.norm_then ?_
  refine sr ?_
  refine qm ?_
  refine qa ?_
  refine sn ?_
  refine K.ret ?_
  refine K.end_ret (fun w _ => K.res_tmp rfl w) ?_
  have hkk : k = (n - f).toNat := by omega
  rw [← partF_all, ← hkk]
  exact K.rets (Q1, q1, vs, F) ⟨hvo, hvl⟩ rfl (List.Sublist.refl _)

theorem c89 {n : Int} (hn8 : n ≤ 9) : ∀ (m : Nat), m ≤ 9 → ∀ {f : Int} {w : World}, 0 ≤ f → f ≤ 10 → Calls Tryd.prog 89 [.int .i64 f, .int .i64 n, .int .i64 (m : Int)].toArray w (K.RetLT 26 (lsF m f n) w)
  | 0, _, f, w, _, _ => by
    refine (z89 (f := f) (n := n) w).mono fun e w' h => ?_
    obtain ⟨r, _, he, hst⟩ := h
    have key : K.Hold w [K.blk r 26 [.slice none 0 0]] (fun w' => K.St w [K.row (.slice (some ⟨r, 0, none⟩) 1 1) 26 1 1 [.slice none 0 0], K.inn (fun _ => False) [.slice none 0 0] [[]]] w') :=
      K.blk_row (n := 1) (size := 1) rfl (by decide) (K.inn_none [.slice none 0 0] [[]] rfl (fun i z hz => by
        cases i with
        | zero => simp at hz; exact ⟨hz, none, 0, rfl⟩
        | succ i => simp at hz) (K.reorder (.swap _ _ _) (fun w h => h)))
    exact ⟨(some ⟨r, 0, none⟩, 1, [.slice none 0 0], fun _ => False), ⟨rfl, rfl⟩, he, key w' hst⟩
  | m + 1, hm, _, _, hf, hf9 => s89 (by omega) hn8 (fun h1 h2 => c89 hn8 m (by omega) h1 h2) hf hf9


end Go.Proofs.YtoemnobfnnjopaaDoor
end
section
set_option linter.unusedSimpArgs false
set_option linter.unusedVariables false
namespace Go.Proofs.YtoemnobfnnjopaaDoor
open Go.RowKit Go
open Go.K (setd setn ev nth over cl eI eP eT setM setF)
attribute [local irreducible] K.blk K.row
/-- Some values of the first i lists. -/
structure Sel (zs : List (List Int)) (vs : List Value) (p : List Int → Bool) (i : Nat) (us : List Value) : Prop where
  a : us.all Value.oneCell' = true
  l : us.length = ((zs.take i).filter p).length
  s : ∀ (j : Nat) z, ((zs.take i).filter p)[j]? = some z → ∃ k : Nat, zs[k]? = some z ∧ us[j]? = vs[k]?
section
variable {zs : List (List Int)} {vs us : List Value} {p : List Int → Bool} {i : Nat} {v : Value}
theorem take_filt (hi : i < zs.length) : (zs.take (i + 1)).filter p = (zs.take i).filter p ++ (if p (zs.getD i default) = true then [zs.getD i default] else []) := by
  rw [List.take_add_one, List.getElem?_eq_getElem hi, List.filter_append, List.getD_eq_getElem?_getD, List.getElem?_eq_getElem hi]
  show _ ++ List.filter p [zs[i]] = _ ++ (if p zs[i] = true then [zs[i]] else [])
  cases h : p zs[i] <;> simp [h]
theorem sel_z : Sel zs vs p 0 [] := ⟨rfl, rfl, fun j z h => by simp at h⟩
theorem sel_y (hi : i < zs.length) (h : p (zs.getD i default) = true) (hv : vs.getD i default = v) (hl : vs.length = zs.length) (h1 : v.oneCell' = true) (H : Sel zs vs p i us) : Sel zs vs p (i + 1) (us ++ [v]) := by
  have e := take_filt (p := p) hi
  rw [if_pos h] at e
  refine ⟨by rw [List.all_append, H.a]; simp [h1], by rw [e, List.length_append, List.length_append, H.l]; rfl, fun j z hz => ?_⟩
  rw [e] at hz
  rcases Nat.lt_or_ge j us.length with h2 | h2
  · rw [List.getElem?_append_left (by rw [← H.l]; exact h2)] at hz
    obtain ⟨k, h3, h4⟩ := H.s j z hz
    exact ⟨k, h3, by rw [List.getElem?_append_left h2]; exact h4⟩
  · rw [List.getElem?_append_right (by rw [← H.l]; exact h2), ← H.l] at hz
    have hj : j - us.length = 0 := by
      rcases Nat.eq_zero_or_pos (j - us.length) with h5 | h5
      · exact h5
      · rw [List.getElem?_eq_none (by simp; omega)] at hz; cases hz
    rw [hj] at hz
    have hz2 : zs.getD i default = z := by simpa using hz
    refine ⟨i, ?_, ?_⟩
    · rw [← hz2, List.getD_eq_getElem?_getD, List.getElem?_eq_getElem hi]; rfl
    · rw [List.getElem?_append_right h2, hj]
      show some v = vs[i]?
      rw [← hv, List.getD_eq_getElem?_getD, List.getElem?_eq_getElem (l := vs) (by omega)]; rfl
theorem sel_n (hi : i < zs.length) (h : p (zs.getD i default) = false) (H : Sel zs vs p i us) : Sel zs vs p (i + 1) us := by
  have e := take_filt (p := p) hi
  rw [if_neg (by rw [h]; decide), List.append_nil] at e
  exact ⟨H.a, by rw [e]; exact H.l, fun j z hz => H.s j z (by rw [e] at hz; exact hz)⟩
end
theorem refC_len {r : List RvT} {z : List Int} (g : Good r) (h : z ∈ refC r) : z.length ≤ 9 := by
  obtain ⟨s, _, _, _, rfl⟩ := (refF_mem g).1 h
  exact selN_len
theorem refC_n {r : List RvT} (g : Good r) : (refC r).length ≤ 387420489 := by
  have hn := g.n.2
  have := few_le9 g
  exact Nat.le_trans (List.length_filter_le _ _) (lsF_len9 (by omega) (Int.le_refl _) (by omega))

set_option maxRecDepth 100000 in
set_option maxHeartbeats 1000000 in
theorem c65 {r : List RvT} {A : Option Addr} {c : Nat} {w : World} (hR : K.Rd w A 4 eR r) (g : Good r) :
    Calls Tryd.prog 65 [.slice A r.length c].toArray w (K.RetLT 26 (refC r) w) := by
  have hgn := g.n
  have hf9 := few_le9 g
  refine K.enter (args := [.slice A r.length c]) Tryd.func65 rfl (n := 39) rfl ?_
  simp only [List.replicate, List.cons_append, List.nil_append]
  refine sr ?_
  refine qa ?_
  refine sn ?_
  refine K.seq ?_
  refine sr ?_
  refine qa ?_
  refine sn ?_
  refine K.block ?_
  refine K.loopW [3] [2, 4, 5, 6, 7, 8, 9, 10, 11, 12, 13, 14, 15, 16, 17, 18, 19, 20, 21, 22, 23, 24, 25, 26, 27, 28, 29, 30, 31, 32, 33, 34, 35, 36, 37, 38, 39] (fun vi L => ∃ m : Nat, vi = [.int .i64 (m : Int)] ∧ L = [] ∧ m ≤ r.length + 1 ∧ ∀ q, q < m → refF r q = []) (fun vi => r.length + 1 - (intOf (K.nth vi 0)).toNat) ?_ ?_
  · exact ⟨0, rfl, rfl, Nat.zero_le _, fun j hj => absurd hj (Nat.not_lt_zero j)⟩
  intro vi vr L hJ
  obtain ⟨m, rfl, rfl, hmn, hnone⟩ := hJ
  try dsimp only [setd, setn, ev, nth, over, cl, eI, eP, eT, eR, setM, setF, List.map, List.append, List.drop, List.take]
  refine K.seq ?_
  refine sr ?_
  iterate 2 refine qm ?_
  refine qp (K.len_sl sl_22 rfl) ?_
  refine qp (K.leq rfl rfl) ?_
  refine sn ?_
  refine K.cond rfl (fun ht10 => ?_) (fun ht10 => ?_)
  · try replace ht10 := of_decide_eq_true ht10
    have hmr : m ≤ r.length := by omega
    refine K.skip ?_
    refine K.norm_then ?_
    refine K.seq ?_
    refine K.block ?_
    refine sr ?_
    refine qm ?_
    refine qp (K.len_sl sl_22 rfl) ?_
    refine qm ?_
    refine K.seq_loud (K.call_f cal_89 (fun F w hF hw => c89 (by omega) m (by omega) (by omega) (by omega))) rfl ?_
    rintro ⟨A16, c16, vs, F1⟩ ⟨hvo, hvl0⟩
    refine zN ?_
    have hvl : vs.length = (lsF m 0 (r.length : Int)).length := hvl0
    have hZl := lsF_len9 (m := m) (f := 0) (n := (r.length : Int)) (by omega) (by omega) (by omega)
    refine K.use_row K.m0 (fun hA16 => ?_)
    refine zN ?_
    refine qa ?_
    refine sn ?_
    refine sr ?_
    refine K.nil_row (e := 26) (size := 1) ?_
    refine qa ?_
    refine sn ?_
    refine K.seq ?_
    refine sr ?_
    refine qa ?_
    refine sn ?_
    refine K.block ?_
    refine K.loopW [5, 6] [17, 18, 19, 20, 21, 22, 23, 24, 25, 26, 27, 28, 29, 30, 31, 32, 33, 34, 35] (fun vi L => ∃ (i : Nat) (QO : Option Addr) (qo : Nat) (us : List Value), vi = [.slice QO us.length qo, .int .i64 (i : Int)] ∧ L = [K.row (.slice QO us.length qo) 26 1 us.length (us.flatMap K.eV), K.row (.slice A16 vs.length c16) 26 1 vs.length (vs.flatMap K.eV), K.inn F1 vs (lsF m 0 (r.length : Int))] ∧ Sel (lsF m 0 (r.length : Int)) vs (corZ r) i us ∧ i ≤ (lsF m 0 (r.length : Int)).length) (fun vi => (lsF m 0 (r.length : Int)).length - (intOf (K.nth vi 1)).toNat) ?_ ?_
    · exact ⟨0, none, 0, [], rfl, rfl, sel_z, Nat.zero_le _⟩
    intro vi vr L hJ
    obtain ⟨i, QO, qo, us, rfl, rfl, hsel, hin⟩ := hJ
    try dsimp only [setd, setn, ev, nth, over, cl, eI, eP, eT, eR, setM, setF, List.map, List.append, List.drop, List.take]
    refine K.seq ?_
    refine sr ?_
    iterate 2 refine qm ?_
    refine qp (K.len_sl sl_50 rfl) ?_
    refine qp (K.lss rfl rfl) ?_
    refine sn ?_
    refine K.cond rfl (fun ht20 => ?_) (fun ht20 => ?_)
    · try replace ht20 := of_decide_eq_true ht20
      have hi : i < (lsF m 0 (r.length : Int)).length := by omega
      have hzl : ((lsF m 0 (r.length : Int)).getD i default).length = m := lsF_ln (K.gt_mem hi)
      have hul := hsel.l
      have hfl : (((lsF m 0 (r.length : Int)).take i).filter (corZ r)).length ≤ i := by
        refine Nat.le_trans (List.length_filter_le _ _) ?_
        rw [List.length_take]; omega
      refine K.use_innS (i := i) K.m2 hi (fun A3 c3 hv3 hsl => ?_)
      refine K.skip ?_
      refine K.norm_then ?_
      refine K.seq ?_
      refine K.block ?_
      refine sr ?_
      iterate 3 refine qm ?_
      refine K.seq_ix (M := [K.row (.slice A16 vs.length c16) 26 1 vs.length (vs.flatMap K.eV)]) _ (K.Sl.own (w0 := w) (t := 26) (c := c16) (size := 1) (e := K.eV) hA16 (fun _ => rfl)) sl_50 rfl rfl rfl (by omega) rfl ?_
      intro p26 hp26
      refine zN ?_
      refine K.seq_sil ((K.load1 one_26 rfl (hp26.at1 (K.m1))).cast hv3) rfl ?_
      refine zN ?_
      refine K.seq_call (K.call_g cal_90 (fun F w hF hw => c90 (hR.pass hw) g (K.Rd.inn hw (hF _ (K.m2)) hi hv3) (by omega))) rfl ?_
      refine zN ?_
      refine sn ?_
      refine K.cond rfl (fun ht28 => ?_) (fun ht28 => ?_)
      · try replace ht28 := of_decide_eq_true ht28
        refine K.region_lit ?_
        iterate 3 refine qm ?_
        refine K.seq_ix (M := [K.row (.slice A16 vs.length c16) 26 1 vs.length (vs.flatMap K.eV)]) _ (K.Sl.own (w0 := w) (t := 26) (c := c16) (size := 1) (e := K.eV) hA16 (fun _ => rfl)) sl_50 rfl rfl rfl (by omega) rfl ?_
        intro p32 hp32
        refine zN ?_
        refine K.seq_sil ((K.load1 one_26 rfl (hp32.at1 (K.m1))).cast hv3) rfl ?_
        refine zN ?_
        refine K.seq_new (K.buildSlice (bs50 _ _ _)) rfl ?_
        intro b34
        refine zN ?_
        refine K.seq_upd (K.append el_50 rfl rfl (K.PtrL.own' K.m0) rfl rfl (by decide) (by omega) (by omega) (fun _ _ => K.rp1)) rfl ?_
        rintro ⟨g35, c35⟩ _
        refine zN ?_
        refine qa ?_
        refine K.seq_nil ?_
        refine K.norm_block ?_
        refine K.norm_then ?_
        refine K.region_lit ?_
        refine qm ?_
        refine qp (K.add_i64 rfl rfl (by omega)) ?_
        refine qa ?_
        refine K.seq_nil ?_
        have hcz : corZ r ((lsF m 0 (r.length : Int)).getD i default) = true := by simpa using ht28
        exact K.round_endW (L'' := [K.row (.slice (some ⟨g35, 0, none⟩) (us.length + 1) c35) 26 1 (us.length + 1) (us.flatMap K.eV ++ [(.slice A3 ((lsF m 0 (r.length : Int)).getD i default).length c3)]), K.row (.slice A16 vs.length c16) 26 1 vs.length (vs.flatMap K.eV), K.inn F1 vs (lsF m 0 (r.length : Int))]) [.slice (some ⟨g35, 0, none⟩) (us.length + 1) c35, .int .i64 ((i : Int) + 1)] ⟨i + 1, some ⟨g35, 0, none⟩, c35, us ++ [(.slice A3 ((lsF m 0 (r.length : Int)).getD i default).length c3)], by rw [List.length_append]; rfl, by rw [List.length_append, List.flatMap_append]; rfl, sel_y hi hcz hv3 hvl rfl hsel, by omega⟩ (by simp [K.nth, intOf]; omega) (List.Sublist.cons _ (List.Sublist.refl _)) (by kernel_rfl)
      try replace ht28 := of_decide_eq_false ht28
      refine K.skip ?_
      refine K.norm_block ?_
      refine K.norm_then ?_
      refine K.region_lit ?_
      refine qm ?_
      refine qp (K.add_i64 rfl rfl (by omega)) ?_
      refine qa ?_
      refine K.seq_nil ?_
      have hcz : corZ r ((lsF m 0 (r.length : Int)).getD i default) = false := by simpa using ht28
      exact K.round_endW (L'' := [K.row (.slice QO us.length qo) 26 1 us.length (us.flatMap K.eV), K.row (.slice A16 vs.length c16) 26 1 vs.length (vs.flatMap K.eV), K.inn F1 vs (lsF m 0 (r.length : Int))]) [.slice QO us.length qo, .int .i64 ((i : Int) + 1)] ⟨i + 1, QO, qo, us, rfl, rfl, sel_n hi hcz hsel, by omega⟩ (by simp [K.nth, intOf]; omega) (List.Sublist.refl _) (by kernel_rfl)
    try replace ht20 := of_decide_eq_false ht20
    have e0 : i = (lsF m 0 (r.length : Int)).length := by omega
    have hfe : (((lsF m 0 (r.length : Int)).take i).filter (corZ r)) = refF r m := by rw [e0, List.take_length]; rfl
    refine K.exit ?_
    refine K.exit_then ?_
    refine K.exit_then ?_
    refine K.exit_here ?_
    refine K.norm_then ?_
    refine sr ?_
    refine qm ?_
    refine qp (K.len_sl sl_50 rfl) ?_
    refine qp (K.gtr rfl rfl) ?_
    refine sn ?_
    refine K.cond rfl (fun ht38 => ?_) (fun ht38 => ?_)
    · try replace ht38 := of_decide_eq_true ht38
      refine sr ?_
      refine qm ?_
      refine qa ?_
      refine sn ?_
      refine K.ret ?_
      refine K.ret_block ?_
      refine K.ret_then ?_
      refine K.ret_then ?_
      refine K.ret_block ?_
      refine K.ret_then ?_
      refine K.end_ret (fun w _ => K.res_tmp rfl w) ?_
      have hme : m = pcS (fewN r) := by
        rcases Nat.lt_trichotomy m (pcS (fewN r)) with h | h | h
        · have h1 := refF_none g h
          rw [← hfe] at h1
          have h2 := hsel.l
          rw [h1] at h2
          simp only [List.length_nil] at h2
          omega
        · exact h
        · have h1 := hnone _ h
          have h2 := refC_few g
          unfold refC at h2
          rw [h1] at h2
          simp at h2
      have hfc : (((lsF m 0 (r.length : Int)).take i).filter (corZ r)) = refC r := by unfold refC; rw [hfe, hme]
      have hsl := hsel.l
      have hss := hsel.s
      rw [hfc] at hsl hss
      refine K.weak (L' := [K.row (.slice QO us.length qo) 26 1 us.length (us.flatMap K.eV), K.inn F1 vs (lsF m 0 (r.length : Int))]) (List.Sublist.cons_cons _ (List.Sublist.cons _ (List.Sublist.refl _))) ?_
      refine K.reorder (.swap _ _ _) ?_
      refine K.inn_sel (vs' := us) (zs' := refC r) hsl hss ?_
      refine K.reorder (.swap _ _ _) ?_
      exact K.rets (QO, qo, us, F1) ⟨hsel.a, hsl⟩ rfl (List.Sublist.refl _)
    try replace ht38 := of_decide_eq_false ht38
    refine K.skip ?_
    refine K.norm_block ?_
    refine K.norm_then ?_
    refine K.region_lit ?_
    refine qm ?_
    refine qp (K.add_i64 rfl rfl (by omega)) ?_
    refine qa ?_
    refine K.seq_nil ?_
    have hnil : refF r m = [] := by
      rw [← hfe]
      exact List.eq_nil_of_length_eq_zero (by have := hsel.l; omega)
    exact K.round_endW (L'' := []) [.int .i64 ((m : Int) + 1)] ⟨m + 1, rfl, rfl, by omega, K.lt_succ_case hnone hnil⟩ (by simp [K.nth, intOf]; omega) (List.nil_sublist _) (by kernel_rfl)
  try replace ht10 := of_decide_eq_false ht10
  refine K.exit ?_
  refine K.exit_then ?_
  refine K.exit_then ?_
  refine K.exit_here ?_
  refine K.norm_then ?_
  refine sr ?_
  refine qa ?_
  refine sn ?_
  refine K.ret ?_
  refine K.end_ret (fun w _ => K.res_tmp rfl w) ?_
  exfalso
  have h1 := hnone _ (show pcS (fewN r) < m by omega)
  have h2 := refC_few g
  unfold refC at h2
  rw [h1] at h2
  simp at h2

set_option maxRecDepth 100000 in
theorem e27 {r : List RvT} {A : Option Addr} {c : Nat} {w : World} (hR : K.Rd w A 4 eR r) (hn : r.length ≤ 4611686018427387904) (hc : (chk r).2.2 ≠ 0) :
    Calls Tryd.prog 27 [.slice A r.length c].toArray w (K.RetIE (fewL r) (chk r).2.2 w) := by
  refine K.enter (args := [.slice A r.length c]) Tryd.func27 rfl (n := 19) rfl ?_
  simp only [List.replicate, List.cons_append, List.nil_append]
  refine sr ?_
  iterate 2 refine qa ?_
  refine sn ?_
  refine sr ?_
  refine qm ?_
  refine K.seq_call (K.call_g cal_15 (fun F w hF hw => c15 (hR.pass hw) hn)) rfl ?_
  refine zN ?_
  refine qm ?_
  refine qx ?_
  refine qx ?_
  refine qx ?_
  iterate 3 refine qa ?_
  refine sn ?_
  refine K.seq ?_
  refine sr ?_
  refine qm ?_
  refine qp (K.neq rfl rfl) ?_
  refine sn ?_
  refine K.cond_true (by exact congrArg Value.bool (decide_eq_true hc)) ?_
  refine sr ?_
  refine qm ?_
  iterate 2 refine qa ?_
  refine sn ?_
  refine K.ret ?_
  refine K.ret_then ?_
  refine K.end_ret (fun w _ => K.res_tmp2 rfl w) ?_
  have e2 : fewL r = [] := by unfold fewL; rw [if_pos hc]
  rw [e2]
  exact K.inn_none [.slice none 0 0] [[]] rfl (fun i z hz => by
    cases i with
    | zero => simp at hz; exact ⟨hz, none, 0, rfl⟩
    | succ i => simp at hz) (K.rets (none, 0, fun _ => False) trivial rfl (List.Sublist.cons_cons _ (List.nil_sublist _)))

set_option maxRecDepth 100000 in
theorem g27 {r : List RvT} {A : Option Addr} {c : Nat} {w : World} (hR : K.Rd w A 4 eR r) (hn : r.length ≤ 4611686018427387904) (hc : (chk r).2.2 = 0) :
    Calls Tryd.prog 27 [.slice A r.length c].toArray w (K.RetIE (fewL r) (chk r).2.2 w) := by
  have g : Good r := chk_good hc
  have hgn := g.n
  obtain ⟨hC0, hCf⟩ := refC_fst hc
  have hCn := refC_n g
  refine K.enter (args := [.slice A r.length c]) Tryd.func27 rfl (n := 19) rfl ?_
  simp only [List.replicate, List.cons_append, List.nil_append]
  refine sr ?_
  iterate 2 refine qa ?_
  refine sn ?_
  refine sr ?_
  refine qm ?_
  refine K.seq_call (K.call_g cal_15 (fun F w hF hw => c15 (hR.pass hw) hn)) rfl ?_
  refine zN ?_
  refine qm ?_
  refine qx ?_
  refine qx ?_
  refine qx ?_
  iterate 3 refine qa ?_
  refine sn ?_
  refine K.seq ?_
  refine sr ?_
  refine qm ?_
  refine qp (K.neq rfl rfl) ?_
  refine sn ?_
  refine K.cond_false (by exact congrArg Value.bool (decide_eq_false (by omega))) ?_
  refine K.skip ?_
  refine K.norm_then ?_
  refine sr ?_
  refine qm ?_
  refine K.seq_loud (K.call_f cal_65 (fun F w hF hw => c65 (hR.pass hw) g)) rfl ?_
  rintro ⟨A17, c17, vs, F1⟩ ⟨hvo, hvl0⟩
  refine zN ?_
  have hvl : vs.length = (refC r).length := hvl0
  refine K.use_row K.m0 (fun hA17 => ?_)
  refine K.use_innS (i := 0) K.m1 hC0 (fun A3 c3 hv3 hsl => ?_)
  refine zN ?_
  refine K.seq_ix (M := [K.row (.slice A17 vs.length c17) 26 1 vs.length (vs.flatMap K.eV)]) 0 (K.Sl.own (w0 := w) (t := 26) (c := c17) (size := 1) (e := K.eV) hA17 (fun _ => rfl)) sl_50 rfl rfl (by omega) (by omega) rfl ?_
  intro p18 hp18
  refine zN ?_
  refine K.seq_sil ((K.load1 one_26 rfl (hp18.at1 (K.m0))).cast hv3) rfl ?_
  refine zN ?_
  iterate 2 refine qa ?_
  refine sn ?_
  refine K.ret ?_
  refine K.end_ret (fun w _ => K.res_tmp2 rfl w) ?_
  rw [hc]
  refine K.weak (L' := [K.inn F1 vs (refC r)]) (List.Sublist.cons _ (List.Sublist.refl _)) ?_
  refine K.inn_pick hC0 hv3 ?_
  rw [← hCf]
  exact K.rets (A3, c3, F1) trivial rfl (List.Sublist.refl _)

theorem c27 {r : List RvT} {A : Option Addr} {c : Nat} {w : World} (hR : K.Rd w A 4 eR r) (hn : r.length ≤ 4611686018427387904) : Calls Tryd.prog 27 [.slice A r.length c].toArray w (K.RetIE (fewL r) (chk r).2.2 w) := by
  by_cases hc : (chk r).2.2 = 0
  · exact g27 hR hn hc
  · exact e27 hR hn hc


set_option maxRecDepth 100000 in
theorem e29 {r : List RvT} {A : Option Addr} {c : Nat} {w : World} (hR : K.Rd w A 4 eR r) (hn : r.length ≤ 4611686018427387904) (hc : (chk r).2.2 ≠ 0) :
    Calls Tryd.prog 29 [.slice A r.length c].toArray w (Ret2 (mustL r) (mayL r) (chk r).2.2 w) := by
  refine K.enter (args := [.slice A r.length c]) Tryd.func29 rfl (n := 60) rfl ?_
  simp only [List.replicate, List.cons_append, List.nil_append]
  refine sr ?_
  iterate 3 refine qa ?_
  refine sn ?_
  refine sr ?_
  refine qm ?_
  refine K.seq_call (K.call_g cal_15 (fun F w hF hw => c15 (hR.pass hw) hn)) rfl ?_
  refine zN ?_
  refine qm ?_
  refine qx ?_
  refine qx ?_
  refine qx ?_
  iterate 3 refine qa ?_
  refine sn ?_
  refine K.seq ?_
  refine sr ?_
  refine qm ?_
  refine qp (K.neq rfl rfl) ?_
  refine sn ?_
  refine K.cond_true (by exact congrArg Value.bool (decide_eq_true hc)) ?_
  refine sr ?_
  refine qm ?_
  iterate 3 refine qa ?_
  refine sn ?_
  refine K.ret ?_
  refine K.ret_then ?_
  refine K.end_ret (fun w _ => K.res_ttt rfl w) ?_
  exact ret2_0 (by unfold mustL; rw [if_pos hc]) (by unfold mayL; rw [if_pos hc]) rfl rfl

set_option maxRecDepth 100000 in
set_option maxHeartbeats 1000000 in
theorem g29 {r : List RvT} {A : Option Addr} {c : Nat} {w : World} (hR : K.Rd w A 4 eR r) (hn : r.length ≤ 4611686018427387904) (hc : (chk r).2.2 = 0) :
    Calls Tryd.prog 29 [.slice A r.length c].toArray w (Ret2 (mustL r) (mayL r) (chk r).2.2 w) := by
  have g : Good r := chk_good hc
  have hgn := g.n
  obtain ⟨hC0, hCf⟩ := refC_fst hc
  have hCn := refC_n g
  obtain ⟨hmz, hyz⟩ := must_ref hc
  refine K.enter (args := [.slice A r.length c]) Tryd.func29 rfl (n := 60) rfl ?_
  simp only [List.replicate, List.cons_append, List.nil_append]
  refine sr ?_
  iterate 3 refine qa ?_
  refine sn ?_
  refine sr ?_
  refine qm ?_
  refine K.seq_call (K.call_g cal_15 (fun F w hF hw => c15 (hR.pass hw) hn)) rfl ?_
  refine zN ?_
  refine qm ?_
  refine qx ?_
  refine qx ?_
  refine qx ?_
  iterate 3 refine qa ?_
  refine sn ?_
  refine K.seq ?_
  refine sr ?_
  refine qm ?_
  refine qp (K.neq rfl rfl) ?_
  refine sn ?_
  refine K.cond_false (by exact congrArg Value.bool (decide_eq_false (by omega))) ?_
  refine K.skip ?_
  refine K.norm_then ?_
  refine sr ?_
  refine qm ?_
  refine K.seq_loud (K.call_f cal_65 (fun F w hF hw => c65 (hR.pass hw) g)) rfl ?_
  rintro ⟨A24, c24, vs, F1⟩ ⟨hvo, hvl0⟩
  refine zN ?_
  have hvl : vs.length = (refC r).length := hvl0
  refine K.use_row K.m0 (fun hA24 => ?_)
  refine zN ?_
  refine qa ?_
  refine sn ?_
  refine sr ?_
  refine K.nil_row (e := 3) (size := 1) ?_
  refine K.nil_row (e := 3) (size := 1) ?_
  iterate 2 refine qa ?_
  refine sn ?_
  refine K.seq ?_
  refine sr ?_
  refine qa ?_
  refine sn ?_
  refine K.block ?_
  refine K.loopW [9, 10, 11] [12, 13, 25, 26, 27, 28, 29, 30, 31, 32, 33, 34, 35, 36, 37, 38, 39, 40, 41, 42, 43, 44, 45, 46, 47, 48, 49, 50, 51, 52, 53, 54, 55, 56, 57, 58] (fun vi L => ∃ (i : Nat) (QM : Option Addr) (cM : Nat) (QY : Option Addr) (cY : Nat), vi = [.slice QM (mustZ r i).length cM, .slice QY (mayZ r i).length cY, .int .i64 (i : Int)] ∧ L = [K.row (.slice QY (mayZ r i).length cY) 3 1 (mayZ r i).length ((mayZ r i).flatMap K.eI), K.row (.slice QM (mustZ r i).length cM) 3 1 (mustZ r i).length ((mustZ r i).flatMap K.eI), K.row (.slice A24 vs.length c24) 26 1 vs.length (vs.flatMap K.eV), K.inn F1 vs (refC r)] ∧ i ≤ r.length) (fun vi => r.length - (intOf (K.nth vi 2)).toNat) ?_ ?_
  · exact ⟨0, none, 0, none, 0, rfl, rfl, Nat.zero_le _⟩
  intro vi vr L hJ
  obtain ⟨i, QM, cM, QY, cY, rfl, rfl, hin⟩ := hJ
  try dsimp only [setd, setn, ev, nth, over, cl, eI, eP, eT, eR, setM, setF, List.map, List.append, List.drop, List.take]
  refine K.seq ?_
  refine sr ?_
  iterate 2 refine qm ?_
  refine qp (K.len_sl sl_22 rfl) ?_
  refine qp (K.lss rfl rfl) ?_
  refine sn ?_
  refine K.cond rfl (fun ht28 => ?_) (fun ht28 => ?_)
  · try replace ht28 := of_decide_eq_true ht28
    have hi : i < r.length := by omega
    have hml : (mustZ r i).length ≤ i := selN_len
    have hyl : (mayZ r i).length ≤ i := selN_len
    refine K.skip ?_
    refine K.norm_then ?_
    refine K.seq ?_
    refine K.block ?_
    refine sr ?_
    refine qa ?_
    refine sn ?_
    refine K.seq ?_
    refine sr ?_
    refine qa ?_
    refine sn ?_
    refine K.block ?_
    refine K.loopW [12, 13] [31, 32, 33, 34, 35, 36, 37, 38, 39, 40, 41, 42, 43, 44] (fun vi L => ∃ k : Nat, vi = [.int .i64 ((hasN (refC r) i k : Nat) : Int), .int .i64 (k : Int)] ∧ L = [K.row (.slice QY (mayZ r i).length cY) 3 1 (mayZ r i).length ((mayZ r i).flatMap K.eI), K.row (.slice QM (mustZ r i).length cM) 3 1 (mustZ r i).length ((mustZ r i).flatMap K.eI), K.row (.slice A24 vs.length c24) 26 1 vs.length (vs.flatMap K.eV), K.inn F1 vs (refC r)] ∧ k ≤ (refC r).length) (fun vi => (refC r).length - (intOf (K.nth vi 1)).toNat) ?_ ?_
    · exact ⟨0, rfl, rfl, Nat.zero_le _⟩
    intro vi vr L hJ
    obtain ⟨k, rfl, rfl, hkn⟩ := hJ
    try dsimp only [setd, setn, ev, nth, over, cl, eI, eP, eT, eR, setM, setF, List.map, List.append, List.drop, List.take]
    refine K.seq ?_
    refine sr ?_
    iterate 2 refine qm ?_
    refine qp (K.len_sl sl_50 rfl) ?_
    refine qp (K.lss rfl rfl) ?_
    refine sn ?_
    refine K.cond rfl (fun ht34 => ?_) (fun ht34 => ?_)
    · try replace ht34 := of_decide_eq_true ht34
      have hk : k < (refC r).length := by omega
      have hzl := refC_len g (K.gt_mem hk)
      have hhl := has_le (zs := (refC r)) (i := i) (k := k)
      refine K.use_innS (i := k) K.m3 hk (fun A3 c3 hv3 hsl => ?_)
      refine K.skip ?_
      refine K.norm_then ?_
      refine K.seq ?_
      refine K.block ?_
      refine sr ?_
      iterate 2 refine qm ?_
      refine K.seq_ix (M := [K.row (.slice A24 vs.length c24) 26 1 vs.length (vs.flatMap K.eV)]) _ (K.Sl.own (w0 := w) (t := 26) (c := c24) (size := 1) (e := K.eV) hA24 (fun _ => rfl)) sl_50 rfl rfl rfl (by omega) rfl ?_
      intro p39 hp39
      refine zN ?_
      refine K.seq_sil ((K.load1 one_26 rfl (hp39.at1 (K.m2))).cast hv3) rfl ?_
      refine zN ?_
      refine qm ?_
      refine K.seq_call (K.call_g cal_38 (fun F w hF hw => c38 (K.Rd.inn hw (hF _ (K.m3)) hk hv3) (by omega))) rfl ?_
      refine zN ?_
      refine sn ?_
      refine K.cond rfl (fun ht42 => ?_) (fun ht42 => ?_)
      · try replace ht42 := of_decide_eq_true ht42
        refine K.region_lit ?_
        refine qm ?_
        refine qp (K.add_i64 rfl rfl (by omega)) ?_
        refine qa ?_
        refine K.seq_nil ?_
        refine K.norm_block ?_
        refine K.norm_then ?_
        refine K.region_lit ?_
        refine qm ?_
        refine qp (K.add_i64 rfl rfl (by omega)) ?_
        refine qa ?_
        refine K.seq_nil ?_
        have hhs := has_s (i := i) hk
        rw [if_pos (by simpa using ht42)] at hhs
        have hhv : ((hasN (refC r) i (k + 1) : Nat) : Int) = (((hasN (refC r) i k : Nat) : Int) + 1) := by rw [hhs] <;> rfl
        exact K.round_endW (L'' := [K.row (.slice QY (mayZ r i).length cY) 3 1 (mayZ r i).length ((mayZ r i).flatMap K.eI), K.row (.slice QM (mustZ r i).length cM) 3 1 (mustZ r i).length ((mustZ r i).flatMap K.eI), K.row (.slice A24 vs.length c24) 26 1 vs.length (vs.flatMap K.eV), K.inn F1 vs (refC r)]) [.int .i64 (((hasN (refC r) i k : Nat) : Int) + 1), .int .i64 ((k : Int) + 1)] ⟨k + 1, by rw [hhv]; rfl, rfl, by omega⟩ (by simp [K.nth, intOf]; omega) (List.Sublist.refl _) (by kernel_rfl)
      try replace ht42 := of_decide_eq_false ht42
      refine K.skip ?_
      refine K.norm_block ?_
      refine K.norm_then ?_
      refine K.region_lit ?_
      refine qm ?_
      refine qp (K.add_i64 rfl rfl (by omega)) ?_
      refine qa ?_
      refine K.seq_nil ?_
      have hhs := has_s (i := i) hk
      rw [if_neg (by simpa using ht42)] at hhs
      have hhv : ((hasN (refC r) i (k + 1) : Nat) : Int) = ((hasN (refC r) i k : Nat) : Int) := by rw [hhs] <;> rfl
      exact K.round_endW (L'' := [K.row (.slice QY (mayZ r i).length cY) 3 1 (mayZ r i).length ((mayZ r i).flatMap K.eI), K.row (.slice QM (mustZ r i).length cM) 3 1 (mustZ r i).length ((mustZ r i).flatMap K.eI), K.row (.slice A24 vs.length c24) 26 1 vs.length (vs.flatMap K.eV), K.inn F1 vs (refC r)]) [.int .i64 ((hasN (refC r) i k : Nat) : Int), .int .i64 ((k : Int) + 1)] ⟨k + 1, by rw [hhv]; rfl, rfl, by omega⟩ (by simp [K.nth, intOf]; omega) (List.Sublist.refl _) (by kernel_rfl)
    try replace ht34 := of_decide_eq_false ht34
    have e0 : k = (refC r).length := by omega
    subst e0
    refine K.exit ?_
    refine K.exit_then ?_
    refine K.exit_then ?_
    refine K.exit_here ?_
    refine K.norm_then ?_
    refine K.seq ?_
    refine sr ?_
    iterate 2 refine qm ?_
    refine qp (K.len_sl sl_50 rfl) ?_
    refine qp (K.eql rfl rfl) ?_
    refine sn ?_
    refine K.cond rfl (fun ht48 => ?_) (fun ht48 => ?_)
    · try replace ht48 := of_decide_eq_true ht48
      refine K.region_lit ?_
      iterate 2 refine qm ?_
      refine K.seq_new (K.buildSlice (bs1 _)) rfl ?_
      intro b51
      refine zN ?_
      refine K.seq_upd (K.append el_26 rfl rfl (K.PtrL.own' (K.m0)) rfl rfl (by decide) (by omega) (by omega) (fun _ _ => K.rp2)) rfl ?_
      rintro ⟨g52, c52⟩ _
      refine zN ?_
      refine qa ?_
      refine sn ?_
      refine sr ?_
      refine qm ?_
      refine qp (K.gtr rfl rfl) ?_
      refine sn ?_
      refine K.cond rfl (fun ht54 => ?_) (fun ht54 => ?_)
      · try replace ht54 := of_decide_eq_true ht54
        refine K.region_lit ?_
        iterate 2 refine qm ?_
        refine K.seq_new (K.buildSlice (bs1 _)) rfl ?_
        intro b57
        refine zN ?_
        refine K.seq_upd (K.append el_26 rfl rfl (K.PtrL.own' (K.m0)) rfl rfl (by decide) (by omega) (by omega) (fun _ _ => K.rp2)) rfl ?_
        rintro ⟨g58, c58⟩ _
        refine zN ?_
        refine qa ?_
        refine K.seq_nil ?_
        refine K.norm_block ?_
        refine K.norm_then ?_
        refine K.region_lit ?_
        refine qm ?_
        refine qp (K.add_i64 rfl rfl (by omega)) ?_
        refine qa ?_
        refine K.seq_nil ?_
        have hm : (mustZ r (i + 1)) = (mustZ r i) ++ [(i : Int)] := selN_yes (p := fun i => (refC r).all fun z => decide ((i : Int) ∈ z)) (has_all.1 (by omega))
        have hy : (mayZ r (i + 1)) = (mayZ r i) ++ [(i : Int)] := selN_yes (p := fun i => (refC r).any fun z => decide ((i : Int) ∈ z)) (has_any.1 (by omega))
        exact K.round_endW (L'' := [K.row (.slice (some ⟨g58, 0, none⟩) ((mayZ r i).length + 1) c58) 3 1 ((mayZ r i).length + 1) ((mayZ r i).flatMap K.eI ++ [.int .i64 (i : Int)]), K.row (.slice (some ⟨g52, 0, none⟩) ((mustZ r i).length + 1) c52) 3 1 ((mustZ r i).length + 1) ((mustZ r i).flatMap K.eI ++ [.int .i64 (i : Int)]), K.row (.slice A24 vs.length c24) 26 1 vs.length (vs.flatMap K.eV), K.inn F1 vs (refC r)]) [.slice (some ⟨g52, 0, none⟩) ((mustZ r i).length + 1) c52, .slice (some ⟨g58, 0, none⟩) ((mayZ r i).length + 1) c58, .int .i64 ((i : Int) + 1)] ⟨i + 1, some ⟨g52, 0, none⟩, c52, some ⟨g58, 0, none⟩, c58, by rw [hm, hy, List.length_append, List.length_append] <;> rfl, by rw [hm, hy, List.length_append, List.length_append, List.flatMap_append, List.flatMap_append] <;> rfl, by omega⟩ (by simp [K.nth, intOf]; omega) (List.Sublist.cons _ (List.Sublist.cons _ (List.Sublist.refl _))) (by kernel_rfl)
      try replace ht54 := of_decide_eq_false ht54
      refine K.skip ?_
      refine K.norm_block ?_
      refine K.norm_then ?_
      refine K.region_lit ?_
      refine qm ?_
      refine qp (K.add_i64 rfl rfl (by omega)) ?_
      refine qa ?_
      refine K.seq_nil ?_
      have hm : (mustZ r (i + 1)) = (mustZ r i) ++ [(i : Int)] := selN_yes (p := fun i => (refC r).all fun z => decide ((i : Int) ∈ z)) (has_all.1 (by omega))
      have hy : (mayZ r (i + 1)) = (mayZ r i) := selN_no (p := fun i => (refC r).any fun z => decide ((i : Int) ∈ z)) (Bool.eq_false_iff.2 (fun h => by have := has_any.2 h; omega))
      exact K.round_endW (L'' := [K.row (.slice QY (mayZ r i).length cY) 3 1 (mayZ r i).length ((mayZ r i).flatMap K.eI), K.row (.slice (some ⟨g52, 0, none⟩) ((mustZ r i).length + 1) c52) 3 1 ((mustZ r i).length + 1) ((mustZ r i).flatMap K.eI ++ [.int .i64 (i : Int)]), K.row (.slice A24 vs.length c24) 26 1 vs.length (vs.flatMap K.eV), K.inn F1 vs (refC r)]) [.slice (some ⟨g52, 0, none⟩) ((mustZ r i).length + 1) c52, .slice QY (mayZ r i).length cY, .int .i64 ((i : Int) + 1)] ⟨i + 1, some ⟨g52, 0, none⟩, c52, QY, cY, by rw [hm, hy, List.length_append] <;> rfl, by rw [hm, hy, List.length_append, List.flatMap_append] <;> rfl, by omega⟩ (by simp [K.nth, intOf]; omega) (List.Sublist.cons _ (List.Sublist.refl _)) (by kernel_rfl)
    try replace ht48 := of_decide_eq_false ht48
    refine K.skip ?_
    refine K.norm_then ?_
    refine sr ?_
    refine qm ?_
    refine qp (K.gtr rfl rfl) ?_
    refine sn ?_
    refine K.cond rfl (fun ht54 => ?_) (fun ht54 => ?_)
    · try replace ht54 := of_decide_eq_true ht54
      refine K.region_lit ?_
      iterate 2 refine qm ?_
      refine K.seq_new (K.buildSlice (bs1 _)) rfl ?_
      intro b57
      refine zN ?_
      refine K.seq_upd (K.append el_26 rfl rfl (K.PtrL.own' (K.m0)) rfl rfl (by decide) (by omega) (by omega) (fun _ _ => K.rp1)) rfl ?_
      rintro ⟨g58, c58⟩ _
      refine zN ?_
      refine qa ?_
      refine K.seq_nil ?_
      refine K.norm_block ?_
      refine K.norm_then ?_
      refine K.region_lit ?_
      refine qm ?_
      refine qp (K.add_i64 rfl rfl (by omega)) ?_
      refine qa ?_
      refine K.seq_nil ?_
      have hm : (mustZ r (i + 1)) = (mustZ r i) := selN_no (p := fun i => (refC r).all fun z => decide ((i : Int) ∈ z)) (Bool.eq_false_iff.2 (fun h => by have := has_all.2 h; omega))
      have hy : (mayZ r (i + 1)) = (mayZ r i) ++ [(i : Int)] := selN_yes (p := fun i => (refC r).any fun z => decide ((i : Int) ∈ z)) (has_any.1 (by omega))
      exact K.round_endW (L'' := [K.row (.slice (some ⟨g58, 0, none⟩) ((mayZ r i).length + 1) c58) 3 1 ((mayZ r i).length + 1) ((mayZ r i).flatMap K.eI ++ [.int .i64 (i : Int)]), K.row (.slice QM (mustZ r i).length cM) 3 1 (mustZ r i).length ((mustZ r i).flatMap K.eI), K.row (.slice A24 vs.length c24) 26 1 vs.length (vs.flatMap K.eV), K.inn F1 vs (refC r)]) [.slice QM (mustZ r i).length cM, .slice (some ⟨g58, 0, none⟩) ((mayZ r i).length + 1) c58, .int .i64 ((i : Int) + 1)] ⟨i + 1, QM, cM, some ⟨g58, 0, none⟩, c58, by rw [hm, hy, List.length_append] <;> rfl, by rw [hm, hy, List.length_append, List.flatMap_append] <;> rfl, by omega⟩ (by simp [K.nth, intOf]; omega) (List.Sublist.cons _ (List.Sublist.refl _)) (by kernel_rfl)
    try replace ht54 := of_decide_eq_false ht54
    refine K.skip ?_
    refine K.norm_block ?_
    refine K.norm_then ?_
    refine K.region_lit ?_
    refine qm ?_
    refine qp (K.add_i64 rfl rfl (by omega)) ?_
    refine qa ?_
    refine K.seq_nil ?_
    have hm : (mustZ r (i + 1)) = (mustZ r i) := selN_no (p := fun i => (refC r).all fun z => decide ((i : Int) ∈ z)) (Bool.eq_false_iff.2 (fun h => by have := has_all.2 h; omega))
    have hy : (mayZ r (i + 1)) = (mayZ r i) := selN_no (p := fun i => (refC r).any fun z => decide ((i : Int) ∈ z)) (Bool.eq_false_iff.2 (fun h => by have := has_any.2 h; omega))
    exact K.round_endW (L'' := [K.row (.slice QY (mayZ r i).length cY) 3 1 (mayZ r i).length ((mayZ r i).flatMap K.eI), K.row (.slice QM (mustZ r i).length cM) 3 1 (mustZ r i).length ((mustZ r i).flatMap K.eI), K.row (.slice A24 vs.length c24) 26 1 vs.length (vs.flatMap K.eV), K.inn F1 vs (refC r)]) [.slice QM (mustZ r i).length cM, .slice QY (mayZ r i).length cY, .int .i64 ((i : Int) + 1)] ⟨i + 1, QM, cM, QY, cY, by rw [hm, hy] <;> rfl, by rw [hm, hy] <;> rfl, by omega⟩ (by simp [K.nth, intOf]; omega) (List.Sublist.refl _) (by kernel_rfl)
  try replace ht28 := of_decide_eq_false ht28
  have e0 : i = r.length := by omega
  subst e0
  refine K.exit ?_
  refine K.exit_then ?_
  refine K.exit_then ?_
  refine K.exit_here ?_
  refine K.norm_then ?_
  refine K.seq ?_
  refine K.use_row K.m0 (fun hqY => ?_)
  refine K.use_row K.m1 (fun hqM => ?_)
  refine K.region_lit ?_
  iterate 2 refine qm ?_
  iterate 3 refine qa ?_
  refine sn ?_
  refine K.ret ?_
  refine K.end_ret (fun w _ => K.res_ttt rfl w) ?_
  rw [← hmz, ← hyz, hc]
  exact ret2 hqM hqY (List.Sublist.cons_cons _ (List.Sublist.cons_cons _ (List.nil_sublist _))) rfl

theorem c29 {r : List RvT} {A : Option Addr} {c : Nat} {w : World} (hR : K.Rd w A 4 eR r) (hn : r.length ≤ 4611686018427387904) : Calls Tryd.prog 29 [.slice A r.length c].toArray w (Ret2 (mustL r) (mayL r) (chk r).2.2 w) := by
  by_cases hc : (chk r).2.2 = 0
  · exact g29 hR hn hc
  · exact e29 hR hn hc


end Go.Proofs.YtoemnobfnnjopaaDoor
end
section
set_option linter.unusedSimpArgs false
set_option linter.unusedVariables false
namespace Go.Proofs.YtoemnobfnnjopaaDoor
open Go
/-- The next point may have a number, as the first k points tell. -/
def okK (r : List RvT) (l : List Int) (j k : Nat) : Bool := (List.range k).all fun x => decide (l.getD x default ≠ (j : Int)) || conS r l.length x
def okN (r : List RvT) (l : List Int) (j : Nat) : Bool := okK r l j l.length
def loopR (rec : List Int → Option (List Int)) (r : List RvT) (l : List Int) : Nat → Option (List Int)
  | 0 => none
  | j + 1 => match loopR rec r l j with
    | some q => some q
    | none => if okN r l j then rec (l ++ [(j : Int)]) else none
/-- How many numbers are tried. -/
def cntR (l : List Int) (M : Nat) : Nat := (min (nmV l) ((M : Int) - 1) + 1).toNat
/-- The first chains that begin with some numbers, and are at most so many. -/
def chR (r : List RvT) (M : Nat) : Nat → List Int → Option (List Int)
  | 0, l => some l
  | f + 1, l => if outS r l.length = true then chR r M f (l ++ [-1]) else loopR (chR r M f) r l (cntR l M)
section
variable {r : List RvT} {cs l : List Int} {st : StP} {i j k n f M : Nat} {rec : List Int → Option (List Int)}
theorem okK_s : okK r l j (k + 1) = (okK r l j k && (decide (l.getD k default ≠ (j : Int)) || conS r l.length k)) := by
  unfold okK; rw [List.range_succ, List.all_append]; simp
theorem loopR_hit {q : List Int} (h : loopR rec r l j = some q) : loopR rec r l (j + 1) = some q := by rw [loopR, h]
theorem loopR_yes (h : loopR rec r l j = none) (h2 : okN r l j = true) : loopR rec r l (j + 1) = rec (l ++ [(j : Int)]) := by rw [loopR, h]; show (if okN r l j = true then _ else _) = _; rw [if_pos h2]
theorem loopR_no (h : loopR rec r l j = none) (h2 : okN r l j = false) : loopR rec r l (j + 1) = none := by rw [loopR, h]; show (if okN r l j = true then _ else _) = _; rw [if_neg (by rw [h2]; decide)]
theorem loopR_keep {q : List Int} (h : loopR rec r l j = some q) : ∀ {k}, j ≤ k → loopR rec r l k = some q
  | 0, hk => by rw [show j = 0 by omega] at h; exact h
  | k + 1, hk => by
    rcases Nat.lt_or_ge k j with h1 | h1
    · rw [show k + 1 = j by omega]; exact h
    · exact loopR_hit (loopR_keep h h1)
theorem okP_N (g : Good r) (hl : l.length < r.length) (C : Cl cs l) (hj : j ≤ cs.length) : okP r l.length ((chX cs j).getD j default) = okN r l j := by
  have hv : nmV l = nmF l l.length := rfl
  rw [Bool.eq_iff_iff]
  constructor
  · intro h
    refine List.all_eq_true.2 fun x hx => ?_
    have hx := List.mem_range.1 hx
    by_cases e : l.getD x default = (j : Int)
    · have := nm_lt (l := l) hx
      have := C.n
      rw [ok_con g hl C (by omega) h hx e]; simp
    · rw [decide_eq_true e]; rfl
  · intro h
    refine ok_of C hj fun k hk e => ?_
    have := List.all_eq_true.1 h k (List.mem_range.2 hk)
    rw [decide_eq_false (fun h => h e), Bool.false_or] at this
    exact this
/-- What is found is the same, or better. -/
theorem fill_strict : ∀ f cs l st, fillP r f cs l st = st ∨ (fillP r f cs l st).2 < st.2
  | 0, cs, l, st => by
    by_cases hc : st.2 ≤ cs.length
    · rw [fillP_cut hc]; exact .inl rfl
    · rw [fillP_end hc]; exact .inr (by show (cs.length : Int) < st.2; omega)
  | f + 1, cs, l, st => by
    by_cases hc : st.2 ≤ cs.length
    · rw [fillP_cut hc]; exact .inl rfl
    · cases ho : outS r l.length with
      | true => rw [fillP_out hc ho]; exact fill_strict f _ _ _
      | false =>
        rw [fillP_loop hc ho]
        have key : ∀ m, loopP (fillP r f) r cs l st m = st ∨ (loopP (fillP r f) r cs l st m).2 < st.2 := by
          intro m
          induction m with
          | zero => exact .inl rfl
          | succ m ih =>
            rw [loopP]
            split
            · rcases fill_strict f (setX cs m l.length) (l ++ [(m : Int)]) (loopP (fillP r f) r cs l st m) with h | h
              · rw [h]; exact ih
              · refine .inr ?_
                rcases ih with h2 | h2
                · rw [h2] at h ⊢; exact h
                · omega
            · exact ih
        exact key _
theorem fill_low2 : ∀ f cs l st, fillP r f cs l st = st ∨ (cs.length : Int) ≤ (fillP r f cs l st).2
  | 0, cs, l, st => by
    by_cases hc : st.2 ≤ cs.length
    · rw [fillP_cut hc]; exact .inl rfl
    · rw [fillP_end hc]; exact .inr (Int.le_refl _)
  | f + 1, cs, l, st => by
    by_cases hc : st.2 ≤ cs.length
    · rw [fillP_cut hc]; exact .inl rfl
    · cases ho : outS r l.length with
      | true => rw [fillP_out hc ho]; exact fill_low2 f _ _ _
      | false =>
        rw [fillP_loop hc ho]
        have key : ∀ m, m ≤ cs.length + 1 → loopP (fillP r f) r cs l st m = st ∨ (cs.length : Int) ≤ (loopP (fillP r f) r cs l st m).2 := by
          intro m
          induction m with
          | zero => intro _; exact .inl rfl
          | succ m ih =>
            intro hm
            rw [loopP]
            split
            · have hx : cs.length ≤ (setX cs m l.length).length := by rw [setX_len, chX_len (by omega)]; split <;> omega
              rcases fill_low2 f (setX cs m l.length) (l ++ [(m : Int)]) (loopP (fillP r f) r cs l st m) with h | h
              · rw [h]; exact ih (by omega)
              · exact .inr (by omega)
            · exact ih (by omega)
        exact key _ (Nat.le_refl _)
/-- The same search, with at most as many as can be. -/
theorem fill_ref (g : Good r) (hmin : ∀ p, Fin r p → (M : Int) ≤ p.2) : ∀ f cs l st, l.length + f = r.length → Pl r l → Cl cs l → nmV l ≤ (M : Int) → (M : Int) < st.2 → (∀ q, chR r M f l = some q → fillP r f cs l st = (q, (M : Int))) ∧ (chR r M f l = none → (M : Int) < (fillP r f cs l st).2)
  | 0, cs, l, st, hf, P, C, hv, hs => by
    have hn := C.n
    rw [fillP_end (by omega)]
    refine ⟨fun q hq => ?_, fun h => (by rw [chR] at h; cases h)⟩
    rw [chR] at hq
    injection hq with hq
    subst hq
    have := hmin (l, nmV l) ⟨by show l.length = _; omega, P, rfl⟩
    simp only at this
    rw [show (cs.length : Int) = (M : Int) by omega]
  | f + 1, cs, l, st, hf, P, C, hv, hs => by
    have hn := C.n
    have hc : ¬ st.2 ≤ cs.length := by omega
    cases ho : outS r l.length with
    | true =>
      rw [fillP_out hc ho, chR, if_pos ho]
      obtain ⟨P', C'⟩ := pl_out P C ho
      refine fill_ref g hmin f _ _ _ (by rw [List.length_append, List.length_singleton]; omega) P' C' ?_ hs
      rw [nm_next]
      have := nm_ge0 (l := l) l.length
      unfold nmV at hv ⊢; omega
    | false =>
      rw [fillP_loop hc ho, chR, if_neg (by rw [ho]; decide)]
      have h0 := nm_ge0 (l := l) l.length
      have hvf : nmV l = nmF l l.length := rfl
      have hcnt : cntR l M = min (cs.length + 1) M := by unfold cntR; omega
      have stay : ∀ cs' l' st', l'.length + f = r.length → Pl r l' → Cl cs' l' → st'.2 = (M : Int) → fillP r f cs' l' st' = st' := fun cs' l' st' h1 h2 h3 h4 => by
        rcases fill_strict (r := r) f cs' l' st' with h5 | h5
        · exact h5
        · rcases (fill_sound g f cs' l' st' h1 h2 h3).2 with h6 | h6
          · exact h6
          · have := hmin _ h6; omega
      have key : ∀ m, m ≤ cs.length + 1 → (∀ q, loopR (chR r M f) r l (min m M) = some q → loopP (fillP r f) r cs l st m = (q, (M : Int))) ∧ (loopR (chR r M f) r l (min m M) = none → (M : Int) < (loopP (fillP r f) r cs l st m).2) := by
        intro m
        induction m with
        | zero => intro _; rw [Nat.zero_min]; exact ⟨fun q h => (by rw [loopR] at h; cases h), fun _ => hs⟩
        | succ m ih =>
          intro hm
          obtain ⟨ih1, ih2⟩ := ih (by omega)
          have hok := okP_N g (by omega) C (show m ≤ cs.length by omega)
          have hlen : (l ++ [(m : Int)]).length + f = r.length := by rw [List.length_append, List.length_singleton]; omega
          rw [loopP]
          cases e : loopR (chR r M f) r l (min m M) with
          | some q =>
            have e1 := ih1 q e
            have e2 : loopR (chR r M f) r l (min (m + 1) M) = some q := loopR_keep (k := min (m + 1) M) e (by omega)
            rw [e2]
            refine ⟨fun q' hq' => ?_, fun h => by cases h⟩
            injection hq' with hq'
            subst hq'
            split
            · rename_i h
              obtain ⟨P', C'⟩ := pl_in g (by omega) P C ho (by omega) h
              rw [e1]
              exact stay _ _ _ hlen P' C' rfl
            · exact e1
          | none =>
            have e1 := ih2 e
            rcases Nat.lt_or_ge m M with hmM | hmM
            · have em : min (m + 1) M = m + 1 := by omega
              have em2 : min m M = m := by omega
              rw [em2] at e
              rw [em]
              cases hb : okN r l m with
              | true =>
                rw [loopR_yes e hb, if_pos (by rw [hok]; exact hb)]
                obtain ⟨P', C'⟩ := pl_in (j := m) g (by omega) P C ho (by omega) (by rw [hok]; exact hb)
                exact fill_ref g hmin f _ _ _ hlen P' C' (by rw [nm_next]; omega) e1
              | false =>
                rw [loopR_no e hb, if_neg (by rw [hok, hb]; decide)]
                exact ⟨fun q h => (by cases h), fun _ => e1⟩
            · have em : min (m + 1) M = min m M := by omega
              rw [em, e]
              refine ⟨fun q h => (by cases h), fun _ => ?_⟩
              split
              · rename_i h
                obtain ⟨P', C'⟩ := pl_in g (by omega) P C ho (by omega) h
                have hx := C'.n
                rw [nm_next] at hx
                rcases fill_low2 (r := r) f (setX cs m l.length) (l ++ [(m : Int)]) (loopP (fillP r f) r cs l st m) with h6 | h6
                · rw [h6]; exact e1
                · omega
              · exact e1
      have := key (cs.length + 1) (Nat.le_refl _)
      rw [hcnt]
      exact this
/-- What the reference finds is numbers of chains, at most so many. -/
theorem chR_sound (g : Good r) : ∀ f l q, l.length + f = r.length → Pl r l → (∃ cs, Cl cs l) → nmV l ≤ (M : Int) → chR r M f l = some q → Fin r (q, nmV q) ∧ nmV q ≤ (M : Int)
  | 0, l, q, hf, P, C, hv, h => by
    rw [chR] at h
    injection h with h
    subst h
    exact ⟨⟨by show l.length = _; omega, P, rfl⟩, hv⟩
  | f + 1, l, q, hf, P, ⟨cs, C⟩, hv, h => by
    have hn := C.n
    have hvf : nmV l = nmF l l.length := rfl
    have h0 := nm_ge0 (l := l) l.length
    rw [chR] at h
    cases ho : outS r l.length with
    | true =>
      rw [if_pos ho] at h
      obtain ⟨P', C'⟩ := pl_out P C ho
      exact chR_sound g f _ q (by rw [List.length_append, List.length_singleton]; omega) P' ⟨_, C'⟩ (by rw [nm_next]; omega) h
    | false =>
      rw [if_neg (by rw [ho]; decide)] at h
      have key : ∀ j, j ≤ cntR l M → loopR (chR r M f) r l j = some q → Fin r (q, nmV q) ∧ nmV q ≤ (M : Int) := by
        intro j
        induction j with
        | zero => intro _ h; rw [loopR] at h; cases h
        | succ j ih =>
          intro hj h
          cases e : loopR (chR r M f) r l j with
          | some q' =>
            rw [loopR_hit e] at h
            injection h with h
            subst h
            exact ih (by omega) e
          | none =>
            cases hb : okN r l j with
            | false => rw [loopR_no e hb] at h; cases h
            | true =>
              rw [loopR_yes e hb] at h
              have hjl : j ≤ cs.length ∧ j < M := by unfold cntR at hj; omega
              obtain ⟨P', C'⟩ := pl_in g (by omega) P C ho hjl.1 (by rw [okP_N g (by omega) C hjl.1]; exact hb)
              exact chR_sound g f _ q (by rw [List.length_append, List.length_singleton]; omega) P' ⟨_, C'⟩ (by rw [nm_next]; omega) h
      exact key _ (Nat.le_refl _) h
/-- No numbers of chains are fewer than kept points. -/
theorem num_ge (hc : (chk r).2.2 = 0) {q : List Int} (hq : q.length = r.length) (P : Pl r q) : (r.length : Int) - ((fewL r).length : Int) ≤ nmV q := by
  have g := chk_good hc
  have hcor := (few_is g).2.1
  have hlt := (few_is g).1
  have hfl := (few_L hc).2
  have hK := sel_not (p := fun i => (fewN r).testBit i) r.length
  have hpc : pcS (fewN r) = (selN (fun i => (fewN r).testBit i) r.length).length := by unfold pcS; rw [bits_n g.n.2 hlt]
  have hkeep : ∀ k, k < r.length → (fewN r).testBit k = false → 0 ≤ q.getD k default ∧ q.getD k default < nmV q := fun k hk hbk => by
    have ho := (cor_parts hcor hk hbk).1
    have := nm_lt (l := q) (show k < q.length by omega)
    rcases P.a k (by omega) with h | h
    · rw [ho] at h; cases h.2
    · exact ⟨h.1, by unfold nmV; omega⟩
  have hinj : ∀ i k, i < r.length → k < i → (fewN r).testBit i = false → (fewN r).testBit k = false → q.getD i default ≠ q.getD k default := fun i k hi hk h4 h5 h6 => by
    have := P.c i k (by omega) hk (hkeep i hi h4).1 h6
    rw [(cor_parts hcor hi h4).2 k hk h5] at this; cases this
  have hnd : ((selN (fun i => !(fewN r).testBit i) r.length).map fun x => q.getD x.toNat default).Nodup := by
    unfold List.Nodup
    rw [List.pairwise_map]
    have hp : (selN (fun i => !(fewN r).testBit i) r.length).Pairwise (fun a b => a ≠ b) := by
      unfold selN
      rw [List.pairwise_map]
      refine List.Pairwise.imp ?_ ((List.nodup_range (n := r.length)).sublist List.filter_sublist)
      intro a b h e; exact h (by omega)
    refine List.Pairwise.imp_of_mem ?_ hp
    intro a b ha hb' hab h6
    obtain ⟨i, hi, hbi, rfl⟩ := mem_sel.1 ha
    obtain ⟨k, hk, hbk, rfl⟩ := mem_sel.1 hb'
    rw [Bool.not_eq_true'] at hbi hbk
    rw [Int.toNat_natCast, Int.toNat_natCast] at h6
    rcases Nat.lt_trichotomy i k with h | h | h
    · exact hinj k i hk h hbk hbi h6.symm
    · exact hab (by rw [h])
    · exact hinj i k hi h hbi hbk h6
  have hle := hnd.length_le_of_subset (l₂ := (List.range (nmV q).toNat).map fun j => ((j : Nat) : Int)) (fun x hx => by
    obtain ⟨y, hy, rfl⟩ := List.mem_map.1 hx
    obtain ⟨k, hk, hbk, rfl⟩ := mem_sel.1 hy
    rw [Bool.not_eq_true'] at hbk
    have := hkeep k hk hbk
    rw [Int.toNat_natCast]
    exact List.mem_map.2 ⟨(q.getD k default).toNat, List.mem_range.2 (by omega), by omega⟩)
  rw [List.length_map, List.length_map, List.length_range] at hle
  have h0 := nm_ge0 (l := q) q.length
  have hv : nmV q = nmF q q.length := rfl
  omega
theorem pl_nil : Pl r [] := ⟨fun i hi => absurd hi (Nat.not_lt_zero _), fun i hi => absurd hi (Nat.not_lt_zero _), fun i k hi => absurd hi (Nat.not_lt_zero _)⟩
theorem cl_nil : Cl [] [] := ⟨rfl, fun j hj => absurd hj (Nat.not_lt_zero _)⟩
/-- The reference's first proof is that of Proof. -/
theorem chR_prf (hc : (chk r).2.2 = 0) : chR r (r.length - (fewL r).length) r.length [] = some (prfL r) ∧ ∀ M q, M < r.length - (fewL r).length → chR r M r.length [] ≠ some q := by
  have g := chk_good hc
  obtain ⟨h1, h2, h3⟩ := prf_is hc
  have hle : (fewL r).length ≤ r.length := by rw [(few_L hc).2]; exact few_le9 g
  have hmin : ∀ p, Fin r p → ((r.length - (fewL r).length : Nat) : Int) ≤ p.2 := fun p hp => by
    have := num_ge hc hp.1 hp.2.1
    have := hp.2.2
    omega
  have e0 : nmV [] = 0 := rfl
  have hr := fill_ref (M := r.length - (fewL r).length) g hmin r.length [] [] ([], (r.length : Int) + 1) (by simp) pl_nil cl_nil (by rw [e0]; omega) (by show _ < (r.length : Int) + 1; omega)
  have ep : prfL r = (fillP r r.length [] [] ([], (r.length : Int) + 1)).1 := by unfold prfL prfS; rw [if_neg (by omega)]
  have hs := (fill_sound g r.length [] [] ([], (r.length : Int) + 1) (by simp) pl_nil cl_nil)
  refine ⟨?_, fun M q hM h => ?_⟩
  · cases e : chR r (r.length - (fewL r).length) r.length [] with
    | some q =>
      have := hr.1 q e
      rw [ep, this]
    | none =>
      exfalso
      have h4 := hr.2 e
      rcases hs.2 with h5 | h5
      · have : (prfL r).length = 0 := by rw [ep, h5]; rfl
        have := g.n.1
        omega
      · have h6 := h5.2.2
        rw [← ep, h3] at h6
        omega
  · obtain ⟨h4, h5⟩ := chR_sound (M := M) g r.length [] q (by simp) pl_nil ⟨_, cl_nil⟩ (by rw [e0]; omega) h
    have := hmin _ h4
    simp only at this
    omega
end
end Go.Proofs.YtoemnobfnnjopaaDoor
end
section
set_option linter.unusedSimpArgs false
set_option linter.unusedVariables false
namespace Go.Proofs.YtoemnobfnnjopaaDoor
open Go
def mnF (l : List Int) : Nat → Int
  | 0 => l.getD 0 default
  | k + 1 => min (mnF l k) (l.getD k default)
def mnV (l : List Int) : Int := mnF l l.length
def rstF (l : List Int) (m : Int) (k : Nat) : List Int := (l.take k).filter fun x => decide (x ≠ m)
def rstV (l : List Int) : List Int := l.filter fun x => decide (x ≠ mnV l)
def selS : Nat → List Int → List Int
  | 0, _ => []
  | f + 1, l => if l.length = 0 then [] else mnV l :: selS f (rstV l)
def levF (r : List RvT) : Nat → List Int
  | 0 => [0]
  | i + 1 => levF r i ++ [(r.getD i default).ht - DM r i, 9000 - DM r i]
def levR (r : List RvT) : List Int := selS (levF r r.length).length (levF r r.length)
section
variable {r : List RvT} {l : List Int} {i k m n f : Nat} {x : Int}
theorem mn_le : ∀ {k}, i < k → mnF l k ≤ l.getD i default
  | 0, h => absurd h (Nat.not_lt_zero _)
  | k + 1, h => by
    rw [mnF]
    rcases Nat.lt_or_ge i k with h1 | h1
    · have := mn_le h1; omega
    · rw [show i = k by omega]; omega
theorem mn_mem (h : 0 < l.length) : ∀ k, k ≤ l.length → mnF l k ∈ l
  | 0, _ => K.gt_mem h
  | k + 1, hk => by
    have h1 := mn_mem h k (by omega)
    have h2 := K.gt_mem (show k < l.length by omega)
    rw [mnF]
    rcases Int.le_total (mnF l k) (l.getD k default) with h3 | h3
    · rw [Int.min_eq_left h3]; exact h1
    · rw [Int.min_eq_right h3]; exact h2
theorem mnV_le (h : x ∈ l) : mnV l ≤ x := by
  obtain ⟨j, hj, e⟩ := List.mem_iff_getElem.1 h
  have := mn_le (l := l) hj
  rw [List.getD_eq_getElem?_getD, List.getElem?_eq_getElem hj] at this
  unfold mnV
  rw [← e]; exact this
theorem rst_s (hk : k < l.length) : rstF l x (k + 1) = rstF l x k ++ (if l.getD k default ≠ x then [l.getD k default] else []) := by
  unfold rstF
  rw [List.take_add_one, List.getElem?_eq_getElem hk, List.filter_append, List.getD_eq_getElem?_getD, List.getElem?_eq_getElem hk]
  show _ ++ List.filter _ [l[k]] = _ ++ (if l[k] ≠ x then [l[k]] else [])
  by_cases h : l[k] = x <;> simp [h]
theorem rst_all : rstF l (mnV l) l.length = rstV l := by unfold rstF rstV; rw [List.take_length]
theorem rst_lt (h : 0 < l.length) : (rstV l).length < l.length := by
  have hm := mn_mem h l.length (Nat.le_refl _)
  unfold rstV
  refine Nat.lt_of_le_of_ne (List.length_filter_le _ _) fun e => ?_
  have := List.length_filter_eq_length_iff.1 e _ hm
  exact of_decide_eq_true this rfl
theorem sel_fuel : ∀ f f' l, l.length ≤ f → l.length ≤ f' → selS f l = selS f' l
  | 0, 0, _, _, _ => rfl
  | 0, f' + 1, l, h, _ => by rw [selS, selS, if_pos (by omega)]
  | f + 1, 0, l, _, h => by rw [selS, selS, if_pos (by omega)]
  | f + 1, f' + 1, l, h, h' => by
    rw [selS, selS]
    split
    · rfl
    · rename_i h0
      have := rst_lt (l := l) (by omega)
      rw [sel_fuel f f' (rstV l) (by omega) (by omega)]
theorem sel_step (h : 0 < l.length) : selS l.length l = mnV l :: selS (rstV l).length (rstV l) := by
  have h1 := rst_lt h
  rw [sel_fuel l.length ((l.length - 1) + 1) l (Nat.le_refl _) (by omega), selS, if_neg (by omega), sel_fuel (l.length - 1) (rstV l).length (rstV l) (by omega) (Nat.le_refl _)]
theorem sel_is : ∀ f l, l.length ≤ f → (∀ x, x ∈ selS f l ↔ x ∈ l) ∧ (selS f l).Pairwise (· < ·)
  | 0, l, h => by
    have : l = [] := List.eq_nil_of_length_eq_zero (by omega)
    subst this
    exact ⟨fun x => Iff.rfl, List.Pairwise.nil⟩
  | f + 1, l, h => by
    rw [selS]
    by_cases h0 : l.length = 0
    · have : l = [] := List.eq_nil_of_length_eq_zero h0
      subst this
      rw [if_pos (show ([] : List Int).length = 0 from rfl)]
      exact ⟨fun x => Iff.rfl, List.Pairwise.nil⟩
    · rw [if_neg h0]
      have h1 := rst_lt (l := l) (by omega)
      obtain ⟨h2, h3⟩ := sel_is f (rstV l) (by omega)
      have hr : ∀ x, x ∈ rstV l ↔ x ∈ l ∧ x ≠ mnV l := fun x => by unfold rstV; rw [List.mem_filter, decide_eq_true_iff]
      refine ⟨fun x => ?_, List.pairwise_cons.2 ⟨fun x hx => ?_, h3⟩⟩
      · rw [List.mem_cons, h2, hr]
        constructor
        · rintro (h4 | h4)
          · rw [h4]; exact mn_mem (by omega) l.length (Nat.le_refl _)
          · exact h4.1
        · intro h4
          by_cases h5 : x = mnV l
          · exact .inl h5
          · exact .inr ⟨h4, h5⟩
      · have h4 := (hr x).1 ((h2 x).1 hx)
        have := mnV_le h4.1
        have h5 := h4.2
        omega
theorem levF_len : ∀ i, (levF r i).length = 1 + 2 * i
  | 0 => rfl
  | i + 1 => by rw [levF, List.length_append, levF_len i]; show 1 + 2 * i + 2 = _; omega
theorem levF_mem : ∀ n, x ∈ levF r n ↔ x = 0 ∨ ∃ i, i < n ∧ (x = (r.getD i default).ht - DM r i ∨ x = 9000 - DM r i)
  | 0 => by
    rw [levF, List.mem_singleton]
    constructor
    · exact .inl
    · rintro (h | ⟨i, h, _⟩)
      · exact h
      · exact absurd h (Nat.not_lt_zero _)
  | n + 1 => by
    rw [levF, List.mem_append, levF_mem n]
    constructor
    · rintro ((h | ⟨i, h1, h2⟩) | h)
      · exact .inl h
      · exact .inr ⟨i, by omega, h2⟩
      · simp only [List.mem_cons, List.not_mem_nil, or_false] at h
        exact .inr ⟨n, by omega, h⟩
    · rintro (h | ⟨i, h1, h2⟩)
      · exact .inl (.inl h)
      · rcases Nat.lt_or_ge i n with h3 | h3
        · exact .inl (.inr ⟨i, h3, h2⟩)
        · have : i = n := by omega
          subst this
          right; simp only [List.mem_cons, List.not_mem_nil, or_false]; exact h2
theorem levU_mem' : ∀ n, x ∈ levU r n ↔ ∃ i, i < n ∧ x ∈ lev3 r i
  | 0 => by
    constructor
    · intro h; simp [levU] at h
    · rintro ⟨i, h, _⟩; exact absurd h (Nat.not_lt_zero _)
  | n + 1 => by
    rw [levU, List.mem_append, levU_mem' n]
    constructor
    · rintro (⟨i, h1, h2⟩ | h)
      · exact ⟨i, by omega, h2⟩
      · exact ⟨n, by omega, h⟩
    · rintro ⟨i, h1, h2⟩
      rcases Nat.lt_or_ge i n with h3 | h3
      · exact .inl ⟨i, h3, h2⟩
      · rw [show i = n by omega] at h2; exact .inr h2
theorem levR_mem (g : Good r) : x ∈ levR r ↔ x ∈ levS r := by
  unfold levR levS
  rw [(sel_is _ _ (Nat.le_refl _)).1, levF_mem, sort_perm.mem_iff, levU_mem']
  have hn := g.n.1
  constructor
  · rintro (h | ⟨i, h1, h2⟩)
    · exact ⟨0, by omega, by rw [h]; simp [lev3]⟩
    · exact ⟨i, h1, by rcases h2 with h2 | h2 <;> rw [h2] <;> simp [lev3]⟩
  · rintro ⟨i, h1, h2⟩
    simp only [lev3, List.mem_cons, List.not_mem_nil, or_false] at h2
    rcases h2 with h2 | h2 | h2
    · exact .inr ⟨i, h1, .inl h2⟩
    · exact .inr ⟨i, h1, .inr h2⟩
    · exact .inl h2
theorem levR_pw : (levR r).Pairwise (· < ·) := (sel_is _ _ (Nat.le_refl _)).2
theorem sel_len : ∀ f l, (selS f l).length ≤ f
  | 0, l => Nat.zero_le _
  | f + 1, l => by
    rw [selS]
    split
    · exact Nat.zero_le _
    · have := sel_len f (rstV l)
      rw [List.length_cons]; omega
theorem levR_len (g : Good r) : (levR r).length ≤ 19 := by
  have := sel_len (levF r r.length).length (levF r r.length)
  rw [levF_len] at this
  have := g.n.2
  unfold levR
  rw [levF_len]; omega
theorem levR_bd (g : Good r) (h : x ∈ levR r) : -4500 ≤ x ∧ x ≤ 9000 := levS_mem g ((levR_mem g).1 h)
end
def neverR : Int := 1073741824
def ownR (r : List RvT) (lv fx : List Int) (i m : Nat) : Int := if (0 ≤ lv.getD m default + DM r i ∧ lv.getD m default + DM r i ≤ 9000) ∧ (i < fx.length → fx.getD i default = lv.getD m default + DM r i) then ownC r i (lv.getD m default) else neverR
/-- The least of some costs, from one level on. -/
def bfF (c : List Int) (m : Nat) : Nat → Int
  | 0 => neverR
  | j + 1 => min (bfF c m j) (c.getD (m + j) default)
def chL (r : List RvT) (i k : Nat) : List Nat := (List.range k).filter fun k => decide ((r.getD k default).dn = (i : Int))
/-- A point, and those above it. -/
def sumR (rec : Nat → List Int) (r : List RvT) (lv fx : List Int) (i m : Nat) (ks : List Nat) : Int := ks.foldl (fun n k => min neverR (n + bfF (rec k) m (lv.length - m))) (ownR r lv fx i m)
def rcL (r : List RvT) (lv fx : List Int) : Nat → Nat → List Int
  | 0, _ => []
  | f + 1, i => (List.range lv.length).map fun m => sumR (rcL r lv fx f) r lv fx i m (chL r i r.length)
def bstF (c : List Int) : Nat → Int
  | 0 => neverR
  | m + 1 => min (bstF c m) (c.getD m default)
def bstR (r : List RvT) (lv fx : List Int) : Int := bstF (rcL r lv fx (r.length + 1) (mthS r)) lv.length
section
variable {r : List RvT} {lv fx c : List Int} {rec : Nat → List Int} {i k m n f j a : Nat} {x : Nat → Int} {low : Int}
theorem rc_len : (rcL r lv fx (f + 1) i).length = lv.length := by rw [rcL, List.length_map, List.length_range]
theorem rc_at (hm : m < lv.length) : (rcL r lv fx (f + 1) i).getD m default = sumR (rcL r lv fx f) r lv fx i m (chL r i r.length) := by rw [rcL]; exact map_at hm
theorem ch_s : chL r i (k + 1) = chL r i k ++ (if (r.getD k default).dn = (i : Int) then [k] else []) := by
  unfold chL
  rw [List.range_succ, List.filter_append]
  congr 1
  by_cases h : (r.getD k default).dn = (i : Int)
  · rw [if_pos h, List.filter_cons_of_pos (p := fun k => decide ((r.getD k default).dn = (i : Int))) (decide_eq_true h), List.filter_nil]
  · rw [if_neg h, List.filter_cons_of_neg (p := fun k => decide ((r.getD k default).dn = (i : Int))) (fun h' => h (of_decide_eq_true h')), List.filter_nil]
theorem ch_mem : k ∈ chL r i n ↔ k < n ∧ (r.getD k default).dn = (i : Int) := by unfold chL; rw [List.mem_filter, List.mem_range, decide_eq_true_iff]
theorem ch_len : (chL r i n).length ≤ n := by unfold chL; exact Nat.le_trans (List.length_filter_le _ _) (by simp)
theorem bf_le : ∀ {j}, a < j → bfF c m j ≤ c.getD (m + a) default
  | 0, h => absurd h (Nat.not_lt_zero _)
  | j + 1, h => by
    rw [bfF]
    rcases Nat.lt_or_ge a j with h1 | h1
    · have := bf_le h1; omega
    · rw [show a = j by omega]; omega
theorem bf_n : ∀ j, bfF c m j ≤ neverR
  | 0 => Int.le_refl _
  | j + 1 => by have := bf_n j; rw [bfF]; omega
theorem bf_at : ∀ {j}, bfF c m j < neverR → ∃ a, a < j ∧ bfF c m j = c.getD (m + a) default
  | 0, h => by rw [bfF] at h; omega
  | j + 1, h => by
    rw [bfF] at h ⊢
    by_cases h1 : c.getD (m + j) default ≤ bfF c m j
    · exact ⟨j, by omega, by omega⟩
    · obtain ⟨a, h2, h3⟩ := bf_at (j := j) (by omega)
      exact ⟨a, by omega, by omega⟩
theorem bst_le : ∀ {j}, m < j → bstF c j ≤ c.getD m default
  | 0, h => absurd h (Nat.not_lt_zero _)
  | j + 1, h => by
    rw [bstF]
    rcases Nat.lt_or_ge m j with h1 | h1
    · have := bst_le h1; omega
    · rw [show m = j by omega]; omega
theorem bst_at : ∀ {j}, bstF c j < neverR → ∃ m, m < j ∧ bstF c j = c.getD m default
  | 0, h => by rw [bstF] at h; omega
  | j + 1, h => by
    rw [bstF] at h ⊢
    by_cases h1 : c.getD j default ≤ bstF c j
    · exact ⟨j, by omega, by omega⟩
    · obtain ⟨a, h2, h3⟩ := bst_at (j := j) (by omega)
      exact ⟨a, by omega, by omega⟩
theorem sumR_s : sumR rec r lv fx i m (chL r i (k + 1)) = if (r.getD k default).dn = (i : Int) then min neverR (sumR rec r lv fx i m (chL r i k) + bfF (rec k) m (lv.length - m)) else sumR rec r lv fx i m (chL r i k) := by
  rw [ch_s]
  split
  · unfold sumR; rw [List.foldl_append]; rfl
  · rw [List.append_nil]
theorem sumR_le (g : Good r) : ∀ n, sumR rec r lv fx i m (chL r i n) ≤ ownR r lv fx i m + sg (fun k => if (r.getD k default).dn = (i : Int) then bfF (rec k) m (lv.length - m) else 0) n
  | 0 => by
    show ownR r lv fx i m ≤ _
    rw [sg]; omega
  | n + 1 => by
    have := sumR_le g n
    rw [sumR_s, sg]
    split <;> omega
theorem sumR_eq (h0 : 0 ≤ ownR r lv fx i m) (hr : ∀ k, 0 ≤ bfF (rec k) m (lv.length - m)) : ∀ n, sumR rec r lv fx i m (chL r i n) < neverR → sumR rec r lv fx i m (chL r i n) = ownR r lv fx i m + sg (fun k => if (r.getD k default).dn = (i : Int) then bfF (rec k) m (lv.length - m) else 0) n ∧ 0 ≤ sumR rec r lv fx i m (chL r i n)
  | 0, _ => by
    show ownR r lv fx i m = _ ∧ 0 ≤ ownR r lv fx i m
    rw [sg]; omega
  | n + 1, h => by
    have ih := sumR_eq h0 hr n
    have hk := hr n
    rw [sumR_s] at h ⊢
    rw [sg]
    split
    · rename_i hd
      rw [if_pos hd] at h
      have := ih (by omega)
      omega
    · rename_i hd
      rw [if_neg hd] at h
      have := ih h
      omega
theorem own_nn : 0 ≤ ownR r lv fx i m := by
  unfold ownR
  split
  · unfold ownC; omega
  · decide
theorem sumR_nn (hr : ∀ k, k < n → 0 ≤ bfF (rec k) m (lv.length - m)) : 0 ≤ sumR rec r lv fx i m (chL r i n) := by
  induction n with
  | zero => exact own_nn
  | succ n ih =>
    have h1 := ih (fun k hk => hr k (by omega))
    have h2 := hr n (by omega)
    have : neverR = 1073741824 := rfl
    rw [sumR_s]
    split <;> omega
theorem bf_nn (h : ∀ a, 0 ≤ c.getD a default) : ∀ j, 0 ≤ bfF c m j
  | 0 => by show (0 : Int) ≤ neverR; decide
  | j + 1 => by
    have := bf_nn h j
    have := h (m + j)
    rw [bfF]; omega
theorem rc_nn : ∀ f i a, 0 ≤ (rcL r lv fx f i).getD a default
  | 0, i, a => by rw [rcL]; exact Int.le_refl _
  | f + 1, i, a => by
    rcases Nat.lt_or_ge a lv.length with h | h
    · rw [rc_at h]
      exact sumR_nn fun k _ => bf_nn (fun b => rc_nn f k b) _
    · rw [List.getD_eq_getElem?_getD, List.getElem?_eq_none (by rw [rc_len]; exact h)]; exact Int.le_refl _
/-- No levels have less. -/
theorem rc_le (g : Good r) (X : Adm r lv fx x) (hpw : lv.Pairwise (· < ·)) : ∀ f i m, i < r.length → m < lv.length → x i = lv.getD m default → dep r i + f = r.length + 1 → (rcL r lv fx f i).getD m default ≤ subV r (fun i => ownC r i (x i)) i
  | 0, i, m, hi, _, _, hf => by have := dep_lt g hi; omega
  | f + 1, i, m, hi, hm, e, hf => by
    rw [rc_at hm, tree_sum g _ hi]
    refine Int.le_trans (sumR_le g r.length) ?_
    have hown : ownR r lv fx i m = ownC r i (x i) := by
      unfold ownR
      rw [if_pos ⟨by rw [← e]; exact X.b i hi, fun h => by rw [← e]; exact X.f i hi h⟩, e]
    rw [hown]
    refine Int.add_le_add_left (sg_le fun k hk => ?_) _
    split
    · rename_i hd
      have hxd := X.d k hk (by rw [hd]; omega)
      rw [hd, Int.toNat_natCast] at hxd
      obtain ⟨j, hj, ej⟩ := List.mem_iff_getElem.1 (X.m k hk)
      have ej : lv.getD j default = x k := by rw [List.getD_eq_getElem?_getD, List.getElem?_eq_getElem hj]; exact ej
      have hmj : m ≤ j := by
        refine Nat.le_of_not_lt fun h => ?_
        have := List.pairwise_iff_getElem.1 hpw j m hj hm h
        rw [List.getD_eq_getElem?_getD, List.getElem?_eq_getElem hj] at ej
        rw [List.getD_eq_getElem?_getD, List.getElem?_eq_getElem hm] at e
        have e1 : lv[j] = x k := ej
        have e2 : x i = lv[m] := e
        omega
      have h1 := bf_le (c := rcL r lv fx f k) (m := m) (a := j - m) (j := lv.length - m) (by omega)
      rw [show m + (j - m) = j by omega] at h1
      exact Int.le_trans h1 (rc_le g X hpw f k j hk hj ej.symm (by have := dn_dep g hk hd; omega))
    · exact Int.le_refl _
/-- The program's search has no more. -/
theorem cost_rc (g : Good r) {lw : List Int} (hmem : ∀ y, y ∈ lv → y ∈ lw) (hpw : lv.Pairwise (· < ·)) : ∀ f i m low, i < r.length → m < lv.length → low ≤ lv.getD m default → dep r i + f = r.length + 1 → (rcL r lv fx f i).getD m default < neverR → costF r lw fx f i low ≤ (rcL r lv fx f i).getD m default
  | 0, i, m, low, hi, _, _, hf, _ => by have := dep_lt g hi; omega
  | f + 1, i, m, low, hi, hm, hl, hf, h => by
    have hrn : ∀ k, 0 ≤ bfF (rcL r lv fx f k) m (lv.length - m) := fun k => bf_nn (fun b => rc_nn f k b) _
    rw [rc_at hm] at h ⊢
    have he := (sumR_eq own_nn hrn r.length h).1
    have hsn : 0 ≤ sg (fun k => if (r.getD k default).dn = (i : Int) then bfF (rcL r lv fx f k) m (lv.length - m) else 0) r.length := sg_ge0 fun k _ => by
      split
      · exact hrn k
      · exact Int.le_refl _
    have hown : ((0 ≤ lv.getD m default + DM r i ∧ lv.getD m default + DM r i ≤ 9000) ∧ (i < fx.length → fx.getD i default = lv.getD m default + DM r i)) ∧ ownR r lv fx i m = ownC r i (lv.getD m default) := by
      by_cases hh : (0 ≤ lv.getD m default + DM r i ∧ lv.getD m default + DM r i ≤ 9000) ∧ (i < fx.length → fx.getD i default = lv.getD m default + DM r i)
      · exact ⟨hh, by unfold ownR; rw [if_pos hh]⟩
      · have : ownR r lv fx i m = neverR := by unfold ownR; rw [if_neg hh]
        omega
    obtain ⟨j, hj, ej⟩ := List.mem_iff_getElem.1 (hmem _ (K.gt_mem hm))
    have ej : lw.getD j default = lv.getD m default := by rw [List.getD_eq_getElem?_getD, List.getElem?_eq_getElem hj]; exact ej
    have hs : skipB r fx i low (lw.getD j default) = false := by rw [ej]; exact skip_n (by omega) hown.1.1 hown.1.2
    have h1 := minF_le (rec := costF r lw fx f) hj hs
    rw [ej, sumF_sg] at h1
    show minF (costF r lw fx f) r lw fx i low lw.length ≤ _
    rw [he, hown.2]
    refine Int.le_trans h1 (Int.add_le_add_left (sg_le fun k hk => ?_) _)
    split
    · rename_i hd
      have hterm : bfF (rcL r lv fx f k) m (lv.length - m) ≤ sg (fun k => if (r.getD k default).dn = (i : Int) then bfF (rcL r lv fx f k) m (lv.length - m) else 0) r.length := by
        have := sg_term (f := fun k => if (r.getD k default).dn = (i : Int) then bfF (rcL r lv fx f k) m (lv.length - m) else 0) hk (fun k _ => by
          split
          · exact hrn k
          · exact Int.le_refl _)
        rw [if_pos hd] at this
        exact this
      have ho := own_nn (r := r) (lv := lv) (fx := fx) (i := i) (m := m)
      obtain ⟨b, hb, eb⟩ := bf_at (c := rcL r lv fx f k) (m := m) (j := lv.length - m) (by omega)
      rw [eb]
      refine cost_rc g hmem hpw f k (m + b) (lv.getD m default) hk (by omega) ?_ (by have := dn_dep g hk hd; omega) (by omega)
      rcases Nat.eq_zero_or_pos b with h0 | h0
      · subst h0; exact Int.le_refl _
      · have := List.pairwise_iff_getElem.1 hpw m (m + b) hm (by omega) (by omega)
        rw [List.getD_eq_getElem?_getD, List.getElem?_eq_getElem hm, List.getD_eq_getElem?_getD, List.getElem?_eq_getElem (show m + b < lv.length by omega)]
        show lv[m] ≤ lv[m + b]
        omega
    · exact Int.le_refl _
/-- The reference's least change is the program's. -/
theorem best_ask (g : Good r) : (bstR r (levR r) fx < neverR → askS r (levS r) fx = bstR r (levR r) fx) ∧ (askS r (levS r) fx < neverS → bstR r (levR r) fx = askS r (levS r) fx ∧ askS r (levS r) fx ≤ 81000) := by
  have hm := mth_is g
  have hd0 := (dep_m g hm.1).2 hm.2.1
  have up : askS r (levS r) fx < neverS → bstR r (levR r) fx ≤ askS r (levS r) fx ∧ askS r (levS r) fx ≤ 81000 := fun h => by
    obtain ⟨x, X, hc⟩ := ask_is g h
    have X2 : Adm r (levR r) fx x := ⟨X.toLv, fun i hi => (levR_mem g).2 (X.m i hi), X.f⟩
    obtain ⟨j, hj, ej⟩ := List.mem_iff_getElem.1 (X2.m _ hm.1)
    have ej : (levR r).getD j default = x (mthS r) := by rw [List.getD_eq_getElem?_getD, List.getElem?_eq_getElem hj]; exact ej
    have h1 := rc_le g X2 levR_pw (r.length + 1) (mthS r) j hm.1 hj ej.symm (by omega)
    rw [sub_all g] at h1
    have h2 := bst_le (c := rcL r (levR r) fx (r.length + 1) (mthS r)) hj
    have h3 : cstV r x ≤ 9000 * (r.length : Int) := sg_bd fun i hi => (ownC_bd g hi (X.b i hi)).2
    have hn := g.n.2
    unfold bstR
    unfold cstV cstF at hc h3
    omega
  have dn : bstR r (levR r) fx < neverR → askS r (levS r) fx ≤ bstR r (levR r) fx := fun h => by
    unfold bstR at h ⊢
    obtain ⟨m, h1, h2⟩ := bst_at h
    rw [h2] at h ⊢
    refine cost_rc g (fun y hy => (levR_mem g).1 hy) levR_pw (r.length + 1) (mthS r) m (-9000) hm.1 h1 ?_ (by omega) h
    have := levR_bd g (K.gt_mem h1)
    omega
  have e1 : neverR = 1073741824 := rfl
  have e2 : neverS = 1099511627776 := rfl
  refine ⟨fun h => ?_, fun h => ?_⟩
  · have a := dn h
    have b := up (by omega)
    omega
  · have b := up h
    have a := dn (by omega)
    omega
theorem best_iff (g : Good r) : bstR r (levR r) fx = chgS r ↔ askS r (levS r) fx = chgS r := by
  have h0 := chg_few g
  have h1 := best_ask (fx := []) g
  have h2 := best_ask (fx := fx) g
  have h3 := (h1.2 h0).2
  have e1 : neverR = 1073741824 := rfl
  have e0 : chgS r = askS r (levS r) [] := rfl
  constructor
  · intro h; rw [← h]; exact h2.1 (by omega)
  · intro h; rw [← h]; exact (h2.2 (by omega)).1
theorem best_0 (g : Good r) : bstR r (levR r) [] = chgS r := (best_iff g).2 rfl
/-- The first of ascending levels that has something. -/
theorem find_low {p : Int → Bool} : ∀ {l : List Int}, l.Pairwise (· ≤ ·) → ∀ {y}, l.find? p = some y → y ∈ l ∧ p y = true ∧ ∀ z ∈ l, p z = true → y ≤ z
  | [], _, y, h => by simp at h
  | a :: t, hp, y, h => by
    obtain ⟨h1, h2⟩ := List.pairwise_cons.1 hp
    rw [List.find?_cons] at h
    cases ha : p a with
    | true =>
      rw [ha] at h
      injection h with h
      subst h
      refine ⟨List.mem_cons_self, ha, fun z hz _ => ?_⟩
      rcases List.mem_cons.1 hz with hz | hz
      · omega
      · exact h1 z hz
    | false =>
      rw [ha] at h
      obtain ⟨h3, h4, h5⟩ := find_low h2 h
      refine ⟨List.mem_cons_of_mem _ h3, h4, fun z hz hz2 => ?_⟩
      rcases List.mem_cons.1 hz with hz | hz
      · rw [hz, ha] at hz2; cases hz2
      · exact h5 z hz hz2
theorem lev_sort : (levS r).Pairwise (· ≤ ·) := by
  unfold levS
  have h := List.pairwise_mergeSort (le := fun x y : Int => decide (x ≤ y)) (fun a b c h1 h2 => by simp at *; omega) (fun a b => by simp; omega) (levU r r.length)
  exact h.imp (fun h => by simpa using h)
theorem hgt_ex (g : Good r) (hi : i < r.length) : ∃ y, y ∈ levS r ∧ askS r (levS r) (hgtF r (chgS r) i ++ [y + DM r i]) = chgS r := by
  have ih := hgt_ask g i (by omega)
  have hf := chg_few g
  obtain ⟨x, X, hc⟩ := ask_is g (show askS r (levS r) (hgtF r (chgS r) i) < neverS by omega)
  have hl := hgt_len (r := r) (ch := chgS r) i
  refine ⟨x i, X.m i hi, ?_⟩
  have h1 : askS r (levS r) (hgtF r (chgS r) i ++ [x i + DM r i]) ≤ cstV r x := by
    refine ask_le g ⟨X.toLv, X.m, fun j hj hjf => ?_⟩
    rw [List.length_append, hl, List.length_singleton] at hjf
    rcases Nat.lt_or_ge j i with h2 | h2
    · rw [snoc_at (by omega)]; exact X.f j hj (by omega)
    · have : j = i := by omega
      subst this
      have e := snoc_end (l := hgtF r (chgS r) j) (y := x j + DM r j)
      rw [hl] at e; exact e
  obtain ⟨y, Y, hy⟩ := ask_is g (show askS r (levS r) (hgtF r (chgS r) i ++ [x i + DM r i]) < neverS by omega)
  have h2 : askS r (levS r) (hgtF r (chgS r) i) ≤ cstV r y := by
    refine ask_le g ⟨Y.toLv, Y.m, fun j hj hjf => ?_⟩
    have := Y.f j hj (by rw [List.length_append]; omega)
    rwa [snoc_at (by omega)] at this
  omega
/-- The reference takes the same height. -/
theorem hgt_ref (g : Good r) (hi : i < r.length) : (∃ m, m < (levR r).length ∧ bstR r (levR r) (hgtF r (chgS r) i ++ [(levR r).getD m default + DM r i]) = chgS r) ∧ ∀ m, m < (levR r).length → (∀ j, j < m → bstR r (levR r) (hgtF r (chgS r) i ++ [(levR r).getD j default + DM r i]) ≠ chgS r) → bstR r (levR r) (hgtF r (chgS r) i ++ [(levR r).getD m default + DM r i]) = chgS r → hgtF r (chgS r) (i + 1) = hgtF r (chgS r) i ++ [(levR r).getD m default + DM r i] := by
  obtain ⟨y, hy, ey⟩ := hgt_ex g hi
  refine ⟨?_, fun m hm hno h => ?_⟩
  · obtain ⟨j, hj, ej⟩ := List.mem_iff_getElem.1 ((levR_mem g).2 hy)
    refine ⟨j, hj, (best_iff g).2 ?_⟩
    rw [List.getD_eq_getElem?_getD, List.getElem?_eq_getElem hj]
    show askS r (levS r) (hgtF r (chgS r) i ++ [(levR r)[j] + DM r i]) = _
    rw [ej]; exact ey
  · rw [hgtF]
    cases e : (levS r).find? fun l => decide (askS r (levS r) (hgtF r (chgS r) i ++ [l + DM r i]) = chgS r) with
    | none =>
      have := List.find?_eq_none.1 e y hy
      exact absurd (decide_eq_true ey) this
    | some z =>
      obtain ⟨h1, h2, h3⟩ := find_low lev_sort e
      have h2 := of_decide_eq_true h2
      have hzm : z = (levR r).getD m default := by
        have hle := h3 _ ((levR_mem g).1 (K.gt_mem hm)) (decide_eq_true ((best_iff g).1 h))
        obtain ⟨j, hj, ej⟩ := List.mem_iff_getElem.1 ((levR_mem g).2 h1)
        have ej2 : (levR r).getD j default = z := by rw [List.getD_eq_getElem?_getD, List.getElem?_eq_getElem hj]; exact ej
        rcases Nat.lt_trichotomy j m with h4 | h4 | h4
        · exact absurd ((best_iff g).2 (by rw [ej2]; exact h2)) (hno j h4)
        · subst h4; exact ej2.symm
        · have := List.pairwise_iff_getElem.1 (levR_pw (r := r)) m j hm hj h4
          rw [List.getD_eq_getElem?_getD, List.getElem?_eq_getElem hm] at hle ⊢
          have hle2 : z ≤ (levR r)[m] := hle
          omega
      rw [← hzm]; rfl
end
end Go.Proofs.YtoemnobfnnjopaaDoor
end
section
set_option linter.unusedSimpArgs false
set_option linter.unusedVariables false
namespace Go.Proofs.YtoemnobfnnjopaaDoor
open Go.RowKit Go
open Go.K (setd setn ev nth over cl eI eP eT setM setF)
attribute [local irreducible] K.blk K.row
theorem mk1_105 : K.mk1 Tryd.prog 105 = some (4, 1, .bool false) := by kernel_rfl
@[reducible] def eO (b : Bool) : List Value := [.bool b]
theorem eO_at {xs : List Bool} {k : Nat} (h : k < xs.length) : (List.drop 0 (xs.flatMap eO))[0 + k * 1]? = some (.bool (xs.getD k default)) := by
  rw [List.drop_zero, show 0 + k * 1 = k by omega]
  induction xs generalizing k with
  | nil => simp at h
  | cons x xs ih =>
    cases k with
    | zero => rfl
    | succ k => simpa [List.flatMap_cons] using ih (k := k) (by simpa using h)
theorem eO_len {xs : List Bool} : (xs.flatMap eO).length = xs.length := by
  have := K.flat_len (e := eO) (size := 1) (fun _ => rfl) xs
  rw [this]; omega
theorem rep_bool {n : Nat} {z : Bool} : List.replicate n (Value.bool z) = (List.replicate n z).flatMap eO := by
  induction n with
  | zero => rfl
  | succ n ih => rw [List.replicate_succ, List.replicate_succ, List.flatMap_cons, ih]; rfl

set_option maxRecDepth 100000 in
set_option maxHeartbeats 2000000 in
theorem c40 {r : List RvT} {A : Option Addr} {c : Nat} {Y : Option Addr} {cy : Nat} {ys : List Int} {w : World} (hR : K.Rd w A 4 eR r) (hY : K.Rd w Y 1 eH ys) (hyb : ∀ x ∈ ys, 0 ≤ x ∧ x ≤ 65535) (hyl : ys.length ≤ 140737488351232) (g : Good r) :
    Calls Tryd.prog 40 [.slice A r.length c, .slice Y ys.length cy].toArray w (K.RetS 3 1 K.eI (anyS r (turnS ys)) w) := by
  have hgn := g.n
  have htb : ∀ i, 0 ≤ (turnS ys) i ∧ (turnS ys) i ≤ 65535 := fun i => turn_bd hyb
  have ht0 : ∀ i, 0 ≤ (turnS ys) i := fun i => (htb i).1
  refine K.enter (args := [.slice A r.length c, .slice Y ys.length cy]) Tryd.func40 rfl (n := 99) rfl ?_
  simp only [List.replicate, List.cons_append, List.nil_append]
  refine sr ?_
  refine qa ?_
  refine sn ?_
  refine sr ?_
  refine qm ?_
  refine qp (K.len_sl sl_22 rfl) ?_
  refine K.seq_new (K.mkSlice (n := r.length) mk1_26 rfl rfl (by omega) (by omega)) rfl ?_
  intro b14
  refine zN ?_
  refine qa ?_
  refine sn ?_
  refine sr ?_
  refine qm ?_
  refine qp (K.len_sl sl_22 rfl) ?_
  refine K.seq_new (K.mkSlice (n := r.length) mk1_105 rfl rfl (by omega) (by omega)) rfl ?_
  intro b17
  refine zN ?_
  rw [rep_bool, K.rep_int, ← hsD_0 (r := r) (t := (turnS ys))]
  refine zN ?_
  refine qa ?_
  refine sn ?_
  refine K.seq ?_
  refine sr ?_
  refine qa ?_
  refine sn ?_
  refine K.block ?_
  refine K.loopW [7] [8, 9, 10, 11, 18, 19, 20, 21, 22, 23, 24, 25, 26, 27, 28, 29, 30, 31, 32, 33, 34, 35, 36, 37, 38, 39, 40, 41, 42, 43, 44, 45, 46, 47, 48, 49, 50, 51, 52, 53, 54, 55, 56, 57, 58, 59, 60, 61, 62, 63, 64, 65, 66, 67, 68, 69, 70, 71, 72, 73, 74, 75, 76, 77, 78, 79, 80, 81, 82, 83, 84, 85, 86, 87, 88, 89, 90, 91, 92, 93, 94, 95, 96, 97, 98, 99] (fun vi L => ∃ (m : Nat) (D : List Bool), vi = [.int .i64 (m : Int)] ∧ L = [K.blk b17 4 (D.flatMap eO), K.blk b14 3 ((hsD r (turnS ys) D).flatMap K.eI)] ∧ m ≤ r.length ∧ D.length = r.length ∧ ∀ j, j < r.length → dep r j < m → D.getD j default = true) (fun vi => r.length - (intOf (K.nth vi 0)).toNat) ?_ ?_
  · exact ⟨0, _, rfl, rfl, Nat.zero_le _, List.length_replicate, fun j _ hj => absurd hj (Nat.not_lt_zero _)⟩
  intro vi vr L hJ
  obtain ⟨m, D, rfl, rfl, hmn, hdl, hD⟩ := hJ
  try dsimp only [setd, setn, ev, nth, over, cl, eI, eP, eT, eR, setM, setF, List.map, List.append, List.drop, List.take]
  refine K.seq ?_
  refine sr ?_
  iterate 2 refine qm ?_
  refine qp (K.len_sl sl_22 rfl) ?_
  refine qp (K.lss rfl rfl) ?_
  refine sn ?_
  refine K.cond rfl (fun ht21 => ?_) (fun ht21 => ?_)
  · try replace ht21 := of_decide_eq_true ht21
    refine K.skip ?_
    refine K.norm_then ?_
    refine K.seq ?_
    refine K.block ?_
    refine sr ?_
    refine qa ?_
    refine sn ?_
    refine K.block ?_
    refine K.loopW [8] [9, 10, 11, 24, 25, 26, 27, 28, 29, 30, 31, 32, 33, 34, 35, 36, 37, 38, 39, 40, 41, 42, 43, 44, 45, 46, 47, 48, 49, 50, 51, 52, 53, 54, 55, 56, 57, 58, 59, 60, 61, 62, 63, 64, 65, 66, 67, 68, 69, 70, 71, 72, 73, 74, 75, 76, 77, 78, 79, 80, 81, 82, 83, 84, 85, 86, 87, 88, 89, 90, 91, 92, 93, 94, 95, 96, 97, 98, 99] (fun vi L => ∃ (i : Nat) (D : List Bool), vi = [.int .i64 (i : Int)] ∧ L = [K.blk b17 4 (D.flatMap eO), K.blk b14 3 ((hsD r (turnS ys) D).flatMap K.eI)] ∧ i ≤ r.length ∧ D.length = r.length ∧ (∀ j, j < r.length → dep r j < m → D.getD j default = true) ∧ ∀ j, j < i → dep r j < m + 1 → D.getD j default = true) (fun vi => r.length - (intOf (K.nth vi 0)).toNat) ?_ ?_
    · exact ⟨0, D, rfl, rfl, Nat.zero_le _, hdl, hD, fun j hj => absurd hj (Nat.not_lt_zero _)⟩
    intro vi vr L hJ
    clear hD hdl
    obtain ⟨i, D, rfl, rfl, hin, hdl, hD, hI⟩ := hJ
    try dsimp only [setd, setn, ev, nth, over, cl, eI, eP, eT, eR, setM, setF, List.map, List.append, List.drop, List.take]
    refine K.seq ?_
    refine sr ?_
    iterate 2 refine qm ?_
    refine qp (K.len_sl sl_22 rfl) ?_
    refine qp (K.lss rfl rfl) ?_
    refine sn ?_
    refine K.cond rfl (fun ht27 => ?_) (fun ht27 => ?_)
    · try replace ht27 := of_decide_eq_true ht27
      have hi : i < r.length := by omega
      have hpi := g.p i hi
      have hdh := hsD_len (r := r) (t := (turnS ys)) (D := D)
      refine K.skip ?_
      refine K.norm_then ?_
      refine K.seq ?_
      refine K.block ?_
      refine K.seq ?_
      refine sr ?_
      iterate 2 refine qm ?_
      refine K.seq_pure (K.Pure.eq (K.indexAddr_sl sl_105 rfl rfl (by omega) (by omega)) (show _ = Value.pointer (some ⟨b17, 0 + i * 1, none⟩) from by rw [K.add_lit, Int.toNat_natCast])) rfl ?_
      refine zN ?_
      refine zN ?_
      refine K.seq_sil (K.load_at one_4 rfl (K.PtrL.own' ((K.m0))) (eO_at (by omega))) rfl ?_
      refine zN ?_
      refine qm ?_
      refine K.split 34 rfl (fun hg34 => ?_) (fun hg34 => ?_)
      · try replace hg34 := of_decide_eq_true hg34
        iterate 17 refine qs ?_
        refine qp (K.pick_t rfl) ?_
        refine sn ?_
        refine K.cond_true rfl ?_
        refine K.exit ?_
        refine K.exit_then ?_
        refine K.exit_here ?_
        refine K.norm_then ?_
        refine K.region_lit ?_
        refine qm ?_
        refine qp (K.add_i64 rfl rfl (by omega)) ?_
        refine qa ?_
        refine K.seq_nil ?_
        have hDi : dep r i < m + 1 → D.getD i default = true := fun _ => hg34
        exact K.round_endW (L'' := [K.blk b17 4 (D.flatMap eO), K.blk b14 3 ((hsD r (turnS ys) D).flatMap K.eI)]) [.int .i64 ((i : Int) + 1)] ⟨i + 1, D, rfl, rfl, by omega, hdl, hD, K.lt_succ_case hI hDi⟩ (by simp [K.nth, intOf]; omega) (List.Sublist.refl _) (by kernel_rfl)
      try replace hg34 := of_decide_eq_false hg34
      iterate 2 refine qm ?_
      refine K.seq_ix (M := []) _ hR.sl sl_22 rfl rfl rfl (by omega) rfl ?_
      intro p37 hp37
      refine zN ?_
      refine qp (K.fieldAddr fo_44_1 rfl) ?_
      refine K.seq_sil (K.load1 one_3 rfl ((K.PtrL.fld hp37 (k := 1)).any)) rfl ?_
      refine zN ?_
      refine qp (K.neq rfl rfl) ?_
      refine qm ?_
      refine K.split 41 rfl (fun hg41 => ?_) (fun hg41 => ?_)
      · try replace hg41 := of_decide_eq_true hg41
        have hdn := dn_lt g hi hg41
        have hdv : (((r.getD i default).dn.toNat : Nat) : Int) = (r.getD i default).dn := by omega
        iterate 3 refine qm ?_
        refine K.seq_ix (M := []) _ hR.sl sl_22 rfl rfl rfl (by omega) rfl ?_
        intro p45 hp45
        refine zN ?_
        refine qp (K.fieldAddr fo_44_1 rfl) ?_
        refine K.seq_sil (K.load1 one_3 rfl ((K.PtrL.fld hp45 (k := 1)).any)) rfl ?_
        refine zN ?_
        refine K.seq_pure (K.Pure.eq (K.indexAddr_sl sl_105 rfl rfl (by omega) (by omega)) (show _ = Value.pointer (some ⟨b17, 0 + (r.getD i default).dn.toNat * 1, none⟩) from by rw [K.add_lit])) rfl ?_
        refine zN ?_
        refine zN ?_
        refine K.seq_sil (K.load_at one_4 rfl (K.PtrL.own' ((K.m0))) (eO_at (by omega))) rfl ?_
        refine zN ?_
        first | refine K.seq_pure (K.not_d rfl) rfl ?_ | refine K.seq_pure (K.not_ rfl) rfl ?_
        refine zN ?_
        refine qp (K.pick_t rfl) ?_
        refine qp (K.pick_f rfl) ?_
        refine sn ?_
        refine K.cond rfl (fun ht52 => ?_) (fun ht52 => ?_)
        · try replace ht52 := of_decide_eq_true ht52
          refine K.exit ?_
          refine K.exit_then ?_
          refine K.exit_here ?_
          refine K.norm_then ?_
          refine K.region_lit ?_
          refine qm ?_
          refine qp (K.add_i64 rfl rfl (by omega)) ?_
          refine qa ?_
          refine K.seq_nil ?_
          have hnd : D.getD (r.getD i default).dn.toNat default = false := by simpa using ht52
          have hDi : dep r i < m + 1 → D.getD i default = true := fun h => by
            have := hD _ hdn (by have := dep_d g hi hg41; omega)
            rw [this] at hnd; cases hnd
          exact K.round_endW (L'' := [K.blk b17 4 (D.flatMap eO), K.blk b14 3 ((hsD r (turnS ys) D).flatMap K.eI)]) [.int .i64 ((i : Int) + 1)] ⟨i + 1, D, rfl, rfl, by omega, hdl, hD, K.lt_succ_case hI hDi⟩ (by simp [K.nth, intOf]; omega) (List.Sublist.refl _) (by kernel_rfl)
        try replace ht52 := of_decide_eq_false ht52
        refine K.skip ?_
        refine K.norm_then ?_
        refine sr ?_
        refine qa ?_
        refine sn ?_
        refine K.seq ?_
        refine sr ?_
        iterate 2 refine qm ?_
        refine K.seq_ix (M := []) _ hR.sl sl_22 rfl rfl rfl (by omega) rfl ?_
        intro p55 hp55
        refine zN ?_
        refine qp (K.fieldAddr fo_44_1 rfl) ?_
        refine K.seq_sil (K.load1 one_3 rfl ((K.PtrL.fld hp55 (k := 1)).any)) rfl ?_
        refine zN ?_
        refine qp (K.neq rfl rfl) ?_
        refine sn ?_
        refine K.cond rfl (fun ht58 => ?_) (fun ht58 => ?_)
        · try replace ht58 := of_decide_eq_true ht58
          have hdn2 := dn_lt g hi ht58
          have hdv2 : (((r.getD i default).dn.toNat : Nat) : Int) = (r.getD i default).dn := by omega
          have hDd : D.getD (r.getD i default).dn.toNat default = true := by
            first
              | (simpa using ht52)
              | exact absurd ht58 hg41
          have hhd : (hsD r (turnS ys) D).getD (r.getD i default).dn.toNat default = anyV r (turnS ys) (r.getD i default).dn.toNat := by rw [hsD_at hdn2, if_pos hDd]
          have hab := any_bd g ht0 _ hdn2
          have hlow : (hsD r (turnS ys) D).getD (r.getD i default).dn.toNat default + (r.getD i default).ls = lowV r (turnS ys) i := by rw [hhd]; unfold lowV; rw [if_neg ht58]
          refine K.draw_L [] Tryd_mixed ?_
          refine K.d_pure 0 rfl (K.move) (by kernel_rfl) rfl ?_
          refine zn ?_
          refine K.d_pure 1 rfl (K.move) (by kernel_rfl) rfl ?_
          refine zn ?_
          refine K.d_pure 2 rfl (K.move) (by kernel_rfl) rfl ?_
          refine zn ?_
          refine K.d_ix (M := []) 3 _ rfl hR.sl sl_22 rfl rfl rfl (by omega) (by kernel_rfl) rfl ?_
          intro p62 hp62
          refine zN ?_
          refine K.d_pure 4 rfl (K.fieldAddr fo_44_1 rfl) (by kernel_rfl) rfl ?_
          refine zn ?_
          refine K.d_mem 5 rfl (K.load1 one_3 rfl ((K.PtrL.fld hp62 (k := 1)).any)) (fun _ h => h) (by kernel_rfl) (by kernel_rfl) rfl ?_
          refine zN ?_
          refine K.d_pure 6 rfl (K.Pure.eq (K.indexAddr_sl sl_26 rfl rfl (by omega) (by omega)) (show _ = Value.pointer (some ⟨b14, 0 + (r.getD i default).dn.toNat * 1, none⟩) from by rw [K.add_lit])) (by kernel_rfl) rfl ?_
          refine zN ?_
          refine zN ?_
          refine K.d_mem 7 rfl (K.load_at one_3 rfl (K.PtrL.own' ((K.m1))) (eI_at (by omega))) (fun _ h => h) (by kernel_rfl) (by kernel_rfl) rfl ?_
          refine zN ?_
          refine K.d_pure 8 rfl (K.move) (by kernel_rfl) rfl ?_
          refine zn ?_
          refine K.d_pure 9 rfl (K.move) (by kernel_rfl) rfl ?_
          refine zn ?_
          refine K.d_ix (M := []) 10 _ rfl hR.sl sl_22 rfl rfl rfl (by omega) (by kernel_rfl) rfl ?_
          intro p69 hp69
          refine zN ?_
          refine K.d_pure 11 rfl (K.fieldAddr fo_44_2 rfl) (by kernel_rfl) rfl ?_
          refine zn ?_
          refine K.d_mem 12 rfl (K.load1 one_3 rfl ((K.PtrL.fld hp69 (k := 2)).any)) (fun _ h => h) (by kernel_rfl) (by kernel_rfl) rfl ?_
          refine zN ?_
          refine K.d_pure 13 rfl (K.add_i64 rfl rfl (by omega)) (by kernel_rfl) rfl ?_
          refine zn ?_
          refine K.d_pure 14 rfl (K.assign) (by kernel_rfl) rfl ?_
          refine zn ?_
          refine K.d_done (by kernel_rfl) ?_
          refine K.norm_then ?_
          refine sr ?_
          refine qa ?_
          refine sn ?_
          refine K.seq ?_
          refine sr ?_
          refine qa ?_
          refine sn ?_
          refine K.block ?_
          refine K.loopW [10, 11] [73, 74, 75, 76, 77, 78, 79, 80, 81, 82, 83, 84, 85, 86] (fun vi L => ∃ k : Nat, vi = [.int .i64 (mostF r i k), .int .i64 (k : Int)] ∧ L = [K.blk b17 4 (D.flatMap eO), K.blk b14 3 ((hsD r (turnS ys) D).flatMap K.eI)] ∧ k ≤ r.length) (fun vi => r.length - (intOf (K.nth vi 1)).toNat) ?_ ?_
          · exact ⟨0, rfl, rfl, Nat.zero_le _⟩
          intro vi vr L hJ
          obtain ⟨k, rfl, rfl, hkn⟩ := hJ
          try dsimp only [setd, setn, ev, nth, over, cl, eI, eP, eT, eR, setM, setF, List.map, List.append, List.drop, List.take]
          refine K.seq ?_
          refine sr ?_
          iterate 2 refine qm ?_
          refine qp (K.len_sl sl_22 rfl) ?_
          refine qp (K.lss rfl rfl) ?_
          refine sn ?_
          refine K.cond rfl (fun ht76 => ?_) (fun ht76 => ?_)
          · try replace ht76 := of_decide_eq_true ht76
            have hk : k < r.length := by omega
            have hdb := drp_bd (k := i) g hk
            have hmb := most_bd (i := i) g k (by omega)
            refine K.skip ?_
            refine K.norm_then ?_
            refine K.seq ?_
            refine K.block ?_
            refine K.region_lit ?_
            iterate 4 refine qm ?_
            refine K.seq_call (K.call_g cal_37 (fun F w hF hw => c37 (hR.pass hw) g hk)) rfl ?_
            refine zN ?_
            refine qp (K.max_int rfl rfl) ?_
            refine qp (K.sub_i64 rfl rfl (by omega)) ?_
            refine qp (K.min_int rfl rfl) ?_
            refine qa ?_
            refine K.seq_nil ?_
            refine K.norm_block ?_
            refine K.norm_then ?_
            refine K.region_lit ?_
            refine qm ?_
            refine qp (K.add_i64 rfl rfl (by omega)) ?_
            refine qa ?_
            refine K.seq_nil ?_
            exact K.round_endW (L'' := [K.blk b17 4 (D.flatMap eO), K.blk b14 3 ((hsD r (turnS ys) D).flatMap K.eI)]) [.int .i64 (min (mostF r i k) (9000 - max 0 (drp r k i))), .int .i64 ((k : Int) + 1)] ⟨k + 1, rfl, rfl, by omega⟩ (by simp [K.nth, intOf]; omega) (List.Sublist.refl _) (by kernel_rfl)
          try replace ht76 := of_decide_eq_false ht76
          have e0 : k = r.length := by omega
          subst e0
          have hlb := low_bd g ht0 hi
          have hti := htb i
          have hfit : 0 + i * 1 + 1 ≤ ((hsD r (turnS ys) D).flatMap K.eI).length := by rw [eI_len]; omega
          have hset : K.over ((hsD r (turnS ys) D).flatMap K.eI) (0 + i * 1) (K.cl (.int .i64 (anyV r (turnS ys) i))) = (hsD r (turnS ys) (D.set i true)).flatMap K.eI := by
            rw [← hsD_set hi hdl]
            exact K.set_cut0 (e := K.eI) (size := 1) (x := anyV r (turnS ys) i) (fun _ => rfl) (by omega)
          have hfit2 : 0 + i * 1 + 1 ≤ (D.flatMap eO).length := by rw [eO_len]; omega
          have hset2 : K.over (D.flatMap eO) (0 + i * 1) (K.cl (.bool true)) = (D.set i true).flatMap eO := K.set_cut0 (e := eO) (size := 1) (x := true) (fun _ => rfl) (by omega)
          refine K.exit ?_
          refine K.exit_then ?_
          refine K.exit_then ?_
          refine K.exit_here ?_
          refine K.norm_then ?_
          refine K.region_lit ?_
          iterate 8 refine qm ?_
          refine K.seq_call (K.call_g cal_45 (fun F w hF hw => c45 (hY.pass hw) hyb hyl (by omega))) rfl ?_
          refine zN ?_
          refine qp (K.Pure.eq (K.add_i64 rfl rfl (by omega)) (show _ = Value.int .i64 (lowV r (turnS ys) i + (turnS ys) i) from congrArg (Value.int .i64) (by rw [← hlow]))) ?_
          refine qp (K.Pure.eq (K.min_int rfl rfl) (show _ = Value.int .i64 (anyV r (turnS ys) i) from congrArg (Value.int .i64) (any_eq g hi).symm)) ?_
          refine K.seq_pure (K.Pure.eq (K.indexAddr_sl sl_26 rfl rfl (by omega) (by omega)) (show _ = Value.pointer (some ⟨b14, 0 + i * 1, none⟩) from by rw [K.add_lit, Int.toNat_natCast])) rfl ?_
          refine zN ?_
          refine zN ?_
          refine K.seq_st (K.store_ix (cs := (hsD r (turnS ys) D).flatMap K.eI) sz_3 rfl rfl hfit rfl (K.rpe K.rp1 (congrArg (K.blk b14 3) hset.symm))) rfl ?_
          refine zN ?_
          refine zN ?_
          refine K.seq_pure (K.Pure.eq (K.indexAddr_sl sl_105 rfl rfl (by omega) (by omega)) (show _ = Value.pointer (some ⟨b17, 0 + i * 1, none⟩) from by rw [K.add_lit, Int.toNat_natCast])) rfl ?_
          refine zN ?_
          refine zN ?_
          refine K.seq_st (K.store_ix (cs := D.flatMap eO) sz_4 rfl rfl hfit2 rfl (K.rpe K.rp0 (congrArg (K.blk b17 4) hset2.symm))) rfl ?_
          refine zN ?_
          refine zN ?_
          refine K.seq_nil ?_
          refine K.norm_block ?_
          refine K.norm_then ?_
          refine K.region_lit ?_
          refine qm ?_
          refine qp (K.add_i64 rfl rfl (by omega)) ?_
          refine qa ?_
          refine K.seq_nil ?_
          have hDi : dep r i < m + 1 → (D.set i true).getD i default = true := fun _ => set_get hdl hi
          exact K.round_endW (L'' := [K.blk b17 4 ((D.set i true).flatMap eO), K.blk b14 3 ((hsD r (turnS ys) (D.set i true)).flatMap K.eI)]) [.int .i64 ((i : Int) + 1)] ⟨i + 1, D.set i true, rfl, rfl, by omega, by rw [List.length_set]; exact hdl, fun j hj h => set_old (hD j hj h), K.lt_succ_case (fun j hj h => set_old (hI j hj h)) hDi⟩ (by simp [K.nth, intOf]; omega) (List.Sublist.refl _) (by kernel_rfl)
        try replace ht58 := of_decide_eq_false ht58
        have hlow : (0 : Int) = lowV r (turnS ys) i := by unfold lowV; rw [if_pos (Decidable.not_not.1 ht58)]
        refine K.skip ?_
        refine K.norm_then ?_
        refine sr ?_
        refine qa ?_
        refine sn ?_
        refine K.seq ?_
        refine sr ?_
        refine qa ?_
        refine sn ?_
        refine K.block ?_
        refine K.loopW [10, 11] [73, 74, 75, 76, 77, 78, 79, 80, 81, 82, 83, 84, 85, 86] (fun vi L => ∃ k : Nat, vi = [.int .i64 (mostF r i k), .int .i64 (k : Int)] ∧ L = [K.blk b17 4 (D.flatMap eO), K.blk b14 3 ((hsD r (turnS ys) D).flatMap K.eI)] ∧ k ≤ r.length) (fun vi => r.length - (intOf (K.nth vi 1)).toNat) ?_ ?_
        · exact ⟨0, rfl, rfl, Nat.zero_le _⟩
        intro vi vr L hJ
        obtain ⟨k, rfl, rfl, hkn⟩ := hJ
        try dsimp only [setd, setn, ev, nth, over, cl, eI, eP, eT, eR, setM, setF, List.map, List.append, List.drop, List.take]
        refine K.seq ?_
        refine sr ?_
        iterate 2 refine qm ?_
        refine qp (K.len_sl sl_22 rfl) ?_
        refine qp (K.lss rfl rfl) ?_
        refine sn ?_
        refine K.cond rfl (fun ht76 => ?_) (fun ht76 => ?_)
        · try replace ht76 := of_decide_eq_true ht76
          have hk : k < r.length := by omega
          have hdb := drp_bd (k := i) g hk
          have hmb := most_bd (i := i) g k (by omega)
          refine K.skip ?_
          refine K.norm_then ?_
          refine K.seq ?_
          refine K.block ?_
          refine K.region_lit ?_
          iterate 4 refine qm ?_
          refine K.seq_call (K.call_g cal_37 (fun F w hF hw => c37 (hR.pass hw) g hk)) rfl ?_
          refine zN ?_
          refine qp (K.max_int rfl rfl) ?_
          refine qp (K.sub_i64 rfl rfl (by omega)) ?_
          refine qp (K.min_int rfl rfl) ?_
          refine qa ?_
          refine K.seq_nil ?_
          refine K.norm_block ?_
          refine K.norm_then ?_
          refine K.region_lit ?_
          refine qm ?_
          refine qp (K.add_i64 rfl rfl (by omega)) ?_
          refine qa ?_
          refine K.seq_nil ?_
          exact K.round_endW (L'' := [K.blk b17 4 (D.flatMap eO), K.blk b14 3 ((hsD r (turnS ys) D).flatMap K.eI)]) [.int .i64 (min (mostF r i k) (9000 - max 0 (drp r k i))), .int .i64 ((k : Int) + 1)] ⟨k + 1, rfl, rfl, by omega⟩ (by simp [K.nth, intOf]; omega) (List.Sublist.refl _) (by kernel_rfl)
        try replace ht76 := of_decide_eq_false ht76
        have e0 : k = r.length := by omega
        subst e0
        have hlb := low_bd g ht0 hi
        have hti := htb i
        have hfit : 0 + i * 1 + 1 ≤ ((hsD r (turnS ys) D).flatMap K.eI).length := by rw [eI_len]; omega
        have hset : K.over ((hsD r (turnS ys) D).flatMap K.eI) (0 + i * 1) (K.cl (.int .i64 (anyV r (turnS ys) i))) = (hsD r (turnS ys) (D.set i true)).flatMap K.eI := by
          rw [← hsD_set hi hdl]
          exact K.set_cut0 (e := K.eI) (size := 1) (x := anyV r (turnS ys) i) (fun _ => rfl) (by omega)
        have hfit2 : 0 + i * 1 + 1 ≤ (D.flatMap eO).length := by rw [eO_len]; omega
        have hset2 : K.over (D.flatMap eO) (0 + i * 1) (K.cl (.bool true)) = (D.set i true).flatMap eO := K.set_cut0 (e := eO) (size := 1) (x := true) (fun _ => rfl) (by omega)
        refine K.exit ?_
        refine K.exit_then ?_
        refine K.exit_then ?_
        refine K.exit_here ?_
        refine K.norm_then ?_
        refine K.region_lit ?_
        iterate 8 refine qm ?_
        refine K.seq_call (K.call_g cal_45 (fun F w hF hw => c45 (hY.pass hw) hyb hyl (by omega))) rfl ?_
        refine zN ?_
        refine qp (K.Pure.eq (K.add_i64 rfl rfl (by omega)) (show _ = Value.int .i64 (lowV r (turnS ys) i + (turnS ys) i) from congrArg (Value.int .i64) (by rw [← hlow]))) ?_
        refine qp (K.Pure.eq (K.min_int rfl rfl) (show _ = Value.int .i64 (anyV r (turnS ys) i) from congrArg (Value.int .i64) (any_eq g hi).symm)) ?_
        refine K.seq_pure (K.Pure.eq (K.indexAddr_sl sl_26 rfl rfl (by omega) (by omega)) (show _ = Value.pointer (some ⟨b14, 0 + i * 1, none⟩) from by rw [K.add_lit, Int.toNat_natCast])) rfl ?_
        refine zN ?_
        refine zN ?_
        refine K.seq_st (K.store_ix (cs := (hsD r (turnS ys) D).flatMap K.eI) sz_3 rfl rfl hfit rfl (K.rpe K.rp1 (congrArg (K.blk b14 3) hset.symm))) rfl ?_
        refine zN ?_
        refine zN ?_
        refine K.seq_pure (K.Pure.eq (K.indexAddr_sl sl_105 rfl rfl (by omega) (by omega)) (show _ = Value.pointer (some ⟨b17, 0 + i * 1, none⟩) from by rw [K.add_lit, Int.toNat_natCast])) rfl ?_
        refine zN ?_
        refine zN ?_
        refine K.seq_st (K.store_ix (cs := D.flatMap eO) sz_4 rfl rfl hfit2 rfl (K.rpe K.rp0 (congrArg (K.blk b17 4) hset2.symm))) rfl ?_
        refine zN ?_
        refine zN ?_
        refine K.seq_nil ?_
        refine K.norm_block ?_
        refine K.norm_then ?_
        refine K.region_lit ?_
        refine qm ?_
        refine qp (K.add_i64 rfl rfl (by omega)) ?_
        refine qa ?_
        refine K.seq_nil ?_
        have hDi : dep r i < m + 1 → (D.set i true).getD i default = true := fun _ => set_get hdl hi
        exact K.round_endW (L'' := [K.blk b17 4 ((D.set i true).flatMap eO), K.blk b14 3 ((hsD r (turnS ys) (D.set i true)).flatMap K.eI)]) [.int .i64 ((i : Int) + 1)] ⟨i + 1, D.set i true, rfl, rfl, by omega, by rw [List.length_set]; exact hdl, fun j hj h => set_old (hD j hj h), K.lt_succ_case (fun j hj h => set_old (hI j hj h)) hDi⟩ (by simp [K.nth, intOf]; omega) (List.Sublist.refl _) (by kernel_rfl)
      try replace hg41 := of_decide_eq_false hg41
      iterate 9 refine qs ?_
      refine qp (K.pick_f rfl) ?_
      refine qp (K.pick_f rfl) ?_
      refine sn ?_
      refine K.cond_false rfl ?_
      refine K.skip ?_
      refine K.norm_then ?_
      refine sr ?_
      refine qa ?_
      refine sn ?_
      refine K.seq ?_
      refine sr ?_
      iterate 2 refine qm ?_
      refine K.seq_ix (M := []) _ hR.sl sl_22 rfl rfl rfl (by omega) rfl ?_
      intro p55 hp55
      refine zN ?_
      refine qp (K.fieldAddr fo_44_1 rfl) ?_
      refine K.seq_sil (K.load1 one_3 rfl ((K.PtrL.fld hp55 (k := 1)).any)) rfl ?_
      refine zN ?_
      refine qp (K.neq rfl rfl) ?_
      refine sn ?_
      refine K.cond rfl (fun ht58 => ?_) (fun ht58 => ?_)
      · try replace ht58 := of_decide_eq_true ht58
        have hdn2 := dn_lt g hi ht58
        have hdv2 : (((r.getD i default).dn.toNat : Nat) : Int) = (r.getD i default).dn := by omega
        have hDd : D.getD (r.getD i default).dn.toNat default = true := by
          first
            | (simpa using ht52)
            | exact absurd ht58 hg41
        have hhd : (hsD r (turnS ys) D).getD (r.getD i default).dn.toNat default = anyV r (turnS ys) (r.getD i default).dn.toNat := by rw [hsD_at hdn2, if_pos hDd]
        have hab := any_bd g ht0 _ hdn2
        have hlow : (hsD r (turnS ys) D).getD (r.getD i default).dn.toNat default + (r.getD i default).ls = lowV r (turnS ys) i := by rw [hhd]; unfold lowV; rw [if_neg ht58]
        refine K.draw_L [] Tryd_mixed ?_
        refine K.d_pure 0 rfl (K.move) (by kernel_rfl) rfl ?_
        refine zn ?_
        refine K.d_pure 1 rfl (K.move) (by kernel_rfl) rfl ?_
        refine zn ?_
        refine K.d_pure 2 rfl (K.move) (by kernel_rfl) rfl ?_
        refine zn ?_
        refine K.d_ix (M := []) 3 _ rfl hR.sl sl_22 rfl rfl rfl (by omega) (by kernel_rfl) rfl ?_
        intro p62 hp62
        refine zN ?_
        refine K.d_pure 4 rfl (K.fieldAddr fo_44_1 rfl) (by kernel_rfl) rfl ?_
        refine zn ?_
        refine K.d_mem 5 rfl (K.load1 one_3 rfl ((K.PtrL.fld hp62 (k := 1)).any)) (fun _ h => h) (by kernel_rfl) (by kernel_rfl) rfl ?_
        refine zN ?_
        refine K.d_pure 6 rfl (K.Pure.eq (K.indexAddr_sl sl_26 rfl rfl (by omega) (by omega)) (show _ = Value.pointer (some ⟨b14, 0 + (r.getD i default).dn.toNat * 1, none⟩) from by rw [K.add_lit])) (by kernel_rfl) rfl ?_
        refine zN ?_
        refine zN ?_
        refine K.d_mem 7 rfl (K.load_at one_3 rfl (K.PtrL.own' ((K.m1))) (eI_at (by omega))) (fun _ h => h) (by kernel_rfl) (by kernel_rfl) rfl ?_
        refine zN ?_
        refine K.d_pure 8 rfl (K.move) (by kernel_rfl) rfl ?_
        refine zn ?_
        refine K.d_pure 9 rfl (K.move) (by kernel_rfl) rfl ?_
        refine zn ?_
        refine K.d_ix (M := []) 10 _ rfl hR.sl sl_22 rfl rfl rfl (by omega) (by kernel_rfl) rfl ?_
        intro p69 hp69
        refine zN ?_
        refine K.d_pure 11 rfl (K.fieldAddr fo_44_2 rfl) (by kernel_rfl) rfl ?_
        refine zn ?_
        refine K.d_mem 12 rfl (K.load1 one_3 rfl ((K.PtrL.fld hp69 (k := 2)).any)) (fun _ h => h) (by kernel_rfl) (by kernel_rfl) rfl ?_
        refine zN ?_
        refine K.d_pure 13 rfl (K.add_i64 rfl rfl (by omega)) (by kernel_rfl) rfl ?_
        refine zn ?_
        refine K.d_pure 14 rfl (K.assign) (by kernel_rfl) rfl ?_
        refine zn ?_
        refine K.d_done (by kernel_rfl) ?_
        refine K.norm_then ?_
        refine sr ?_
        refine qa ?_
        refine sn ?_
        refine K.seq ?_
        refine sr ?_
        refine qa ?_
        refine sn ?_
        refine K.block ?_
        refine K.loopW [10, 11] [73, 74, 75, 76, 77, 78, 79, 80, 81, 82, 83, 84, 85, 86] (fun vi L => ∃ k : Nat, vi = [.int .i64 (mostF r i k), .int .i64 (k : Int)] ∧ L = [K.blk b17 4 (D.flatMap eO), K.blk b14 3 ((hsD r (turnS ys) D).flatMap K.eI)] ∧ k ≤ r.length) (fun vi => r.length - (intOf (K.nth vi 1)).toNat) ?_ ?_
        · exact ⟨0, rfl, rfl, Nat.zero_le _⟩
        intro vi vr L hJ
        obtain ⟨k, rfl, rfl, hkn⟩ := hJ
        try dsimp only [setd, setn, ev, nth, over, cl, eI, eP, eT, eR, setM, setF, List.map, List.append, List.drop, List.take]
        refine K.seq ?_
        refine sr ?_
        iterate 2 refine qm ?_
        refine qp (K.len_sl sl_22 rfl) ?_
        refine qp (K.lss rfl rfl) ?_
        refine sn ?_
        refine K.cond rfl (fun ht76 => ?_) (fun ht76 => ?_)
        · try replace ht76 := of_decide_eq_true ht76
          have hk : k < r.length := by omega
          have hdb := drp_bd (k := i) g hk
          have hmb := most_bd (i := i) g k (by omega)
          refine K.skip ?_
          refine K.norm_then ?_
          refine K.seq ?_
          refine K.block ?_
          refine K.region_lit ?_
          iterate 4 refine qm ?_
          refine K.seq_call (K.call_g cal_37 (fun F w hF hw => c37 (hR.pass hw) g hk)) rfl ?_
          refine zN ?_
          refine qp (K.max_int rfl rfl) ?_
          refine qp (K.sub_i64 rfl rfl (by omega)) ?_
          refine qp (K.min_int rfl rfl) ?_
          refine qa ?_
          refine K.seq_nil ?_
          refine K.norm_block ?_
          refine K.norm_then ?_
          refine K.region_lit ?_
          refine qm ?_
          refine qp (K.add_i64 rfl rfl (by omega)) ?_
          refine qa ?_
          refine K.seq_nil ?_
          exact K.round_endW (L'' := [K.blk b17 4 (D.flatMap eO), K.blk b14 3 ((hsD r (turnS ys) D).flatMap K.eI)]) [.int .i64 (min (mostF r i k) (9000 - max 0 (drp r k i))), .int .i64 ((k : Int) + 1)] ⟨k + 1, rfl, rfl, by omega⟩ (by simp [K.nth, intOf]; omega) (List.Sublist.refl _) (by kernel_rfl)
        try replace ht76 := of_decide_eq_false ht76
        have e0 : k = r.length := by omega
        subst e0
        have hlb := low_bd g ht0 hi
        have hti := htb i
        have hfit : 0 + i * 1 + 1 ≤ ((hsD r (turnS ys) D).flatMap K.eI).length := by rw [eI_len]; omega
        have hset : K.over ((hsD r (turnS ys) D).flatMap K.eI) (0 + i * 1) (K.cl (.int .i64 (anyV r (turnS ys) i))) = (hsD r (turnS ys) (D.set i true)).flatMap K.eI := by
          rw [← hsD_set hi hdl]
          exact K.set_cut0 (e := K.eI) (size := 1) (x := anyV r (turnS ys) i) (fun _ => rfl) (by omega)
        have hfit2 : 0 + i * 1 + 1 ≤ (D.flatMap eO).length := by rw [eO_len]; omega
        have hset2 : K.over (D.flatMap eO) (0 + i * 1) (K.cl (.bool true)) = (D.set i true).flatMap eO := K.set_cut0 (e := eO) (size := 1) (x := true) (fun _ => rfl) (by omega)
        refine K.exit ?_
        refine K.exit_then ?_
        refine K.exit_then ?_
        refine K.exit_here ?_
        refine K.norm_then ?_
        refine K.region_lit ?_
        iterate 8 refine qm ?_
        refine K.seq_call (K.call_g cal_45 (fun F w hF hw => c45 (hY.pass hw) hyb hyl (by omega))) rfl ?_
        refine zN ?_
        refine qp (K.Pure.eq (K.add_i64 rfl rfl (by omega)) (show _ = Value.int .i64 (lowV r (turnS ys) i + (turnS ys) i) from congrArg (Value.int .i64) (by rw [← hlow]))) ?_
        refine qp (K.Pure.eq (K.min_int rfl rfl) (show _ = Value.int .i64 (anyV r (turnS ys) i) from congrArg (Value.int .i64) (any_eq g hi).symm)) ?_
        refine K.seq_pure (K.Pure.eq (K.indexAddr_sl sl_26 rfl rfl (by omega) (by omega)) (show _ = Value.pointer (some ⟨b14, 0 + i * 1, none⟩) from by rw [K.add_lit, Int.toNat_natCast])) rfl ?_
        refine zN ?_
        refine zN ?_
        refine K.seq_st (K.store_ix (cs := (hsD r (turnS ys) D).flatMap K.eI) sz_3 rfl rfl hfit rfl (K.rpe K.rp1 (congrArg (K.blk b14 3) hset.symm))) rfl ?_
        refine zN ?_
        refine zN ?_
        refine K.seq_pure (K.Pure.eq (K.indexAddr_sl sl_105 rfl rfl (by omega) (by omega)) (show _ = Value.pointer (some ⟨b17, 0 + i * 1, none⟩) from by rw [K.add_lit, Int.toNat_natCast])) rfl ?_
        refine zN ?_
        refine zN ?_
        refine K.seq_st (K.store_ix (cs := D.flatMap eO) sz_4 rfl rfl hfit2 rfl (K.rpe K.rp0 (congrArg (K.blk b17 4) hset2.symm))) rfl ?_
        refine zN ?_
        refine zN ?_
        refine K.seq_nil ?_
        refine K.norm_block ?_
        refine K.norm_then ?_
        refine K.region_lit ?_
        refine qm ?_
        refine qp (K.add_i64 rfl rfl (by omega)) ?_
        refine qa ?_
        refine K.seq_nil ?_
        have hDi : dep r i < m + 1 → (D.set i true).getD i default = true := fun _ => set_get hdl hi
        exact K.round_endW (L'' := [K.blk b17 4 ((D.set i true).flatMap eO), K.blk b14 3 ((hsD r (turnS ys) (D.set i true)).flatMap K.eI)]) [.int .i64 ((i : Int) + 1)] ⟨i + 1, D.set i true, rfl, rfl, by omega, by rw [List.length_set]; exact hdl, fun j hj h => set_old (hD j hj h), K.lt_succ_case (fun j hj h => set_old (hI j hj h)) hDi⟩ (by simp [K.nth, intOf]; omega) (List.Sublist.refl _) (by kernel_rfl)
      try replace ht58 := of_decide_eq_false ht58
      have hlow : (0 : Int) = lowV r (turnS ys) i := by unfold lowV; rw [if_pos (Decidable.not_not.1 ht58)]
      refine K.skip ?_
      refine K.norm_then ?_
      refine sr ?_
      refine qa ?_
      refine sn ?_
      refine K.seq ?_
      refine sr ?_
      refine qa ?_
      refine sn ?_
      refine K.block ?_
      refine K.loopW [10, 11] [73, 74, 75, 76, 77, 78, 79, 80, 81, 82, 83, 84, 85, 86] (fun vi L => ∃ k : Nat, vi = [.int .i64 (mostF r i k), .int .i64 (k : Int)] ∧ L = [K.blk b17 4 (D.flatMap eO), K.blk b14 3 ((hsD r (turnS ys) D).flatMap K.eI)] ∧ k ≤ r.length) (fun vi => r.length - (intOf (K.nth vi 1)).toNat) ?_ ?_
      · exact ⟨0, rfl, rfl, Nat.zero_le _⟩
      intro vi vr L hJ
      obtain ⟨k, rfl, rfl, hkn⟩ := hJ
      try dsimp only [setd, setn, ev, nth, over, cl, eI, eP, eT, eR, setM, setF, List.map, List.append, List.drop, List.take]
      refine K.seq ?_
      refine sr ?_
      iterate 2 refine qm ?_
      refine qp (K.len_sl sl_22 rfl) ?_
      refine qp (K.lss rfl rfl) ?_
      refine sn ?_
      refine K.cond rfl (fun ht76 => ?_) (fun ht76 => ?_)
      · try replace ht76 := of_decide_eq_true ht76
        have hk : k < r.length := by omega
        have hdb := drp_bd (k := i) g hk
        have hmb := most_bd (i := i) g k (by omega)
        refine K.skip ?_
        refine K.norm_then ?_
        refine K.seq ?_
        refine K.block ?_
        refine K.region_lit ?_
        iterate 4 refine qm ?_
        refine K.seq_call (K.call_g cal_37 (fun F w hF hw => c37 (hR.pass hw) g hk)) rfl ?_
        refine zN ?_
        refine qp (K.max_int rfl rfl) ?_
        refine qp (K.sub_i64 rfl rfl (by omega)) ?_
        refine qp (K.min_int rfl rfl) ?_
        refine qa ?_
        refine K.seq_nil ?_
        refine K.norm_block ?_
        refine K.norm_then ?_
        refine K.region_lit ?_
        refine qm ?_
        refine qp (K.add_i64 rfl rfl (by omega)) ?_
        refine qa ?_
        refine K.seq_nil ?_
        exact K.round_endW (L'' := [K.blk b17 4 (D.flatMap eO), K.blk b14 3 ((hsD r (turnS ys) D).flatMap K.eI)]) [.int .i64 (min (mostF r i k) (9000 - max 0 (drp r k i))), .int .i64 ((k : Int) + 1)] ⟨k + 1, rfl, rfl, by omega⟩ (by simp [K.nth, intOf]; omega) (List.Sublist.refl _) (by kernel_rfl)
      try replace ht76 := of_decide_eq_false ht76
      have e0 : k = r.length := by omega
      subst e0
      have hlb := low_bd g ht0 hi
      have hti := htb i
      have hfit : 0 + i * 1 + 1 ≤ ((hsD r (turnS ys) D).flatMap K.eI).length := by rw [eI_len]; omega
      have hset : K.over ((hsD r (turnS ys) D).flatMap K.eI) (0 + i * 1) (K.cl (.int .i64 (anyV r (turnS ys) i))) = (hsD r (turnS ys) (D.set i true)).flatMap K.eI := by
        rw [← hsD_set hi hdl]
        exact K.set_cut0 (e := K.eI) (size := 1) (x := anyV r (turnS ys) i) (fun _ => rfl) (by omega)
      have hfit2 : 0 + i * 1 + 1 ≤ (D.flatMap eO).length := by rw [eO_len]; omega
      have hset2 : K.over (D.flatMap eO) (0 + i * 1) (K.cl (.bool true)) = (D.set i true).flatMap eO := K.set_cut0 (e := eO) (size := 1) (x := true) (fun _ => rfl) (by omega)
      refine K.exit ?_
      refine K.exit_then ?_
      refine K.exit_then ?_
      refine K.exit_here ?_
      refine K.norm_then ?_
      refine K.region_lit ?_
      iterate 8 refine qm ?_
      refine K.seq_call (K.call_g cal_45 (fun F w hF hw => c45 (hY.pass hw) hyb hyl (by omega))) rfl ?_
      refine zN ?_
      refine qp (K.Pure.eq (K.add_i64 rfl rfl (by omega)) (show _ = Value.int .i64 (lowV r (turnS ys) i + (turnS ys) i) from congrArg (Value.int .i64) (by rw [← hlow]))) ?_
      refine qp (K.Pure.eq (K.min_int rfl rfl) (show _ = Value.int .i64 (anyV r (turnS ys) i) from congrArg (Value.int .i64) (any_eq g hi).symm)) ?_
      refine K.seq_pure (K.Pure.eq (K.indexAddr_sl sl_26 rfl rfl (by omega) (by omega)) (show _ = Value.pointer (some ⟨b14, 0 + i * 1, none⟩) from by rw [K.add_lit, Int.toNat_natCast])) rfl ?_
      refine zN ?_
      refine zN ?_
      refine K.seq_st (K.store_ix (cs := (hsD r (turnS ys) D).flatMap K.eI) sz_3 rfl rfl hfit rfl (K.rpe K.rp1 (congrArg (K.blk b14 3) hset.symm))) rfl ?_
      refine zN ?_
      refine zN ?_
      refine K.seq_pure (K.Pure.eq (K.indexAddr_sl sl_105 rfl rfl (by omega) (by omega)) (show _ = Value.pointer (some ⟨b17, 0 + i * 1, none⟩) from by rw [K.add_lit, Int.toNat_natCast])) rfl ?_
      refine zN ?_
      refine zN ?_
      refine K.seq_st (K.store_ix (cs := D.flatMap eO) sz_4 rfl rfl hfit2 rfl (K.rpe K.rp0 (congrArg (K.blk b17 4) hset2.symm))) rfl ?_
      refine zN ?_
      refine zN ?_
      refine K.seq_nil ?_
      refine K.norm_block ?_
      refine K.norm_then ?_
      refine K.region_lit ?_
      refine qm ?_
      refine qp (K.add_i64 rfl rfl (by omega)) ?_
      refine qa ?_
      refine K.seq_nil ?_
      have hDi : dep r i < m + 1 → (D.set i true).getD i default = true := fun _ => set_get hdl hi
      exact K.round_endW (L'' := [K.blk b17 4 ((D.set i true).flatMap eO), K.blk b14 3 ((hsD r (turnS ys) (D.set i true)).flatMap K.eI)]) [.int .i64 ((i : Int) + 1)] ⟨i + 1, D.set i true, rfl, rfl, by omega, by rw [List.length_set]; exact hdl, fun j hj h => set_old (hD j hj h), K.lt_succ_case (fun j hj h => set_old (hI j hj h)) hDi⟩ (by simp [K.nth, intOf]; omega) (List.Sublist.refl _) (by kernel_rfl)
    try replace ht27 := of_decide_eq_false ht27
    refine K.exit ?_
    refine K.exit_then ?_
    refine K.exit_then ?_
    refine K.exit_here ?_
    refine K.norm_block ?_
    refine K.norm_then ?_
    refine K.region_lit ?_
    refine qm ?_
    refine qp (K.add_i64 rfl rfl (by omega)) ?_
    refine qa ?_
    refine K.seq_nil ?_
    exact K.round_endW (L'' := [K.blk b17 4 (D.flatMap eO), K.blk b14 3 ((hsD r (turnS ys) D).flatMap K.eI)]) [.int .i64 ((m : Int) + 1)] ⟨m + 1, D, rfl, rfl, by omega, hdl, fun j hj h => hI j (by omega) h⟩ (by simp [K.nth, intOf]; omega) (List.Sublist.refl _) (by kernel_rfl)
  try replace ht21 := of_decide_eq_false ht21
  refine K.exit ?_
  refine K.exit_then ?_
  refine K.exit_then ?_
  refine K.exit_here ?_
  refine K.norm_then ?_
  refine sr ?_
  refine qm ?_
  refine qa ?_
  refine sn ?_
  refine K.ret ?_
  refine K.end_ret (fun w _ => K.res_tmp rfl w) ?_
  have hall : (hsD r (turnS ys) D) = anyS r (turnS ys) := hsD_all (fun j hj => hD j hj (by have := dep_lt g hj; omega))
  rw [hall]
  have hal := any_len (r := r) (t := (turnS ys))
  refine K.permH (L' := [_, _]) (List.perm_middle (l₁ := [_])) ?_
  refine K.blk_row (size := 1) (n := r.length) (by rw [eI_len]; omega) (by simp only [maxLen]; omega) ?_
  exact K.rets_s K.m0 hal.symm rfl rfl

end Go.Proofs.YtoemnobfnnjopaaDoor
end
section
set_option linter.unusedSimpArgs false
set_option linter.unusedVariables false
namespace Go.Proofs.YtoemnobfnnjopaaDoor
open Go.RowKit Go
open Go.K (setd setn ev nth over cl eI eP eT setM setF)
attribute [local irreducible] K.blk K.row
theorem nm_le {r : List RvT} {l : List Int} (P : Pl r l) : ∀ i, i ≤ l.length → nmF l i ≤ (i : Int)
  | 0, _ => Int.le_refl _
  | i + 1, hi => by
    have := nm_le P i (by omega)
    have := P.b i (by omega)
    rw [nmF]; omega
theorem pl_bd {r : List RvT} {l : List Int} (P : Pl r l) (hl : l.length ≤ 9) : ∀ i, i < l.length → -1 ≤ l.getD i default ∧ l.getD i default ≤ 1000 := fun i hi => by
  have := nm_le P i (by omega)
  have := P.b i hi
  rcases P.a i hi with h | h <;> omega
theorem nm_bd {l : List Int} (h : ∀ i, i < l.length → -1 ≤ l.getD i default ∧ l.getD i default ≤ 1000) : ∀ i, i ≤ l.length → 0 ≤ nmF l i ∧ nmF l i ≤ 1001
  | 0, _ => by rw [nmF]; omega
  | i + 1, hi => by
    have := nm_bd h i (by omega)
    have := h i (by omega)
    rw [nmF]; omega

set_option maxRecDepth 100000 in
theorem c41 {Q : Option Addr} {q : Nat} {l : List Int} {w : World} (hL : K.Rd w Q 1 K.eI l) (hl : l.length ≤ 1000000) (hb : ∀ i, i < l.length → -1 ≤ l.getD i default ∧ l.getD i default ≤ 1000) :
    Calls Tryd.prog 41 [.slice Q l.length q].toArray w (K.Gives (.int .i64 (nmV l)) w) := by
  refine K.enter (args := [.slice Q l.length q]) Tryd.func41 rfl (n := 18) rfl ?_
  simp only [List.replicate, List.cons_append, List.nil_append]
  refine sr ?_
  refine qa ?_
  refine sn ?_
  refine sr ?_
  refine qa ?_
  refine sn ?_
  refine K.seq ?_
  refine sr ?_
  refine qa ?_
  refine sn ?_
  refine K.block ?_
  refine K.loopW [3, 4] [5, 6, 7, 8, 9, 10, 11, 12, 13, 14, 15, 16, 17] (fun vi L => ∃ i : Nat, vi = [.int .i64 (nmF l i), .int .i64 (i : Int)] ∧ L = [] ∧ i ≤ l.length) (fun vi => l.length - (intOf (K.nth vi 1)).toNat) ?_ ?_
  · exact ⟨0, rfl, rfl, Nat.zero_le _⟩
  intro vi vr L hJ
  obtain ⟨i, rfl, rfl, hin⟩ := hJ
  try dsimp only [setd, setn, ev, nth, over, cl, eI, eP, eT, eR, setM, setF, List.map, List.append, List.drop, List.take]
  refine K.seq ?_
  refine sr ?_
  iterate 2 refine qm ?_
  refine qp (K.len_sl sl_26 rfl) ?_
  refine qp (K.lss rfl rfl) ?_
  refine sn ?_
  refine K.cond rfl (fun ht8 => ?_) (fun ht8 => ?_)
  · try replace ht8 := of_decide_eq_true ht8
    have hi : i < l.length := by omega
    have hbi := hb i hi
    have hnb := nm_bd hb i hin
    refine K.skip ?_
    refine K.norm_then ?_
    refine K.seq ?_
    refine K.block ?_
    refine K.region_lit ?_
    iterate 3 refine qm ?_
    refine K.seq_ix (M := []) _ hL.sl sl_26 rfl rfl rfl (by omega) rfl ?_
    intro p14 hp14
    refine zN ?_
    refine K.seq_sil (K.load1 one_3 rfl (hp14.any)) rfl ?_
    refine zN ?_
    refine qp (K.add_i64 rfl rfl (by omega)) ?_
    refine qp (K.max_int rfl rfl) ?_
    refine qa ?_
    refine K.seq_nil ?_
    refine K.norm_block ?_
    refine K.norm_then ?_
    refine K.region_lit ?_
    refine qm ?_
    refine qp (K.add_i64 rfl rfl (by omega)) ?_
    refine qa ?_
    refine K.seq_nil ?_
    exact K.round_endW (L'' := []) [.int .i64 (nmF l (i + 1)), .int .i64 ((i : Int) + 1)] ⟨i + 1, rfl, rfl, by omega⟩ (by simp [K.nth, intOf]; omega) (List.nil_sublist _) (by kernel_rfl)
  try replace ht8 := of_decide_eq_false ht8
  refine K.exit ?_
  refine K.exit_then ?_
  refine K.exit_then ?_
  refine K.exit_here ?_
  refine K.norm_then ?_
  refine sr ?_
  refine qm ?_
  refine qa ?_
  refine sn ?_
  refine K.ret ?_
  refine K.end_ret (fun w _ => K.res_tmp rfl w) ?_
  have e0 : i = l.length := by omega
  subst e0
  exact K.gives rfl

set_option maxRecDepth 100000 in
theorem e7 {r : List RvT} {A : Option Addr} {c : Nat} {Y : Option Addr} {cy : Nat} {ys : List Int} {w : World} (hR : K.Rd w A 4 eR r) (hn : r.length ≤ 17592186043904) (hT : Tab w) (hY : K.Rd w Y 1 eH ys) (hyb : ∀ x ∈ ys, 0 ≤ x ∧ x ≤ 65535) (hyl : ys.length ≤ 140737488351232) (hc : (chk r).2.2 ≠ 0) :
    Calls Tryd.prog 7 [.slice A r.length c, .slice Y ys.length cy].toArray w (K.Gives (.bool true) w) := by
  have hn4 : r.length ≤ 4611686018427387904 := by omega
  have h1 : (prfL r).length = 0 := by unfold prfL; rw [if_pos hc]; rfl
  refine K.enter (args := [.slice A r.length c, .slice Y ys.length cy]) Tryd.func7 rfl (n := 154) rfl ?_
  simp only [List.replicate, List.cons_append, List.nil_append]
  refine sr ?_
  refine qa ?_
  refine sn ?_
  refine sr ?_
  refine qm ?_
  refine K.seq_loud (K.call_f cal_30 (fun F w hF hw => c30 (hR.pass hw) hn4 (hT.pass hw))) rfl ?_
  rintro ⟨Q1, q1⟩ hq1
  refine zN ?_
  refine qm ?_
  refine qx ?_
  refine qx ?_
  iterate 2 refine qa ?_
  refine sn ?_
  refine sr ?_
  refine qm ?_
  refine K.seq_loud (K.call_f cal_26 (fun F w hF hw => c26 (hR.pass hw) hn4 (hT.pass hw))) rfl ?_
  rintro ⟨Q2, q2⟩ hq2
  refine zN ?_
  refine qm ?_
  refine qx ?_
  refine qx ?_
  iterate 2 refine qa ?_
  refine sn ?_
  refine K.seq ?_
  refine sr ?_
  refine qm ?_
  refine K.seq_call (K.call_g cal_35 (fun F w hF hw => c35 (hR.pass hw) hn4)) rfl ?_
  refine zN ?_
  first | refine K.seq_pure (K.Pure.eq (K.not_d rfl) (show _ = Value.bool true from by rw [decide_eq_false hc]; rfl)) rfl ?_ | refine K.seq_pure (K.Pure.eq (K.not_ rfl) (show _ = Value.bool true from by rw [decide_eq_false hc]; rfl)) rfl ?_
  refine zN ?_
  refine sn ?_
  refine K.cond_true rfl ?_
  refine sr ?_
  refine qm ?_
  refine qp (K.Pure.eq (K.neq rfl rfl) (show _ = Value.bool true from congrArg Value.bool (decide_eq_true hc))) ?_
  iterate 3 refine qm ?_
  refine qp (K.Pure.eq (K.eql rfl rfl) (show _ = Value.bool true from congrArg Value.bool (decide_eq_true rfl))) ?_
  refine qp (K.pick_t rfl) ?_
  iterate 2 refine qm ?_
  refine qp (K.len_sl sl_26 rfl) ?_
  refine qp (K.Pure.eq (K.eql rfl rfl) (show _ = Value.bool true from congrArg Value.bool (decide_eq_true (by omega)))) ?_
  refine qp (K.pick_t rfl) ?_
  refine qm ?_
  refine K.seq_call (K.call_g cal_25 (fun F w hF hw => c25 (hT.pass hw))) rfl ?_
  refine zN ?_
  refine qp (K.pick_t rfl) ?_
  refine qa ?_
  refine sn ?_
  refine K.ret ?_
  refine K.ret_then ?_
  refine K.end_ret (fun w _ => K.res_tmp rfl w) ?_
  exact K.gives rfl

set_option maxRecDepth 100000 in
set_option maxHeartbeats 4000000 in
theorem g7 {r : List RvT} {A : Option Addr} {c : Nat} {Y : Option Addr} {cy : Nat} {ys : List Int} {w : World} (hR : K.Rd w A 4 eR r) (hn : r.length ≤ 17592186043904) (hT : Tab w) (hY : K.Rd w Y 1 eH ys) (hyb : ∀ x ∈ ys, 0 ≤ x ∧ x ≤ 65535) (hyl : ys.length ≤ 140737488351232) (hc : (chk r).2.2 = 0) :
    Calls Tryd.prog 7 [.slice A r.length c, .slice Y ys.length cy].toArray w (K.Gives (.bool true) w) := by
  have hn4 : r.length ≤ 4611686018427387904 := by omega
  have g : Good r := chk_good hc
  have hgn := g.n
  have hRn : Runs r (anyS r (turnS ys)) := any_runs g (fun i => (turn_bd hyb).1)
  have hal := hRn.l
  obtain ⟨hpn, hpl, hpv⟩ := prf_is hc
  have hpb := pl_bd hpl (by omega)
  have l1 := few_9 (r := r)
  refine K.enter (args := [.slice A r.length c, .slice Y ys.length cy]) Tryd.func7 rfl (n := 154) rfl ?_
  simp only [List.replicate, List.cons_append, List.nil_append]
  refine sr ?_
  refine qa ?_
  refine sn ?_
  refine sr ?_
  refine qm ?_
  refine K.seq_loud (K.call_f cal_30 (fun F w hF hw => (by have hg := c30 (c := c) (hR.pass hw) hn4 (hT.pass hw); rw [hc] at hg; exact hg))) rfl ?_
  rintro ⟨Q1, q1⟩ hq1
  refine zN ?_
  refine qm ?_
  refine qx ?_
  refine qx ?_
  iterate 2 refine qa ?_
  refine sn ?_
  refine sr ?_
  refine qm ?_
  refine K.seq_loud (K.call_f cal_26 (fun F w hF hw => (by have hg := c26 (c := c) (hR.pass hw) hn4 (hT.pass hw); rw [hc] at hg; exact hg))) rfl ?_
  rintro ⟨Q2, q2⟩ hq2
  refine zN ?_
  refine qm ?_
  refine qx ?_
  refine qx ?_
  iterate 2 refine qa ?_
  refine sn ?_
  refine K.seq ?_
  refine sr ?_
  refine qm ?_
  refine K.seq_call (K.call_g cal_35 (fun F w hF hw => c35 (hR.pass hw) hn4)) rfl ?_
  refine zN ?_
  first | refine K.seq_pure (K.Pure.eq (K.not_d rfl) (show _ = Value.bool false from by rw [decide_eq_true hc]; rfl)) rfl ?_ | refine K.seq_pure (K.Pure.eq (K.not_ rfl) (show _ = Value.bool false from by rw [decide_eq_true hc]; rfl)) rfl ?_
  refine zN ?_
  refine sn ?_
  refine K.cond_false rfl ?_
  refine K.skip ?_
  refine K.norm_then ?_
  refine K.seq ?_
  refine sr ?_
  refine qm ?_
  refine qp (K.Pure.eq (K.neq rfl rfl) (show _ = Value.bool false from congrArg Value.bool (rfl))) ?_
  iterate 2 refine qm ?_
  refine qp (K.Pure.eq (K.neq rfl rfl) (show _ = Value.bool false from congrArg Value.bool (rfl))) ?_
  refine qp (K.pick_f rfl) ?_
  iterate 2 refine qm ?_
  refine qp (K.len_sl sl_26 rfl) ?_
  refine qm ?_
  refine qp (K.len_sl sl_22 rfl) ?_
  refine qp (K.Pure.eq (K.neq rfl rfl) (show _ = Value.bool false from congrArg Value.bool (decide_eq_false (by omega)))) ?_
  refine qp (K.pick_f rfl) ?_
  iterate 2 refine qm ?_
  refine K.seq_call (K.call_g cal_41 (fun F w hF hw => (by have hX := (K.Rd.own (e := K.eI) (xs := (prfL r)) hw (hF _ (K.m1)) hq1 (fun _ => rfl) (by decide)); exact c41 (q := q1) hX (by omega) hpb))) rfl ?_
  refine zN ?_
  refine qm ?_
  refine qp (K.len_sl sl_22 rfl) ?_
  refine qm ?_
  refine qp (K.len_sl sl_26 rfl) ?_
  refine qp (K.sub_i64 rfl rfl (by omega)) ?_
  refine qp (K.Pure.eq (K.neq rfl rfl) (show _ = Value.bool false from congrArg Value.bool (decide_eq_false (by omega)))) ?_
  refine qp (K.pick_f rfl) ?_
  refine sn ?_
  refine K.cond_false rfl ?_
  refine K.skip ?_
  refine K.norm_then ?_
  refine sr ?_
  iterate 2 refine qm ?_
  refine K.seq_loud (K.call_f cal_40 (fun F w hF hw => c40 (hR.pass hw) (hY.pass hw) hyb hyl g)) rfl ?_
  rintro ⟨Q3, q3⟩ hq3
  refine zN ?_
  refine qa ?_
  refine sn ?_
  refine sr ?_
  refine qa ?_
  refine sn ?_
  refine K.seq ?_
  refine sr ?_
  refine qa ?_
  refine sn ?_
  refine K.block ?_
  refine K.loopW [10, 11] [4, 12, 67, 68, 69, 70, 71, 72, 73, 74, 75, 76, 77, 78, 79, 80, 81, 82, 83, 84, 85, 86, 87, 88, 89, 90, 91, 92, 93, 94, 95, 96, 97, 98, 99, 100, 101, 102, 103, 104, 105, 106, 107, 108, 109, 110, 111, 112, 113, 114, 115, 116, 117, 118, 119, 120, 121, 122, 123, 124, 125, 126, 127, 128, 129, 130, 131, 132, 133, 134, 135, 136, 137, 138, 139, 140, 141, 142, 143, 144, 145, 146, 147, 148, 149, 150, 151, 152, 153, 154] (fun vi L => ∃ i : Nat, vi = [.int .i64 (nmF (prfL r) i - 1), .int .i64 (i : Int)] ∧ L = [K.row (.slice Q3 (anyS r (turnS ys)).length q3) 3 1 (anyS r (turnS ys)).length ((anyS r (turnS ys)).flatMap K.eI), K.row (.slice Q2 (fewL r).length q2) 3 1 (fewL r).length ((fewL r).flatMap K.eI), K.row (.slice Q1 (prfL r).length q1) 3 1 (prfL r).length ((prfL r).flatMap K.eI)] ∧ i ≤ r.length) (fun vi => r.length - (intOf (K.nth vi 1)).toNat) ?_ ?_
  · exact ⟨0, rfl, rfl, Nat.zero_le _⟩
  intro vi vr L hJ
  obtain ⟨i, rfl, rfl, hin⟩ := hJ
  try dsimp only [setd, setn, ev, nth, over, cl, eI, eP, eT, eR, setM, setF, List.map, List.append, List.drop, List.take]
  refine K.seq ?_
  refine sr ?_
  iterate 2 refine qm ?_
  refine qp (K.len_sl sl_26 rfl) ?_
  refine qp (K.lss rfl rfl) ?_
  refine sn ?_
  refine K.cond rfl (fun ht70 => ?_) (fun ht70 => ?_)
  · try replace ht70 := of_decide_eq_true ht70
    have hi : i < r.length := by omega
    have hbi := hpb i (by omega)
    have hnb := nm_bd hpb i (by omega)
    have hpi := hpl.b i (by omega)
    refine K.skip ?_
    refine K.norm_then ?_
    refine K.seq ?_
    refine K.block ?_
    refine K.seq ?_
    refine sr ?_
    iterate 2 refine qm ?_
    refine K.seq_ix (M := [K.row (.slice Q1 (prfL r).length q1) 3 1 (prfL r).length ((prfL r).flatMap K.eI)]) _ (K.Sl.own (w0 := w) (t := 3) (c := q1) (e := K.eI) hq1 (fun _ => rfl)) sl_26 rfl rfl rfl (by omega) rfl ?_
    intro p75 hp75
    refine zN ?_
    refine K.seq_sil (K.load1 one_3 rfl (hp75.at1 (K.m2))) rfl ?_
    refine zN ?_
    refine qp (K.Pure.eq (K.lss rfl rfl) (show _ = Value.bool false from congrArg Value.bool (decide_eq_false (by omega)))) ?_
    iterate 3 refine qm ?_
    refine K.seq_ix (M := [K.row (.slice Q1 (prfL r).length q1) 3 1 (prfL r).length ((prfL r).flatMap K.eI)]) _ (K.Sl.own (w0 := w) (t := 3) (c := q1) (e := K.eI) hq1 (fun _ => rfl)) sl_26 rfl rfl rfl (by omega) rfl ?_
    intro p81 hp81
    refine zN ?_
    refine K.seq_sil (K.load1 one_3 rfl (hp81.at1 (K.m2))) rfl ?_
    refine zN ?_
    refine qm ?_
    refine qp (K.add_i64 rfl rfl (by omega)) ?_
    refine qp (K.Pure.eq (K.gtr rfl rfl) (show _ = Value.bool false from congrArg Value.bool (decide_eq_false (by omega)))) ?_
    refine qp (K.pick_f rfl) ?_
    refine sn ?_
    refine K.cond_false rfl ?_
    refine K.skip ?_
    refine K.norm_then ?_
    refine sr ?_
    iterate 3 refine qm ?_
    refine K.seq_ix (M := [K.row (.slice Q1 (prfL r).length q1) 3 1 (prfL r).length ((prfL r).flatMap K.eI)]) _ (K.Sl.own (w0 := w) (t := 3) (c := q1) (e := K.eI) hq1 (fun _ => rfl)) sl_26 rfl rfl rfl (by omega) rfl ?_
    intro p90 hp90
    refine zN ?_
    refine K.seq_sil (K.load1 one_3 rfl (hp90.at1 (K.m2))) rfl ?_
    refine zN ?_
    refine qp (K.Pure.eq (K.max_int rfl rfl) (show _ = Value.int .i64 (nmF (prfL r) (i + 1) - 1) from congrArg (Value.int .i64) (by rw [nmF]; omega))) ?_
    refine qa ?_
    refine sn ?_
    refine K.seq ?_
    refine K.seq ?_
    refine K.joinW [109] [93, 94, 95, 96, 97, 98, 99, 100, 101, 102, 103, 104, 105, 106, 107, 108] (fun vi L => vi = [.bool false] ∧ L = [K.row (.slice Q3 (anyS r (turnS ys)).length q3) 3 1 (anyS r (turnS ys)).length ((anyS r (turnS ys)).flatMap K.eI), K.row (.slice Q2 (fewL r).length q2) 3 1 (fewL r).length ((fewL r).flatMap K.eI), K.row (.slice Q1 (prfL r).length q1) 3 1 (prfL r).length ((prfL r).flatMap K.eI)]) ?_ ?_
    · refine K.draw_L [] Tryd_mixed ?_
      refine K.d_pure 0 rfl (K.move) (by kernel_rfl) rfl ?_
      refine zn ?_
      refine K.d_pure 1 rfl (K.move) (by kernel_rfl) rfl ?_
      refine zn ?_
      refine K.d_ix (M := [K.row (.slice Q1 (prfL r).length q1) 3 1 (prfL r).length ((prfL r).flatMap K.eI)]) 2 _ rfl (K.Sl.own (w0 := w) (t := 3) (c := q1) (e := K.eI) hq1 (fun _ => rfl)) sl_26 rfl rfl rfl (by omega) (by kernel_rfl) rfl ?_
      intro p95 hp95
      refine zN ?_
      refine K.d_mem 3 rfl (K.load1 one_3 rfl (hp95.at1 (K.m2))) (fun _ h => h) (by kernel_rfl) (by kernel_rfl) rfl ?_
      refine zN ?_
      refine K.d_pure 4 rfl (K.lss rfl rfl) (by kernel_rfl) rfl ?_
      refine zn ?_
      refine K.d_pure 5 rfl (K.move) (by kernel_rfl) rfl ?_
      refine zn ?_
      refine K.dsplit 98 rfl (fun hg98 => ?_) (fun hg98 => ?_)
      · try replace hg98 := of_decide_eq_true hg98
        refine K.d_pure 6 rfl (K.move) (by kernel_rfl) rfl ?_
        refine zn ?_
        refine K.d_pure 7 rfl (K.move) (by kernel_rfl) rfl ?_
        refine zn ?_
        refine K.d_ix (M := [K.row (.slice Q3 (anyS r (turnS ys)).length q3) 3 1 (anyS r (turnS ys)).length ((anyS r (turnS ys)).flatMap K.eI)]) 8 _ rfl (K.Sl.own (w0 := w) (t := 3) (c := q3) (e := K.eI) hq3 (fun _ => rfl)) sl_26 rfl rfl rfl (by omega) (by kernel_rfl) rfl ?_
        intro p101 hp101
        refine zN ?_
        refine K.d_mem 9 rfl (K.load1 one_3 rfl (hp101.at1 (K.m0))) (fun _ h => h) (by kernel_rfl) (by kernel_rfl) rfl ?_
        refine zN ?_
        refine K.d_pure 10 rfl (K.move) (by kernel_rfl) rfl ?_
        refine zn ?_
        refine K.d_pure 11 rfl (K.move) (by kernel_rfl) rfl ?_
        refine zn ?_
        refine K.d_ix (M := []) 12 _ rfl hR.sl sl_22 rfl rfl rfl (by omega) (by kernel_rfl) rfl ?_
        intro p105 hp105
        refine zN ?_
        refine K.d_pure 13 rfl (K.fieldAddr fo_44_3 rfl) (by kernel_rfl) rfl ?_
        refine zn ?_
        refine K.d_mem 14 rfl (K.load1 one_3 rfl ((K.PtrL.fld hp105 (k := 3)).any)) (fun _ h => h) (by kernel_rfl) (by kernel_rfl) rfl ?_
        refine zN ?_
        refine K.d_pure 15 rfl (K.Pure.eq (K.eql rfl rfl) (show _ = Value.bool false from congrArg Value.bool (decide_eq_false (fun e => by have h2 := hpl.a i (by omega); rw [keep_out g hRn hi e] at h2; rcases h2 with h2 | h2; cases h2.2; omega)))) (by kernel_rfl) rfl ?_
        refine zn ?_
        refine K.d_pure 16 rfl (K.pick_t rfl) (by kernel_rfl) rfl ?_
        refine zn ?_
        refine K.d_done (by kernel_rfl) ?_
        exact K.join_here (L' := [K.row (.slice Q3 (anyS r (turnS ys)).length q3) 3 1 (anyS r (turnS ys)).length ((anyS r (turnS ys)).flatMap K.eI), K.row (.slice Q2 (fewL r).length q2) 3 1 (fewL r).length ((fewL r).flatMap K.eI), K.row (.slice Q1 (prfL r).length q1) 3 1 (prfL r).length ((prfL r).flatMap K.eI)]) [.bool false] ⟨rfl, rfl⟩ (fun w h => h) (by kernel_rfl)
      try replace hg98 := of_decide_eq_false hg98
      refine K.d_skip 6 rfl (by kernel_rfl) rfl ?_
      refine zN ?_
      refine K.d_skip 7 rfl (by kernel_rfl) rfl ?_
      refine zN ?_
      refine K.d_skip 8 rfl (by kernel_rfl) rfl ?_
      refine zN ?_
      refine K.d_skip 9 rfl (by kernel_rfl) rfl ?_
      refine zN ?_
      refine K.d_skip 10 rfl (by kernel_rfl) rfl ?_
      refine zN ?_
      refine K.d_skip 11 rfl (by kernel_rfl) rfl ?_
      refine zN ?_
      refine K.d_skip 12 rfl (by kernel_rfl) rfl ?_
      refine zN ?_
      refine K.d_skip 13 rfl (by kernel_rfl) rfl ?_
      refine zN ?_
      refine K.d_skip 14 rfl (by kernel_rfl) rfl ?_
      refine zN ?_
      refine K.d_skip 15 rfl (by kernel_rfl) rfl ?_
      refine zN ?_
      refine K.d_pure 16 rfl (K.pick_f rfl) (by kernel_rfl) rfl ?_
      refine zn ?_
      refine K.d_done (by kernel_rfl) ?_
      exact K.join_here (L' := [K.row (.slice Q3 (anyS r (turnS ys)).length q3) 3 1 (anyS r (turnS ys)).length ((anyS r (turnS ys)).flatMap K.eI), K.row (.slice Q2 (fewL r).length q2) 3 1 (fewL r).length ((fewL r).flatMap K.eI), K.row (.slice Q1 (prfL r).length q1) 3 1 (prfL r).length ((prfL r).flatMap K.eI)]) [.bool false] ⟨rfl, rfl⟩ (fun w h => h) (by kernel_rfl)
    intro vi vr L hJ
    obtain ⟨rfl, rfl⟩ := hJ
    try dsimp only [setd, setn, ev, nth, over, cl, eI, eP, eT, eR, setM, setF, List.map, List.append, List.drop, List.take]
    refine K.norm_then ?_
    refine K.cond_false rfl ?_
    refine K.skip ?_
    refine K.norm_then ?_
    refine sr ?_
    refine qa ?_
    refine sn ?_
    refine K.block ?_
    refine K.loopW [12] [4, 110, 111, 112, 113, 114, 115, 116, 117, 118, 119, 120, 121, 122, 123, 124, 125, 126, 127, 128, 129, 130, 131, 132, 133, 134, 135, 136, 137, 138, 139, 140, 141, 142, 143, 144, 145, 146, 147, 148, 149, 150, 151, 152, 153, 154] (fun vi L => ∃ k : Nat, vi = [.int .i64 (k : Int)] ∧ L = [K.row (.slice Q3 (anyS r (turnS ys)).length q3) 3 1 (anyS r (turnS ys)).length ((anyS r (turnS ys)).flatMap K.eI), K.row (.slice Q2 (fewL r).length q2) 3 1 (fewL r).length ((fewL r).flatMap K.eI), K.row (.slice Q1 (prfL r).length q1) 3 1 (prfL r).length ((prfL r).flatMap K.eI)] ∧ k ≤ i) (fun vi => i - (intOf (K.nth vi 0)).toNat) ?_ ?_
    · exact ⟨0, rfl, rfl, Nat.zero_le _⟩
    intro vi vr L hJ
    obtain ⟨k, rfl, rfl, hkn⟩ := hJ
    try dsimp only [setd, setn, ev, nth, over, cl, eI, eP, eT, eR, setM, setF, List.map, List.append, List.drop, List.take]
    refine K.seq ?_
    refine sr ?_
    iterate 2 refine qm ?_
    refine qp (K.lss rfl rfl) ?_
    refine sn ?_
    refine K.cond rfl (fun ht112 => ?_) (fun ht112 => ?_)
    · try replace ht112 := of_decide_eq_true ht112
      have hk : k < i := by omega
      refine K.skip ?_
      refine K.norm_then ?_
      refine K.seq ?_
      refine K.block ?_
      refine K.seq ?_
      refine K.joinW [154] [115, 116, 117, 118, 119, 120, 121, 122, 123, 124, 125, 126, 127, 128, 129, 130, 131, 132, 133, 134, 135, 136, 137, 138, 139, 140, 141, 142, 143, 144, 145, 146, 147, 148, 149, 150, 151, 152, 153] (fun vi L => vi = [.bool false] ∧ L = [K.row (.slice Q3 (anyS r (turnS ys)).length q3) 3 1 (anyS r (turnS ys)).length ((anyS r (turnS ys)).flatMap K.eI), K.row (.slice Q2 (fewL r).length q2) 3 1 (fewL r).length ((fewL r).flatMap K.eI), K.row (.slice Q1 (prfL r).length q1) 3 1 (prfL r).length ((prfL r).flatMap K.eI)]) ?_ ?_
      · refine K.draw_L [] Tryd_mixed ?_
        refine K.d_pure 0 rfl (K.move) (by kernel_rfl) rfl ?_
        refine zn ?_
        refine K.d_pure 1 rfl (K.move) (by kernel_rfl) rfl ?_
        refine zn ?_
        refine K.d_ix (M := [K.row (.slice Q1 (prfL r).length q1) 3 1 (prfL r).length ((prfL r).flatMap K.eI)]) 2 _ rfl (K.Sl.own (w0 := w) (t := 3) (c := q1) (e := K.eI) hq1 (fun _ => rfl)) sl_26 rfl rfl rfl (by omega) (by kernel_rfl) rfl ?_
        intro p117 hp117
        refine zN ?_
        refine K.d_mem 3 rfl (K.load1 one_3 rfl (hp117.at1 (K.m2))) (fun _ h => h) (by kernel_rfl) (by kernel_rfl) rfl ?_
        refine zN ?_
        refine K.d_pure 4 rfl (K.geq rfl rfl) (by kernel_rfl) rfl ?_
        refine zn ?_
        refine K.d_pure 5 rfl (K.move) (by kernel_rfl) rfl ?_
        refine zn ?_
        refine K.dsplit 120 rfl (fun hg120 => ?_) (fun hg120 => ?_)
        · try replace hg120 := of_decide_eq_true hg120
          refine K.d_pure 6 rfl (K.move) (by kernel_rfl) rfl ?_
          refine zn ?_
          refine K.d_pure 7 rfl (K.move) (by kernel_rfl) rfl ?_
          refine zn ?_
          refine K.d_ix (M := [K.row (.slice Q1 (prfL r).length q1) 3 1 (prfL r).length ((prfL r).flatMap K.eI)]) 8 _ rfl (K.Sl.own (w0 := w) (t := 3) (c := q1) (e := K.eI) hq1 (fun _ => rfl)) sl_26 rfl rfl rfl (by omega) (by kernel_rfl) rfl ?_
          intro p123 hp123
          refine zN ?_
          refine K.d_mem 9 rfl (K.load1 one_3 rfl (hp123.at1 (K.m2))) (fun _ h => h) (by kernel_rfl) (by kernel_rfl) rfl ?_
          refine zN ?_
          refine K.d_pure 10 rfl (K.move) (by kernel_rfl) rfl ?_
          refine zn ?_
          refine K.d_pure 11 rfl (K.move) (by kernel_rfl) rfl ?_
          refine zn ?_
          refine K.d_ix (M := [K.row (.slice Q1 (prfL r).length q1) 3 1 (prfL r).length ((prfL r).flatMap K.eI)]) 12 _ rfl (K.Sl.own (w0 := w) (t := 3) (c := q1) (e := K.eI) hq1 (fun _ => rfl)) sl_26 rfl rfl rfl (by omega) (by kernel_rfl) rfl ?_
          intro p127 hp127
          refine zN ?_
          refine K.d_mem 13 rfl (K.load1 one_3 rfl (hp127.at1 (K.m2))) (fun _ h => h) (by kernel_rfl) (by kernel_rfl) rfl ?_
          refine zN ?_
          refine K.d_pure 14 rfl (K.eql rfl rfl) (by kernel_rfl) rfl ?_
          refine zn ?_
          refine K.d_pure 15 rfl (K.pick_t rfl) (by kernel_rfl) rfl ?_
          refine zn ?_
          refine K.d_pure 16 rfl (K.move) (by kernel_rfl) rfl ?_
          refine zn ?_
          refine K.dsplit 131 rfl (fun hg131 => ?_) (fun hg131 => ?_)
          · try replace hg131 := of_decide_eq_true hg131
            refine K.d_pure 17 rfl (K.move) (by kernel_rfl) rfl ?_
            refine zn ?_
            refine K.d_pure 18 rfl (K.move) (by kernel_rfl) rfl ?_
            refine zn ?_
            refine K.d_ix (M := [K.row (.slice Q3 (anyS r (turnS ys)).length q3) 3 1 (anyS r (turnS ys)).length ((anyS r (turnS ys)).flatMap K.eI)]) 19 _ rfl (K.Sl.own (w0 := w) (t := 3) (c := q3) (e := K.eI) hq3 (fun _ => rfl)) sl_26 rfl rfl rfl (by omega) (by kernel_rfl) rfl ?_
            intro p134 hp134
            refine zN ?_
            refine K.d_mem 20 rfl (K.load1 one_3 rfl (hp134.at1 (K.m0))) (fun _ h => h) (by kernel_rfl) (by kernel_rfl) rfl ?_
            refine zN ?_
            refine K.d_pure 21 rfl (K.move) (by kernel_rfl) rfl ?_
            refine zn ?_
            refine K.d_pure 22 rfl (K.move) (by kernel_rfl) rfl ?_
            refine zn ?_
            refine K.d_ix (M := []) 23 _ rfl hR.sl sl_22 rfl rfl rfl (by omega) (by kernel_rfl) rfl ?_
            intro p138 hp138
            refine zN ?_
            refine K.d_pure 24 rfl (K.fieldAddr fo_44_3 rfl) (by kernel_rfl) rfl ?_
            refine zn ?_
            refine K.d_mem 25 rfl (K.load1 one_3 rfl ((K.PtrL.fld hp138 (k := 3)).any)) (fun _ h => h) (by kernel_rfl) (by kernel_rfl) rfl ?_
            refine zN ?_
            refine K.d_pure 26 rfl (K.eql rfl rfl) (by kernel_rfl) rfl ?_
            refine zn ?_
            refine K.d_pure 27 rfl (K.pick_t rfl) (by kernel_rfl) rfl ?_
            refine zn ?_
            refine K.d_pure 28 rfl (K.move) (by kernel_rfl) rfl ?_
            refine zn ?_
            refine K.dsplit 143 rfl (fun hg143 => ?_) (fun hg143 => ?_)
            · try replace hg143 := of_decide_eq_true hg143
              refine K.d_pure 29 rfl (K.move) (by kernel_rfl) rfl ?_
              refine zn ?_
              refine K.d_pure 30 rfl (K.move) (by kernel_rfl) rfl ?_
              refine zn ?_
              refine K.d_ix (M := [K.row (.slice Q3 (anyS r (turnS ys)).length q3) 3 1 (anyS r (turnS ys)).length ((anyS r (turnS ys)).flatMap K.eI)]) 31 _ rfl (K.Sl.own (w0 := w) (t := 3) (c := q3) (e := K.eI) hq3 (fun _ => rfl)) sl_26 rfl rfl rfl (by omega) (by kernel_rfl) rfl ?_
              intro p146 hp146
              refine zN ?_
              refine K.d_mem 32 rfl (K.load1 one_3 rfl (hp146.at1 (K.m0))) (fun _ h => h) (by kernel_rfl) (by kernel_rfl) rfl ?_
              refine zN ?_
              refine K.d_pure 33 rfl (K.move) (by kernel_rfl) rfl ?_
              refine zn ?_
              refine K.d_pure 34 rfl (K.move) (by kernel_rfl) rfl ?_
              refine zn ?_
              refine K.d_ix (M := []) 35 _ rfl hR.sl sl_22 rfl rfl rfl (by omega) (by kernel_rfl) rfl ?_
              intro p150 hp150
              refine zN ?_
              refine K.d_pure 36 rfl (K.fieldAddr fo_44_3 rfl) (by kernel_rfl) rfl ?_
              refine zn ?_
              refine K.d_mem 37 rfl (K.load1 one_3 rfl ((K.PtrL.fld hp150 (k := 3)).any)) (fun _ h => h) (by kernel_rfl) (by kernel_rfl) rfl ?_
              refine zN ?_
              refine K.d_pure 38 rfl (K.Pure.eq (K.eql rfl rfl) (show _ = Value.bool false from congrArg Value.bool (decide_eq_false (fun e2 => by have h1 := hpl.c i k (by omega) hk (by omega) hg131; rw [keep_con g hRn hi (by omega) hg143 e2] at h1; cases h1)))) (by kernel_rfl) rfl ?_
              refine zn ?_
              refine K.d_pure 39 rfl (K.pick_t rfl) (by kernel_rfl) rfl ?_
              refine zn ?_
              refine K.d_done (by kernel_rfl) ?_
              exact K.join_here (L' := [K.row (.slice Q3 (anyS r (turnS ys)).length q3) 3 1 (anyS r (turnS ys)).length ((anyS r (turnS ys)).flatMap K.eI), K.row (.slice Q2 (fewL r).length q2) 3 1 (fewL r).length ((fewL r).flatMap K.eI), K.row (.slice Q1 (prfL r).length q1) 3 1 (prfL r).length ((prfL r).flatMap K.eI)]) [.bool false] ⟨rfl, rfl⟩ (fun w h => h) (by kernel_rfl)
            try replace hg143 := of_decide_eq_false hg143
            refine K.d_skip 29 rfl (by kernel_rfl) rfl ?_
            refine zN ?_
            refine K.d_skip 30 rfl (by kernel_rfl) rfl ?_
            refine zN ?_
            refine K.d_skip 31 rfl (by kernel_rfl) rfl ?_
            refine zN ?_
            refine K.d_skip 32 rfl (by kernel_rfl) rfl ?_
            refine zN ?_
            refine K.d_skip 33 rfl (by kernel_rfl) rfl ?_
            refine zN ?_
            refine K.d_skip 34 rfl (by kernel_rfl) rfl ?_
            refine zN ?_
            refine K.d_skip 35 rfl (by kernel_rfl) rfl ?_
            refine zN ?_
            refine K.d_skip 36 rfl (by kernel_rfl) rfl ?_
            refine zN ?_
            refine K.d_skip 37 rfl (by kernel_rfl) rfl ?_
            refine zN ?_
            refine K.d_skip 38 rfl (by kernel_rfl) rfl ?_
            refine zN ?_
            refine K.d_pure 39 rfl (K.pick_f rfl) (by kernel_rfl) rfl ?_
            refine zn ?_
            refine K.d_done (by kernel_rfl) ?_
            exact K.join_here (L' := [K.row (.slice Q3 (anyS r (turnS ys)).length q3) 3 1 (anyS r (turnS ys)).length ((anyS r (turnS ys)).flatMap K.eI), K.row (.slice Q2 (fewL r).length q2) 3 1 (fewL r).length ((fewL r).flatMap K.eI), K.row (.slice Q1 (prfL r).length q1) 3 1 (prfL r).length ((prfL r).flatMap K.eI)]) [.bool false] ⟨rfl, rfl⟩ (fun w h => h) (by kernel_rfl)
          try replace hg131 := of_decide_eq_false hg131
          refine K.d_skip 17 rfl (by kernel_rfl) rfl ?_
          refine zN ?_
          refine K.d_skip 18 rfl (by kernel_rfl) rfl ?_
          refine zN ?_
          refine K.d_skip 19 rfl (by kernel_rfl) rfl ?_
          refine zN ?_
          refine K.d_skip 20 rfl (by kernel_rfl) rfl ?_
          refine zN ?_
          refine K.d_skip 21 rfl (by kernel_rfl) rfl ?_
          refine zN ?_
          refine K.d_skip 22 rfl (by kernel_rfl) rfl ?_
          refine zN ?_
          refine K.d_skip 23 rfl (by kernel_rfl) rfl ?_
          refine zN ?_
          refine K.d_skip 24 rfl (by kernel_rfl) rfl ?_
          refine zN ?_
          refine K.d_skip 25 rfl (by kernel_rfl) rfl ?_
          refine zN ?_
          refine K.d_skip 26 rfl (by kernel_rfl) rfl ?_
          refine zN ?_
          refine K.d_pure 27 rfl (K.pick_f rfl) (by kernel_rfl) rfl ?_
          refine zn ?_
          refine K.d_pure 28 rfl (K.move) (by kernel_rfl) rfl ?_
          refine zn ?_
          refine K.d_skip 29 rfl (by kernel_rfl) rfl ?_
          refine zN ?_
          refine K.d_skip 30 rfl (by kernel_rfl) rfl ?_
          refine zN ?_
          refine K.d_skip 31 rfl (by kernel_rfl) rfl ?_
          refine zN ?_
          refine K.d_skip 32 rfl (by kernel_rfl) rfl ?_
          refine zN ?_
          refine K.d_skip 33 rfl (by kernel_rfl) rfl ?_
          refine zN ?_
          refine K.d_skip 34 rfl (by kernel_rfl) rfl ?_
          refine zN ?_
          refine K.d_skip 35 rfl (by kernel_rfl) rfl ?_
          refine zN ?_
          refine K.d_skip 36 rfl (by kernel_rfl) rfl ?_
          refine zN ?_
          refine K.d_skip 37 rfl (by kernel_rfl) rfl ?_
          refine zN ?_
          refine K.d_skip 38 rfl (by kernel_rfl) rfl ?_
          refine zN ?_
          refine K.d_pure 39 rfl (K.pick_f rfl) (by kernel_rfl) rfl ?_
          refine zn ?_
          refine K.d_done (by kernel_rfl) ?_
          exact K.join_here (L' := [K.row (.slice Q3 (anyS r (turnS ys)).length q3) 3 1 (anyS r (turnS ys)).length ((anyS r (turnS ys)).flatMap K.eI), K.row (.slice Q2 (fewL r).length q2) 3 1 (fewL r).length ((fewL r).flatMap K.eI), K.row (.slice Q1 (prfL r).length q1) 3 1 (prfL r).length ((prfL r).flatMap K.eI)]) [.bool false] ⟨rfl, rfl⟩ (fun w h => h) (by kernel_rfl)
        try replace hg120 := of_decide_eq_false hg120
        refine K.d_skip 6 rfl (by kernel_rfl) rfl ?_
        refine zN ?_
        refine K.d_skip 7 rfl (by kernel_rfl) rfl ?_
        refine zN ?_
        refine K.d_skip 8 rfl (by kernel_rfl) rfl ?_
        refine zN ?_
        refine K.d_skip 9 rfl (by kernel_rfl) rfl ?_
        refine zN ?_
        refine K.d_skip 10 rfl (by kernel_rfl) rfl ?_
        refine zN ?_
        refine K.d_skip 11 rfl (by kernel_rfl) rfl ?_
        refine zN ?_
        refine K.d_skip 12 rfl (by kernel_rfl) rfl ?_
        refine zN ?_
        refine K.d_skip 13 rfl (by kernel_rfl) rfl ?_
        refine zN ?_
        refine K.d_skip 14 rfl (by kernel_rfl) rfl ?_
        refine zN ?_
        refine K.d_pure 15 rfl (K.pick_f rfl) (by kernel_rfl) rfl ?_
        refine zn ?_
        refine K.d_pure 16 rfl (K.move) (by kernel_rfl) rfl ?_
        refine zn ?_
        refine K.d_skip 17 rfl (by kernel_rfl) rfl ?_
        refine zN ?_
        refine K.d_skip 18 rfl (by kernel_rfl) rfl ?_
        refine zN ?_
        refine K.d_skip 19 rfl (by kernel_rfl) rfl ?_
        refine zN ?_
        refine K.d_skip 20 rfl (by kernel_rfl) rfl ?_
        refine zN ?_
        refine K.d_skip 21 rfl (by kernel_rfl) rfl ?_
        refine zN ?_
        refine K.d_skip 22 rfl (by kernel_rfl) rfl ?_
        refine zN ?_
        refine K.d_skip 23 rfl (by kernel_rfl) rfl ?_
        refine zN ?_
        refine K.d_skip 24 rfl (by kernel_rfl) rfl ?_
        refine zN ?_
        refine K.d_skip 25 rfl (by kernel_rfl) rfl ?_
        refine zN ?_
        refine K.d_skip 26 rfl (by kernel_rfl) rfl ?_
        refine zN ?_
        refine K.d_pure 27 rfl (K.pick_f rfl) (by kernel_rfl) rfl ?_
        refine zn ?_
        refine K.d_pure 28 rfl (K.move) (by kernel_rfl) rfl ?_
        refine zn ?_
        refine K.d_skip 29 rfl (by kernel_rfl) rfl ?_
        refine zN ?_
        refine K.d_skip 30 rfl (by kernel_rfl) rfl ?_
        refine zN ?_
        refine K.d_skip 31 rfl (by kernel_rfl) rfl ?_
        refine zN ?_
        refine K.d_skip 32 rfl (by kernel_rfl) rfl ?_
        refine zN ?_
        refine K.d_skip 33 rfl (by kernel_rfl) rfl ?_
        refine zN ?_
        refine K.d_skip 34 rfl (by kernel_rfl) rfl ?_
        refine zN ?_
        refine K.d_skip 35 rfl (by kernel_rfl) rfl ?_
        refine zN ?_
        refine K.d_skip 36 rfl (by kernel_rfl) rfl ?_
        refine zN ?_
        refine K.d_skip 37 rfl (by kernel_rfl) rfl ?_
        refine zN ?_
        refine K.d_skip 38 rfl (by kernel_rfl) rfl ?_
        refine zN ?_
        refine K.d_pure 39 rfl (K.pick_f rfl) (by kernel_rfl) rfl ?_
        refine zn ?_
        refine K.d_done (by kernel_rfl) ?_
        exact K.join_here (L' := [K.row (.slice Q3 (anyS r (turnS ys)).length q3) 3 1 (anyS r (turnS ys)).length ((anyS r (turnS ys)).flatMap K.eI), K.row (.slice Q2 (fewL r).length q2) 3 1 (fewL r).length ((fewL r).flatMap K.eI), K.row (.slice Q1 (prfL r).length q1) 3 1 (prfL r).length ((prfL r).flatMap K.eI)]) [.bool false] ⟨rfl, rfl⟩ (fun w h => h) (by kernel_rfl)
      intro vi vr L hJ
      obtain ⟨rfl, rfl⟩ := hJ
      try dsimp only [setd, setn, ev, nth, over, cl, eI, eP, eT, eR, setM, setF, List.map, List.append, List.drop, List.take]
      refine K.norm_then ?_
      refine K.cond_false rfl ?_
      refine K.skip ?_
      refine K.norm_block ?_
      refine K.norm_then ?_
      refine K.region_lit ?_
      refine qm ?_
      refine qp (K.add_i64 rfl rfl (by omega)) ?_
      refine qa ?_
      refine K.seq_nil ?_
      exact K.round_endW (L'' := [K.row (.slice Q3 (anyS r (turnS ys)).length q3) 3 1 (anyS r (turnS ys)).length ((anyS r (turnS ys)).flatMap K.eI), K.row (.slice Q2 (fewL r).length q2) 3 1 (fewL r).length ((fewL r).flatMap K.eI), K.row (.slice Q1 (prfL r).length q1) 3 1 (prfL r).length ((prfL r).flatMap K.eI)]) [.int .i64 ((k : Int) + 1)] ⟨k + 1, rfl, rfl, by omega⟩ (by simp [K.nth, intOf]; omega) (List.Sublist.refl _) (by kernel_rfl)
    try replace ht112 := of_decide_eq_false ht112
    refine K.exit ?_
    refine K.exit_then ?_
    refine K.exit_then ?_
    refine K.exit_here ?_
    refine K.norm_block ?_
    refine K.norm_then ?_
    refine K.region_lit ?_
    refine qm ?_
    refine qp (K.add_i64 rfl rfl (by omega)) ?_
    refine qa ?_
    refine K.seq_nil ?_
    exact K.round_endW (L'' := [K.row (.slice Q3 (anyS r (turnS ys)).length q3) 3 1 (anyS r (turnS ys)).length ((anyS r (turnS ys)).flatMap K.eI), K.row (.slice Q2 (fewL r).length q2) 3 1 (fewL r).length ((fewL r).flatMap K.eI), K.row (.slice Q1 (prfL r).length q1) 3 1 (prfL r).length ((prfL r).flatMap K.eI)]) [.int .i64 (nmF (prfL r) (i + 1) - 1), .int .i64 ((i : Int) + 1)] ⟨i + 1, rfl, rfl, by omega⟩ (by simp [K.nth, intOf]; omega) (List.Sublist.refl _) (by kernel_rfl)
  try replace ht70 := of_decide_eq_false ht70
  refine K.exit ?_
  refine K.exit_then ?_
  refine K.exit_then ?_
  refine K.exit_here ?_
  refine K.norm_then ?_
  refine sr ?_
  refine K.seq_call (K.call_g cal_25 (fun F w hF hw => c25 (hT.pass hw))) rfl ?_
  refine zN ?_
  refine qa ?_
  refine sn ?_
  refine K.ret ?_
  refine K.end_ret (fun w _ => K.res_tmp rfl w) ?_
  exact K.gives rfl

theorem c7 {r : List RvT} {A : Option Addr} {c : Nat} {Y : Option Addr} {cy : Nat} {ys : List Int} {w : World} (hR : K.Rd w A 4 eR r) (hn : r.length ≤ 17592186043904) (hT : Tab w) (hY : K.Rd w Y 1 eH ys) (hyb : ∀ x ∈ ys, 0 ≤ x ∧ x ≤ 65535) (hyl : ys.length ≤ 140737488351232) : Calls Tryd.prog 7 [.slice A r.length c, .slice Y ys.length cy].toArray w (K.Gives (.bool true) w) := by
  by_cases hc : (chk r).2.2 = 0
  · exact g7 hR hn hT hY hyb hyl hc
  · exact e7 hR hn hT hY hyb hyl hc


end Go.Proofs.YtoemnobfnnjopaaDoor
end
section
set_option linter.unusedSimpArgs false
set_option linter.unusedVariables false
namespace Go.Proofs.YtoemnobfnnjopaaDoor
open Go.RowKit Go
open Go.K (setd setn ev nth over cl eI eP eT setM setF)
attribute [local irreducible] K.blk K.row
/-- What the search of the reference hands out. -/
def RetC (o : Option (List Int)) (w : World) : Ending → World → Prop :=
  K.Ret (fun r : Option Addr × Nat => (o.getD []).length = 0 ∨ ∃ b, r.1 = some ⟨b, 0, none⟩) (fun r => .tuple #[.slice r.1 (o.getD []).length r.2, .bool o.isSome]) (fun r => [K.row (.slice r.1 (o.getD []).length r.2) 3 1 (o.getD []).length ((o.getD []).flatMap K.eI)]) w
theorem retc {w : World} {L : List K.Chunk} {A : Option Addr} {n c : Nat} {ys : List Value} {o : Option (List Int)} {q : List Int} {v : Value} (ho : o = some q) (hm : K.row (.slice A n c) 3 1 n ys ∈ L) (hn : n = q.length) (hys : ys = q.flatMap K.eI) (hv : v = .tuple #[.slice A n c, .bool true]) : K.Hold w L (RetC o w (.returned v)) := by
  subst ho hn hys hv
  exact K.use_row hm fun h => K.rets (A, c) h rfl (by simpa using hm)
theorem retc_0 {w : World} {L : List K.Chunk} {o : Option (List Int)} {v : Value} (ho : o = none) (hv : v = .tuple #[.slice none 0 0, .bool false]) : K.Hold w L (RetC o w (.returned v)) := by
  subst ho hv
  exact K.nil_row (e := 3) (size := 1) (K.rets (none, 0) (.inl rfl) rfl (List.Sublist.cons_cons _ (List.nil_sublist _)))
theorem rd_nil {w : World} : K.Rd w none 1 K.eI [] := fun j u hu => by simp at hu
theorem cnt_9 {r : List RvT} {l : List Int} {M : Nat} (P : Pl r l) : (cntR l M : Int) ≤ (l.length : Int) + 1 := by
  have := nm_le P l.length (Nat.le_refl _)
  have := nm_ge0 (l := l) l.length
  unfold cntR nmV; omega

set_option maxRecDepth 100000 in
theorem z72 {r : List RvT} {A : Option Addr} {c : Nat} {Q : Option Addr} {q : Nat} {l : List Int} {M : Nat} {w : World} (hl : l.length = r.length) :
    Calls Tryd.prog 72 [.slice A r.length c, .slice Q l.length q, .int .i64 (M : Int)].toArray w (K.Gives (.tuple #[.slice Q l.length q, .bool true]) w) := by
  refine K.enter (args := [.slice A r.length c, .slice Q l.length q, .int .i64 (M : Int)]) Tryd.func72 rfl (n := 75) rfl ?_
  simp only [List.replicate, List.cons_append, List.nil_append]
  refine sr ?_
  iterate 2 refine qa ?_
  refine sn ?_
  refine sr ?_
  refine qm ?_
  refine qp (K.len_sl sl_26 rfl) ?_
  refine qa ?_
  refine sn ?_
  refine K.seq ?_
  refine sr ?_
  iterate 2 refine qm ?_
  refine qp (K.len_sl sl_22 rfl) ?_
  refine qp (K.eql rfl rfl) ?_
  refine sn ?_
  refine K.cond rfl (fun ht19 => ?_) (fun ht19 => ?_)
  · try replace ht19 := of_decide_eq_true ht19
    refine sr ?_
    refine qm ?_
    iterate 2 refine qa ?_
    refine sn ?_
    refine K.ret ?_
    refine K.ret_then ?_
    refine K.end_ret (fun w _ => K.res_tmp2 rfl w) ?_
    exact K.gives rfl
  try replace ht19 := of_decide_eq_false ht19
  exact absurd (by omega) ht19

set_option maxRecDepth 100000 in
set_option maxHeartbeats 1000000 in
theorem s72_0 {r : List RvT} {A : Option Addr} {c : Nat} {M : Nat} {Q : Option Addr} {q : Nat} {l : List Int} {w : World} (hR : K.Rd w A 4 eR r) (g : Good r) (hL : K.Rd w Q 1 K.eI l) (P : Pl r l) (hC : ∃ cs, Cl cs l) (hf : l.length + 1 = r.length) (hM : M ≤ 9) :
    Calls Tryd.prog 72 [.slice A r.length c, .slice Q l.length q, .int .i64 (M : Int)].toArray w (RetC (chR r M 1 l) w) := by
  have hgn := g.n
  obtain ⟨cs, hcl⟩ := hC
  have hcn := hcl.n
  have hi : l.length < r.length := by omega
  have hpb := pl_bd P (by omega)
  have hnb := nm_bd hpb l.length (Nat.le_refl _)
  have hvf : nmV l = nmF l l.length := rfl
  have hct := cnt_9 (M := M) P
  refine K.enter (args := [.slice A r.length c, .slice Q l.length q, .int .i64 (M : Int)]) Tryd.func72 rfl (n := 75) rfl ?_
  simp only [List.replicate, List.cons_append, List.nil_append]
  refine sr ?_
  iterate 2 refine qa ?_
  refine sn ?_
  refine sr ?_
  refine qm ?_
  refine qp (K.len_sl sl_26 rfl) ?_
  refine qa ?_
  refine sn ?_
  refine K.seq ?_
  refine sr ?_
  iterate 2 refine qm ?_
  refine qp (K.len_sl sl_22 rfl) ?_
  refine qp (K.eql rfl rfl) ?_
  refine sn ?_
  refine K.cond rfl (fun ht19 => ?_) (fun ht19 => ?_)
  · try replace ht19 := of_decide_eq_true ht19
    exfalso; omega
  try replace ht19 := of_decide_eq_false ht19
  refine K.skip ?_
  refine K.norm_then ?_
  refine K.seq ?_
  refine sr ?_
  iterate 2 refine qm ?_
  refine K.seq_call (K.call_g cal_80 (fun F w hF hw => c80 (hR.pass hw) g hi)) rfl ?_
  refine zN ?_
  refine sn ?_
  refine K.cond rfl (fun ht23 => ?_) (fun ht23 => ?_)
  · try replace ht23 := of_decide_eq_true ht23
    refine sr ?_
    refine qm ?_
    refine K.seq_new (K.buildSlice (bs0)) rfl ?_
    intro b25
    refine zN ?_
    refine qm ?_
    refine K.blk_row0 (size := 1) ?_
    refine K.seq_upd (K.appendS el_26 rfl rfl hL.sl (fun _ => rfl) (K.oneI _) (by omega) (by omega) (fun _ _ => K.rp0)) rfl ?_
    rintro ⟨A27, c27⟩ _
    refine zN ?_
    simp only [Nat.zero_add, List.nil_append]
    refine zN ?_
    refine K.seq_new (K.buildSlice (bs1 _)) rfl ?_
    intro b28
    refine zN ?_
    refine K.seq_upd (K.append el_26 rfl rfl (K.PtrL.own' K.m0) rfl rfl (by decide) (by omega) (by omega) (fun _ _ => K.rp1)) rfl ?_
    rintro ⟨g29, c29⟩ _
    refine zN ?_
    rw [show l.length + 1 = (l ++ [(-1 : Int)]).length by rw [List.length_append]; rfl, show l.flatMap K.eI ++ [Value.int .i64 (-1)] = (l ++ [(-1 : Int)]).flatMap K.eI by rw [List.flatMap_append]; rfl]
    refine zN ?_
    refine qm ?_
    refine K.seq_call (K.call_g cal_72 (fun F w hF hw => z72 (by rw [List.length_append]; show l.length + 1 = _; omega))) rfl ?_
    refine zN ?_
    refine qx ?_
    refine qx ?_
    iterate 2 refine qa ?_
    refine sn ?_
    refine K.ret ?_
    refine K.ret_then ?_
    refine K.end_ret (fun w _ => K.res_tmp2 rfl w) ?_
    have hch : (chR r M 1 l) = some (l ++ [(-1 : Int)]) := by rw [chR, if_pos ht23]; rfl
    exact retc hch (by first | exact K.m0 | exact K.m1) rfl rfl rfl
  try replace ht23 := of_decide_eq_false ht23
  have ho : outS r l.length = false := by simpa using ht23
  refine K.skip ?_
  refine K.norm_then ?_
  refine K.seq ?_
  refine sr ?_
  refine qa ?_
  refine sn ?_
  refine K.block ?_
  refine K.loopW [9] [6, 7, 10, 11, 12, 13, 34, 35, 36, 37, 38, 39, 40, 41, 42, 43, 44, 45, 46, 47, 48, 49, 50, 51, 52, 53, 54, 55, 56, 57, 58, 59, 60, 61, 62, 63, 64, 65, 66, 67, 68, 69, 70, 71, 72, 73, 74, 75, 76, 77] (fun vi L => ∃ j : Nat, vi = [.int .i64 (j : Int)] ∧ L = [] ∧ j ≤ cntR l M ∧ loopR (chR r M 0) r l j = none) (fun vi => cntR l M - (intOf (K.nth vi 0)).toNat) ?_ ?_
  · exact ⟨0, rfl, rfl, Nat.zero_le _, rfl⟩
  intro vi vr L hJ
  obtain ⟨j, rfl, rfl, hjn, hnone⟩ := hJ
  try dsimp only [setd, setn, ev, nth, over, cl, eI, eP, eT, eR, setM, setF, List.map, List.append, List.drop, List.take]
  refine K.seq ?_
  refine sr ?_
  iterate 2 refine qm ?_
  refine K.seq_call (K.call_g cal_41 (fun F w hF hw => c41 (hL.pass hw) (by omega) hpb)) rfl ?_
  refine zN ?_
  refine qm ?_
  refine qp (K.sub_i64 rfl rfl (by omega)) ?_
  refine qp (K.min_int rfl rfl) ?_
  refine qp (K.leq rfl rfl) ?_
  refine sn ?_
  refine K.cond rfl (fun ht40 => ?_) (fun ht40 => ?_)
  · try replace ht40 := of_decide_eq_true ht40
    have hjl : j < cntR l M := by unfold cntR; omega
    have hjc : j ≤ cs.length := by omega
    refine K.skip ?_
    refine K.norm_then ?_
    refine K.seq ?_
    refine K.block ?_
    refine sr ?_
    refine qa ?_
    refine sn ?_
    refine K.seq ?_
    refine sr ?_
    refine qa ?_
    refine sn ?_
    refine K.block ?_
    refine K.loopW [10, 11] [43, 44, 45, 46, 47, 48, 49, 50, 51, 52, 53, 54, 55, 56, 57, 58, 59, 60, 61, 62] (fun vi L => ∃ k : Nat, vi = [.bool (okK r l j k), .int .i64 (k : Int)] ∧ L = [] ∧ k ≤ l.length) (fun vi => l.length - (intOf (K.nth vi 1)).toNat) ?_ ?_
    · exact ⟨0, rfl, rfl, Nat.zero_le _⟩
    intro vi vr L hJ
    obtain ⟨k, rfl, rfl, hkn⟩ := hJ
    try dsimp only [setd, setn, ev, nth, over, cl, eI, eP, eT, eR, setM, setF, List.map, List.append, List.drop, List.take]
    refine K.seq ?_
    refine sr ?_
    iterate 2 refine qm ?_
    refine qp (K.lss rfl rfl) ?_
    refine sn ?_
    refine K.cond rfl (fun ht45 => ?_) (fun ht45 => ?_)
    · try replace ht45 := of_decide_eq_true ht45
      have hk : k < l.length := by omega
      refine K.skip ?_
      refine K.norm_then ?_
      refine K.seq ?_
      refine K.block ?_
      refine K.region_lit ?_
      iterate 2 refine qm ?_
      refine K.split 49 rfl (fun hg49 => ?_) (fun hg49 => ?_)
      · try replace hg49 := of_decide_eq_true hg49
        iterate 2 refine qm ?_
        refine K.seq_ix (M := []) _ hL.sl sl_26 rfl rfl rfl (by omega) rfl ?_
        intro p52 hp52
        refine zN ?_
        refine K.seq_sil (K.load1 one_3 rfl (hp52.any)) rfl ?_
        refine zN ?_
        refine qm ?_
        refine qp (K.neq rfl rfl) ?_
        refine qm ?_
        refine K.split 56 rfl (fun hg56 => ?_) (fun hg56 => ?_)
        · try replace hg56 := of_decide_eq_true hg56
          iterate 4 refine qs ?_
          refine qp (K.pick_t rfl) ?_
          refine qp (K.pick_t rfl) ?_
          refine qa ?_
          refine K.seq_nil ?_
          refine K.norm_block ?_
          refine K.norm_then ?_
          refine K.region_lit ?_
          refine qm ?_
          refine qp (K.add_i64 rfl rfl (by omega)) ?_
          refine qa ?_
          refine K.seq_nil ?_
          have hov : true = okK r l j (k + 1) := by rw [okK_s, hg49, decide_eq_true hg56]; rfl
          exact K.round_endW (L'' := []) [.bool true, .int .i64 ((k : Int) + 1)] ⟨k + 1, by rw [← hov]; rfl, rfl, by omega⟩ (by simp [K.nth, intOf]; omega) (List.nil_sublist _) (by kernel_rfl)
        try replace hg56 := of_decide_eq_false hg56
        iterate 3 refine qm ?_
        refine K.seq_call (K.call_g cal_92 (fun F w hF hw => c92 (hR.pass hw) g hi (by omega))) rfl ?_
        refine zN ?_
        refine qp (K.pick_f rfl) ?_
        refine qp (K.pick_t rfl) ?_
        refine qa ?_
        refine K.seq_nil ?_
        refine K.norm_block ?_
        refine K.norm_then ?_
        refine K.region_lit ?_
        refine qm ?_
        refine qp (K.add_i64 rfl rfl (by omega)) ?_
        refine qa ?_
        refine K.seq_nil ?_
        have hov : (conS r l.length k) = okK r l j (k + 1) := by rw [okK_s, hg49, decide_eq_false hg56]; simp
        exact K.round_endW (L'' := []) [.bool (conS r l.length k), .int .i64 ((k : Int) + 1)] ⟨k + 1, by rw [← hov]; rfl, rfl, by omega⟩ (by simp [K.nth, intOf]; omega) (List.nil_sublist _) (by kernel_rfl)
      try replace hg49 := of_decide_eq_false hg49
      iterate 12 refine qs ?_
      refine qp (K.pick_f rfl) ?_
      refine qa ?_
      refine K.seq_nil ?_
      refine K.norm_block ?_
      refine K.norm_then ?_
      refine K.region_lit ?_
      refine qm ?_
      refine qp (K.add_i64 rfl rfl (by omega)) ?_
      refine qa ?_
      refine K.seq_nil ?_
      have hov : false = okK r l j (k + 1) := by rw [okK_s, hg49]; rfl
      exact K.round_endW (L'' := []) [.bool false, .int .i64 ((k : Int) + 1)] ⟨k + 1, by rw [← hov]; rfl, rfl, by omega⟩ (by simp [K.nth, intOf]; omega) (List.nil_sublist _) (by kernel_rfl)
    try replace ht45 := of_decide_eq_false ht45
    have e0 : k = l.length := by omega
    subst e0
    refine K.exit ?_
    refine K.exit_then ?_
    refine K.exit_then ?_
    refine K.exit_here ?_
    refine K.norm_then ?_
    refine sr ?_
    refine qm ?_
    refine sn ?_
    refine K.cond rfl (fun ht63 => ?_) (fun ht63 => ?_)
    · try replace ht63 := of_decide_eq_true ht63
      have hok : okN r l j = true := ht63
      have hokp := (okP_N g hi hcl hjc).trans hok
      refine sr ?_
      refine qm ?_
      refine K.seq_new (K.buildSlice (bs0)) rfl ?_
      intro b66
      refine zN ?_
      refine qm ?_
      refine K.blk_row0 (size := 1) ?_
      refine K.seq_upd (K.appendS el_26 rfl rfl hL.sl (fun _ => rfl) (K.oneI _) (by omega) (by omega) (fun _ _ => K.rp0)) rfl ?_
      rintro ⟨A68, c68⟩ _
      refine zN ?_
      simp only [Nat.zero_add, List.nil_append]
      refine zN ?_
      refine qm ?_
      refine K.seq_new (K.buildSlice (bs1 _)) rfl ?_
      intro b70
      refine zN ?_
      refine K.seq_upd (K.append el_26 rfl rfl (K.PtrL.own' K.m0) rfl rfl (by decide) (by omega) (by omega) (fun _ _ => K.rp1)) rfl ?_
      rintro ⟨g71, c71⟩ _
      refine zN ?_
      rw [show l.length + 1 = (l ++ [(j : Int)]).length by rw [List.length_append]; rfl, show l.flatMap K.eI ++ [Value.int .i64 (j : Int)] = (l ++ [(j : Int)]).flatMap K.eI by rw [List.flatMap_append]; rfl]
      refine zN ?_
      refine qm ?_
      refine K.seq_call (K.call_g cal_72 (fun F w hF hw => z72 (by rw [List.length_append]; show l.length + 1 = _; omega))) rfl ?_
      refine zN ?_
      refine qm ?_
      refine qx ?_
      refine qx ?_
      iterate 2 refine qa ?_
      refine sn ?_
      refine sr ?_
      refine qm ?_
      refine sn ?_
      refine K.cond rfl (fun ht76 => ?_) (fun ht76 => ?_)
      · try replace ht76 := of_decide_eq_true ht76
        refine sr ?_
        refine qm ?_
        iterate 2 refine qa ?_
        refine sn ?_
        refine K.ret ?_
        refine K.ret_block ?_
        refine K.ret_then ?_
        refine K.ret_then ?_
        refine K.ret_block ?_
        refine K.ret_then ?_
        refine K.end_ret (fun w _ => K.res_tmp2 rfl w) ?_
        have hch : (chR r M 1 l) = some (l ++ [(j : Int)]) := by rw [chR, if_neg (by rw [ho]; decide)]; exact loopR_keep (loopR_yes hnone hok) (by omega)
        exact retc hch (by first | exact K.m0 | exact K.m1) rfl rfl rfl
      try replace ht76 := of_decide_eq_false ht76
      cases ht76
    try replace ht63 := of_decide_eq_false ht63
    refine K.skip ?_
    refine K.norm_block ?_
    refine K.norm_then ?_
    refine K.region_lit ?_
    refine qm ?_
    refine qp (K.add_i64 rfl rfl (by omega)) ?_
    refine qa ?_
    refine K.seq_nil ?_
    have hnx : loopR (chR r M 0) r l (j + 1) = none := by
      have h63 : okK r l j l.length = false := by simpa using ht63
      exact loopR_no hnone h63
    exact K.round_endW (L'' := []) [.int .i64 ((j : Int) + 1)] ⟨j + 1, rfl, rfl, by omega, hnx⟩ (by simp [K.nth, intOf]; omega) (List.nil_sublist _) (by kernel_rfl)
  try replace ht40 := of_decide_eq_false ht40
  refine K.exit ?_
  refine K.exit_then ?_
  refine K.exit_then ?_
  refine K.exit_here ?_
  refine K.norm_then ?_
  refine sr ?_
  iterate 2 refine qa ?_
  refine sn ?_
  refine K.ret ?_
  refine K.end_ret (fun w _ => K.res_tmp2 rfl w) ?_
  have ej : j = cntR l M := by unfold cntR at hjn ⊢; omega
  have hch : (chR r M 1 l) = loopR (chR r M 0) r l (cntR l M) := by rw [chR, if_neg (by rw [ho]; decide)]
  exact retc_0 (by rw [hch, ← ej]; exact hnone) rfl

set_option maxRecDepth 100000 in
set_option maxHeartbeats 1000000 in
theorem s72 {r : List RvT} {A : Option Addr} {c : Nat} {M : Nat} {f : Nat} (ih : ∀ {Q : Option Addr} {q : Nat} {l : List Int} {w : World}, K.Rd w A 4 eR r → K.Rd w Q 1 K.eI l → Pl r l → (∃ cs, Cl cs l) → l.length + (f + 1) = r.length → Calls Tryd.prog 72 [.slice A r.length c, .slice Q l.length q, .int .i64 (M : Int)].toArray w (RetC (chR r M (f + 1) l) w)) {Q : Option Addr} {q : Nat} {l : List Int} {w : World} (hR : K.Rd w A 4 eR r) (g : Good r) (hL : K.Rd w Q 1 K.eI l) (P : Pl r l) (hC : ∃ cs, Cl cs l) (hf : l.length + (f + 2) = r.length) (hM : M ≤ 9) :
    Calls Tryd.prog 72 [.slice A r.length c, .slice Q l.length q, .int .i64 (M : Int)].toArray w (RetC (chR r M (f + 2) l) w) := by
  have hgn := g.n
  obtain ⟨cs, hcl⟩ := hC
  have hcn := hcl.n
  have hi : l.length < r.length := by omega
  have hpb := pl_bd P (by omega)
  have hnb := nm_bd hpb l.length (Nat.le_refl _)
  have hvf : nmV l = nmF l l.length := rfl
  have hct := cnt_9 (M := M) P
  refine K.enter (args := [.slice A r.length c, .slice Q l.length q, .int .i64 (M : Int)]) Tryd.func72 rfl (n := 75) rfl ?_
  simp only [List.replicate, List.cons_append, List.nil_append]
  refine sr ?_
  iterate 2 refine qa ?_
  refine sn ?_
  refine sr ?_
  refine qm ?_
  refine qp (K.len_sl sl_26 rfl) ?_
  refine qa ?_
  refine sn ?_
  refine K.seq ?_
  refine sr ?_
  iterate 2 refine qm ?_
  refine qp (K.len_sl sl_22 rfl) ?_
  refine qp (K.eql rfl rfl) ?_
  refine sn ?_
  refine K.cond rfl (fun ht19 => ?_) (fun ht19 => ?_)
  · try replace ht19 := of_decide_eq_true ht19
    exfalso; omega
  try replace ht19 := of_decide_eq_false ht19
  refine K.skip ?_
  refine K.norm_then ?_
  refine K.seq ?_
  refine sr ?_
  iterate 2 refine qm ?_
  refine K.seq_call (K.call_g cal_80 (fun F w hF hw => c80 (hR.pass hw) g hi)) rfl ?_
  refine zN ?_
  refine sn ?_
  refine K.cond rfl (fun ht23 => ?_) (fun ht23 => ?_)
  · try replace ht23 := of_decide_eq_true ht23
    refine sr ?_
    refine qm ?_
    refine K.seq_new (K.buildSlice (bs0)) rfl ?_
    intro b25
    refine zN ?_
    refine qm ?_
    refine K.blk_row0 (size := 1) ?_
    refine K.seq_upd (K.appendS el_26 rfl rfl hL.sl (fun _ => rfl) (K.oneI _) (by omega) (by omega) (fun _ _ => K.rp0)) rfl ?_
    rintro ⟨A27, c27⟩ _
    refine zN ?_
    simp only [Nat.zero_add, List.nil_append]
    refine zN ?_
    refine K.seq_new (K.buildSlice (bs1 _)) rfl ?_
    intro b28
    refine zN ?_
    refine K.seq_upd (K.append el_26 rfl rfl (K.PtrL.own' K.m0) rfl rfl (by decide) (by omega) (by omega) (fun _ _ => K.rp1)) rfl ?_
    rintro ⟨g29, c29⟩ _
    refine zN ?_
    rw [show l.length + 1 = (l ++ [(-1 : Int)]).length by rw [List.length_append]; rfl, show l.flatMap K.eI ++ [Value.int .i64 (-1)] = (l ++ [(-1 : Int)]).flatMap K.eI by rw [List.flatMap_append]; rfl]
    refine zN ?_
    refine qm ?_
    refine K.seq_loud (K.call_f cal_72 (fun F w hF hw => (by obtain ⟨P2, C2⟩ := pl_out P hcl ht23; exact ih (hR.pass hw) (K.Rd.own (e := K.eI) (xs := (l ++ [(-1 : Int)])) hw (hF _ (K.m1)) (.inr ⟨g29, rfl⟩) (fun _ => rfl) (by decide)) P2 ⟨_, C2⟩ (by rw [List.length_append]; show l.length + 1 + _ = _; omega)))) rfl ?_
    rintro ⟨Q3, q3⟩ hq3
    refine zN ?_
    refine qx ?_
    refine qx ?_
    iterate 2 refine qa ?_
    refine sn ?_
    refine K.ret ?_
    refine K.ret_then ?_
    refine K.end_ret (fun w _ => K.res_tmp2 rfl w) ?_
    have hch : (chR r M (f + 2) l) = (chR r M (f + 1)) (l ++ [(-1 : Int)]) := by rw [chR, if_pos ht23]
    rw [hch]
    exact K.rets (Q3, q3) hq3 rfl (List.Sublist.cons_cons _ (List.nil_sublist _))
  try replace ht23 := of_decide_eq_false ht23
  have ho : outS r l.length = false := by simpa using ht23
  refine K.skip ?_
  refine K.norm_then ?_
  refine K.seq ?_
  refine sr ?_
  refine qa ?_
  refine sn ?_
  refine K.block ?_
  refine K.loopW [9] [6, 7, 10, 11, 12, 13, 34, 35, 36, 37, 38, 39, 40, 41, 42, 43, 44, 45, 46, 47, 48, 49, 50, 51, 52, 53, 54, 55, 56, 57, 58, 59, 60, 61, 62, 63, 64, 65, 66, 67, 68, 69, 70, 71, 72, 73, 74, 75, 76, 77] (fun vi L => ∃ j : Nat, vi = [.int .i64 (j : Int)] ∧ L = [] ∧ j ≤ cntR l M ∧ loopR (chR r M (f + 1)) r l j = none) (fun vi => cntR l M - (intOf (K.nth vi 0)).toNat) ?_ ?_
  · exact ⟨0, rfl, rfl, Nat.zero_le _, rfl⟩
  intro vi vr L hJ
  obtain ⟨j, rfl, rfl, hjn, hnone⟩ := hJ
  try dsimp only [setd, setn, ev, nth, over, cl, eI, eP, eT, eR, setM, setF, List.map, List.append, List.drop, List.take]
  refine K.seq ?_
  refine sr ?_
  iterate 2 refine qm ?_
  refine K.seq_call (K.call_g cal_41 (fun F w hF hw => c41 (hL.pass hw) (by omega) hpb)) rfl ?_
  refine zN ?_
  refine qm ?_
  refine qp (K.sub_i64 rfl rfl (by omega)) ?_
  refine qp (K.min_int rfl rfl) ?_
  refine qp (K.leq rfl rfl) ?_
  refine sn ?_
  refine K.cond rfl (fun ht40 => ?_) (fun ht40 => ?_)
  · try replace ht40 := of_decide_eq_true ht40
    have hjl : j < cntR l M := by unfold cntR; omega
    have hjc : j ≤ cs.length := by omega
    refine K.skip ?_
    refine K.norm_then ?_
    refine K.seq ?_
    refine K.block ?_
    refine sr ?_
    refine qa ?_
    refine sn ?_
    refine K.seq ?_
    refine sr ?_
    refine qa ?_
    refine sn ?_
    refine K.block ?_
    refine K.loopW [10, 11] [43, 44, 45, 46, 47, 48, 49, 50, 51, 52, 53, 54, 55, 56, 57, 58, 59, 60, 61, 62] (fun vi L => ∃ k : Nat, vi = [.bool (okK r l j k), .int .i64 (k : Int)] ∧ L = [] ∧ k ≤ l.length) (fun vi => l.length - (intOf (K.nth vi 1)).toNat) ?_ ?_
    · exact ⟨0, rfl, rfl, Nat.zero_le _⟩
    intro vi vr L hJ
    obtain ⟨k, rfl, rfl, hkn⟩ := hJ
    try dsimp only [setd, setn, ev, nth, over, cl, eI, eP, eT, eR, setM, setF, List.map, List.append, List.drop, List.take]
    refine K.seq ?_
    refine sr ?_
    iterate 2 refine qm ?_
    refine qp (K.lss rfl rfl) ?_
    refine sn ?_
    refine K.cond rfl (fun ht45 => ?_) (fun ht45 => ?_)
    · try replace ht45 := of_decide_eq_true ht45
      have hk : k < l.length := by omega
      refine K.skip ?_
      refine K.norm_then ?_
      refine K.seq ?_
      refine K.block ?_
      refine K.region_lit ?_
      iterate 2 refine qm ?_
      refine K.split 49 rfl (fun hg49 => ?_) (fun hg49 => ?_)
      · try replace hg49 := of_decide_eq_true hg49
        iterate 2 refine qm ?_
        refine K.seq_ix (M := []) _ hL.sl sl_26 rfl rfl rfl (by omega) rfl ?_
        intro p52 hp52
        refine zN ?_
        refine K.seq_sil (K.load1 one_3 rfl (hp52.any)) rfl ?_
        refine zN ?_
        refine qm ?_
        refine qp (K.neq rfl rfl) ?_
        refine qm ?_
        refine K.split 56 rfl (fun hg56 => ?_) (fun hg56 => ?_)
        · try replace hg56 := of_decide_eq_true hg56
          iterate 4 refine qs ?_
          refine qp (K.pick_t rfl) ?_
          refine qp (K.pick_t rfl) ?_
          refine qa ?_
          refine K.seq_nil ?_
          refine K.norm_block ?_
          refine K.norm_then ?_
          refine K.region_lit ?_
          refine qm ?_
          refine qp (K.add_i64 rfl rfl (by omega)) ?_
          refine qa ?_
          refine K.seq_nil ?_
          have hov : true = okK r l j (k + 1) := by rw [okK_s, hg49, decide_eq_true hg56]; rfl
          exact K.round_endW (L'' := []) [.bool true, .int .i64 ((k : Int) + 1)] ⟨k + 1, by rw [← hov]; rfl, rfl, by omega⟩ (by simp [K.nth, intOf]; omega) (List.nil_sublist _) (by kernel_rfl)
        try replace hg56 := of_decide_eq_false hg56
        iterate 3 refine qm ?_
        refine K.seq_call (K.call_g cal_92 (fun F w hF hw => c92 (hR.pass hw) g hi (by omega))) rfl ?_
        refine zN ?_
        refine qp (K.pick_f rfl) ?_
        refine qp (K.pick_t rfl) ?_
        refine qa ?_
        refine K.seq_nil ?_
        refine K.norm_block ?_
        refine K.norm_then ?_
        refine K.region_lit ?_
        refine qm ?_
        refine qp (K.add_i64 rfl rfl (by omega)) ?_
        refine qa ?_
        refine K.seq_nil ?_
        have hov : (conS r l.length k) = okK r l j (k + 1) := by rw [okK_s, hg49, decide_eq_false hg56]; simp
        exact K.round_endW (L'' := []) [.bool (conS r l.length k), .int .i64 ((k : Int) + 1)] ⟨k + 1, by rw [← hov]; rfl, rfl, by omega⟩ (by simp [K.nth, intOf]; omega) (List.nil_sublist _) (by kernel_rfl)
      try replace hg49 := of_decide_eq_false hg49
      iterate 12 refine qs ?_
      refine qp (K.pick_f rfl) ?_
      refine qa ?_
      refine K.seq_nil ?_
      refine K.norm_block ?_
      refine K.norm_then ?_
      refine K.region_lit ?_
      refine qm ?_
      refine qp (K.add_i64 rfl rfl (by omega)) ?_
      refine qa ?_
      refine K.seq_nil ?_
      have hov : false = okK r l j (k + 1) := by rw [okK_s, hg49]; rfl
      exact K.round_endW (L'' := []) [.bool false, .int .i64 ((k : Int) + 1)] ⟨k + 1, by rw [← hov]; rfl, rfl, by omega⟩ (by simp [K.nth, intOf]; omega) (List.nil_sublist _) (by kernel_rfl)
    try replace ht45 := of_decide_eq_false ht45
    have e0 : k = l.length := by omega
    subst e0
    refine K.exit ?_
    refine K.exit_then ?_
    refine K.exit_then ?_
    refine K.exit_here ?_
    refine K.norm_then ?_
    refine sr ?_
    refine qm ?_
    refine sn ?_
    refine K.cond rfl (fun ht63 => ?_) (fun ht63 => ?_)
    · try replace ht63 := of_decide_eq_true ht63
      have hok : okN r l j = true := ht63
      have hokp := (okP_N g hi hcl hjc).trans hok
      refine sr ?_
      refine qm ?_
      refine K.seq_new (K.buildSlice (bs0)) rfl ?_
      intro b66
      refine zN ?_
      refine qm ?_
      refine K.blk_row0 (size := 1) ?_
      refine K.seq_upd (K.appendS el_26 rfl rfl hL.sl (fun _ => rfl) (K.oneI _) (by omega) (by omega) (fun _ _ => K.rp0)) rfl ?_
      rintro ⟨A68, c68⟩ _
      refine zN ?_
      simp only [Nat.zero_add, List.nil_append]
      refine zN ?_
      refine qm ?_
      refine K.seq_new (K.buildSlice (bs1 _)) rfl ?_
      intro b70
      refine zN ?_
      refine K.seq_upd (K.append el_26 rfl rfl (K.PtrL.own' K.m0) rfl rfl (by decide) (by omega) (by omega) (fun _ _ => K.rp1)) rfl ?_
      rintro ⟨g71, c71⟩ _
      refine zN ?_
      rw [show l.length + 1 = (l ++ [(j : Int)]).length by rw [List.length_append]; rfl, show l.flatMap K.eI ++ [Value.int .i64 (j : Int)] = (l ++ [(j : Int)]).flatMap K.eI by rw [List.flatMap_append]; rfl]
      refine zN ?_
      refine qm ?_
      refine K.seq_loud (K.call_f cal_72 (fun F w hF hw => (by obtain ⟨P2, C2⟩ := pl_in g hi P hcl ho hjc hokp; exact ih (hR.pass hw) (K.Rd.own (e := K.eI) (xs := (l ++ [(j : Int)])) hw (hF _ (K.m1)) (.inr ⟨g71, rfl⟩) (fun _ => rfl) (by decide)) P2 ⟨_, C2⟩ (by rw [List.length_append]; show l.length + 1 + _ = _; omega)))) rfl ?_
      rintro ⟨Q3, q3⟩ hq3
      refine zN ?_
      refine qm ?_
      refine qx ?_
      refine qx ?_
      iterate 2 refine qa ?_
      refine sn ?_
      refine sr ?_
      refine qm ?_
      refine sn ?_
      refine K.cond rfl (fun ht76 => ?_) (fun ht76 => ?_)
      · try replace ht76 := of_decide_eq_true ht76
        refine sr ?_
        refine qm ?_
        iterate 2 refine qa ?_
        refine sn ?_
        refine K.ret ?_
        refine K.ret_block ?_
        refine K.ret_then ?_
        refine K.ret_then ?_
        refine K.ret_block ?_
        refine K.ret_then ?_
        refine K.end_ret (fun w _ => K.res_tmp2 rfl w) ?_
        obtain ⟨qs, hqs⟩ := Option.isSome_iff_exists.1 (show ((chR r M (f + 1)) (l ++ [(j : Int)])).isSome = true by simpa using ht76)
        have hch : (chR r M (f + 2) l) = (chR r M (f + 1)) (l ++ [(j : Int)]) := by
          rw [chR, if_neg (by rw [ho]; decide), hqs]
          exact loopR_keep (k := cntR l M) ((loopR_yes hnone hok).trans hqs) (by omega)
        have hs76 : ((chR r M (f + 1)) (l ++ [(j : Int)])).isSome = true := by simpa using ht76
        rw [hch]
        exact K.rets (Q3, q3) hq3 (by rw [hs76]; rfl) (List.Sublist.cons_cons _ (List.nil_sublist _))
      try replace ht76 := of_decide_eq_false ht76
      refine K.skip ?_
      refine K.norm_block ?_
      refine K.norm_then ?_
      refine K.region_lit ?_
      refine qm ?_
      refine qp (K.add_i64 rfl rfl (by omega)) ?_
      refine qa ?_
      refine K.seq_nil ?_
      have hnx : loopR (chR r M (f + 1)) r l (j + 1) = none := by
        rw [loopR_yes hnone hok]
        exact Option.isSome_eq_false_iff.1 (by simpa using ht76) |> Option.isNone_iff_eq_none.1
      exact K.round_endW (L'' := []) [.int .i64 ((j : Int) + 1)] ⟨j + 1, rfl, rfl, by omega, hnx⟩ (by simp [K.nth, intOf]; omega) (List.nil_sublist _) (by kernel_rfl)
    try replace ht63 := of_decide_eq_false ht63
    refine K.skip ?_
    refine K.norm_block ?_
    refine K.norm_then ?_
    refine K.region_lit ?_
    refine qm ?_
    refine qp (K.add_i64 rfl rfl (by omega)) ?_
    refine qa ?_
    refine K.seq_nil ?_
    have hnx : loopR (chR r M (f + 1)) r l (j + 1) = none := by
      have h63 : okK r l j l.length = false := by simpa using ht63
      exact loopR_no hnone h63
    exact K.round_endW (L'' := []) [.int .i64 ((j : Int) + 1)] ⟨j + 1, rfl, rfl, by omega, hnx⟩ (by simp [K.nth, intOf]; omega) (List.nil_sublist _) (by kernel_rfl)
  try replace ht40 := of_decide_eq_false ht40
  refine K.exit ?_
  refine K.exit_then ?_
  refine K.exit_then ?_
  refine K.exit_here ?_
  refine K.norm_then ?_
  refine sr ?_
  iterate 2 refine qa ?_
  refine sn ?_
  refine K.ret ?_
  refine K.end_ret (fun w _ => K.res_tmp2 rfl w) ?_
  have ej : j = cntR l M := by unfold cntR at hjn ⊢; omega
  have hch : (chR r M (f + 2) l) = loopR (chR r M (f + 1)) r l (cntR l M) := by rw [chR, if_neg (by rw [ho]; decide)]
  exact retc_0 (by rw [hch, ← ej]; exact hnone) rfl

theorem c72 {r : List RvT} {A : Option Addr} {c : Nat} {M : Nat} (g : Good r) (hM : M ≤ 9) : ∀ (f : Nat) {Q : Option Addr} {q : Nat} {l : List Int} {w : World}, K.Rd w A 4 eR r → K.Rd w Q 1 K.eI l → Pl r l → (∃ cs, Cl cs l) → l.length + (f + 1) = r.length → Calls Tryd.prog 72 [.slice A r.length c, .slice Q l.length q, .int .i64 (M : Int)].toArray w (RetC (chR r M (f + 1) l) w)
  | 0, _, _, _, _, hR, hL, P, hC, hf => s72_0 hR g hL P hC hf hM
  | f + 1, _, _, _, _, hR, hL, P, hC, hf => s72 (fun h1 h2 h3 h4 h5 => c72 g hM f h1 h2 h3 h4 h5) hR g hL P hC hf hM


set_option maxRecDepth 100000 in
theorem e31 {r : List RvT} {A : Option Addr} {c : Nat} {w : World} (hR : K.Rd w A 4 eR r) (hn : r.length ≤ 4611686018427387904) (hc : (chk r).2.2 ≠ 0) :
    Calls Tryd.prog 31 [.slice A r.length c].toArray w (K.RetSE 3 1 K.eI (prfL r) (chk r).2.2 w) := by
  refine K.enter (args := [.slice A r.length c]) Tryd.func31 rfl (n := 32) rfl ?_
  simp only [List.replicate, List.cons_append, List.nil_append]
  refine sr ?_
  iterate 2 refine qa ?_
  refine sn ?_
  refine sr ?_
  refine qm ?_
  refine K.seq_call (K.call_g cal_15 (fun F w hF hw => c15 (hR.pass hw) hn)) rfl ?_
  refine zN ?_
  refine qm ?_
  refine qx ?_
  refine qx ?_
  refine qx ?_
  iterate 3 refine qa ?_
  refine sn ?_
  refine K.seq ?_
  refine sr ?_
  refine qm ?_
  refine qp (K.neq rfl rfl) ?_
  refine sn ?_
  refine K.cond_true (by exact congrArg Value.bool (decide_eq_true hc)) ?_
  refine sr ?_
  refine qm ?_
  iterate 2 refine qa ?_
  refine sn ?_
  refine K.ret ?_
  refine K.ret_then ?_
  refine K.end_ret (fun w _ => K.res_tmp2 rfl w) ?_
  exact K.rets_se0 (by unfold prfL; rw [if_pos hc]) rfl rfl

set_option maxRecDepth 100000 in
theorem g31 {r : List RvT} {A : Option Addr} {c : Nat} {w : World} (hR : K.Rd w A 4 eR r) (hn : r.length ≤ 4611686018427387904) (hc : (chk r).2.2 = 0) :
    Calls Tryd.prog 31 [.slice A r.length c].toArray w (K.RetSE 3 1 K.eI (prfL r) (chk r).2.2 w) := by
  have g : Good r := chk_good hc
  have hgn := g.n
  obtain ⟨hp1, hp2⟩ := chR_prf hc
  have hfl : (fewL r).length ≤ r.length := by rw [(few_L hc).2]; exact few_le9 g
  refine K.enter (args := [.slice A r.length c]) Tryd.func31 rfl (n := 32) rfl ?_
  simp only [List.replicate, List.cons_append, List.nil_append]
  refine sr ?_
  iterate 2 refine qa ?_
  refine sn ?_
  refine sr ?_
  refine qm ?_
  refine K.seq_call (K.call_g cal_15 (fun F w hF hw => c15 (hR.pass hw) hn)) rfl ?_
  refine zN ?_
  refine qm ?_
  refine qx ?_
  refine qx ?_
  refine qx ?_
  iterate 3 refine qa ?_
  refine sn ?_
  refine K.seq ?_
  refine sr ?_
  refine qm ?_
  refine qp (K.neq rfl rfl) ?_
  refine sn ?_
  refine K.cond_false (by exact congrArg Value.bool (decide_eq_false (by omega))) ?_
  refine K.skip ?_
  refine K.norm_then ?_
  refine K.seq ?_
  refine sr ?_
  refine qa ?_
  refine sn ?_
  refine K.block ?_
  refine K.loopW [7] [2, 3, 8, 9, 19, 20, 21, 22, 23, 24, 25, 26, 27, 28, 29, 30, 31, 32] (fun vi L => ∃ m : Nat, vi = [.int .i64 (m : Int)] ∧ L = [] ∧ m ≤ r.length + 1 ∧ ∀ x, x < m → chR r x r.length [] = none) (fun vi => r.length + 1 - (intOf (K.nth vi 0)).toNat) ?_ ?_
  · exact ⟨0, rfl, rfl, Nat.zero_le _, fun j hj => absurd hj (Nat.not_lt_zero j)⟩
  intro vi vr L hJ
  obtain ⟨m, rfl, rfl, hmn, hnone⟩ := hJ
  try dsimp only [setd, setn, ev, nth, over, cl, eI, eP, eT, eR, setM, setF, List.map, List.append, List.drop, List.take]
  refine K.seq ?_
  refine sr ?_
  iterate 2 refine qm ?_
  refine qp (K.len_sl sl_22 rfl) ?_
  refine qp (K.leq rfl rfl) ?_
  refine sn ?_
  refine K.cond rfl (fun ht22 => ?_) (fun ht22 => ?_)
  · try replace ht22 := of_decide_eq_true ht22
    have hmr : m ≤ r.length := by omega
    refine K.skip ?_
    refine K.norm_then ?_
    refine K.seq ?_
    refine K.block ?_
    refine sr ?_
    iterate 2 refine qm ?_
    refine K.seq_loud (K.call_f cal_72 (fun F w hF hw => (by have hg := c72 (c := c) (M := m) (q := 0) g (by omega) (r.length - 1) (hR.pass hw) rd_nil pl_nil ⟨_, cl_nil⟩ (by show 0 + _ = _; omega); rw [show r.length - 1 + 1 = r.length by omega] at hg; exact hg))) rfl ?_
    rintro ⟨Q3, q3⟩ hq3
    refine zN ?_
    refine qm ?_
    refine qx ?_
    refine qx ?_
    iterate 2 refine qa ?_
    refine sn ?_
    refine sr ?_
    refine qm ?_
    refine sn ?_
    refine K.cond rfl (fun ht31 => ?_) (fun ht31 => ?_)
    · try replace ht31 := of_decide_eq_true ht31
      refine sr ?_
      refine qm ?_
      iterate 2 refine qa ?_
      refine sn ?_
      refine K.ret ?_
      refine K.ret_block ?_
      refine K.ret_then ?_
      refine K.ret_then ?_
      refine K.ret_block ?_
      refine K.ret_then ?_
      refine K.end_ret (fun w _ => K.res_tmp2 rfl w) ?_
      obtain ⟨qs, hqs⟩ := Option.isSome_iff_exists.1 (show (chR r m r.length []).isSome = true by simpa using ht31)
      have hme : m = r.length - (fewL r).length := by
        rcases Nat.lt_trichotomy m (r.length - (fewL r).length) with h | h | h
        · exact absurd hqs (hp2 m qs h)
        · exact h
        · rw [hnone _ h] at hp1; cases hp1
      have hqe : ((chR r m r.length []).getD []) = prfL r := by rw [hme, hp1]; rfl
      rw [hc]
      exact K.rets_se K.m0 (by rw [hqe]) (by rw [hqe]) rfl rfl
    try replace ht31 := of_decide_eq_false ht31
    refine K.skip ?_
    refine K.norm_block ?_
    refine K.norm_then ?_
    refine K.region_lit ?_
    refine qm ?_
    refine qp (K.add_i64 rfl rfl (by omega)) ?_
    refine qa ?_
    refine K.seq_nil ?_
    have hno : (chR r m r.length []) = none := Option.isNone_iff_eq_none.1 (Option.isSome_eq_false_iff.1 (by simpa using ht31))
    exact K.round_endW (L'' := []) [.int .i64 ((m : Int) + 1)] ⟨m + 1, rfl, rfl, by omega, K.lt_succ_case hnone hno⟩ (by simp [K.nth, intOf]; omega) (List.nil_sublist _) (by kernel_rfl)
  try replace ht22 := of_decide_eq_false ht22
  refine K.exit ?_
  refine K.exit_then ?_
  refine K.exit_then ?_
  refine K.exit_here ?_
  refine K.norm_then ?_
  refine sr ?_
  iterate 2 refine qa ?_
  refine sn ?_
  refine K.ret ?_
  refine K.end_ret (fun w _ => K.res_tmp2 rfl w) ?_
  exfalso
  rw [hnone _ (by omega)] at hp1
  cases hp1

theorem c31 {r : List RvT} {A : Option Addr} {c : Nat} {w : World} (hR : K.Rd w A 4 eR r) (hn : r.length ≤ 4611686018427387904) : Calls Tryd.prog 31 [.slice A r.length c].toArray w (K.RetSE 3 1 K.eI (prfL r) (chk r).2.2 w) := by
  by_cases hc : (chk r).2.2 = 0
  · exact g31 hR hn hc
  · exact e31 hR hn hc


end Go.Proofs.YtoemnobfnnjopaaDoor
end
