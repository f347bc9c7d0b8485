/-
  Walks of the program's functions, printed by program: what each returns.
  Conditions stand in each theorem.
-/
import Derived.WalkArith
import Derived.Laws.Closers25b
import Derived.Test.YtoemnobfnnjopaaDoorS4
import Derived.Test.YtoemnobfnnjopaaDoorK9
import Derived.Test.YtoemnobfnnjopaaDoorWi
set_option linter.unusedSimpArgs false
set_option linter.unusedVariables false
namespace Go.Proofs.YtoemnobfnnjopaaDoor
open Go.RowKit Go
open Go.K (setd setn ev nth over cl eI eP eT setM setF)
attribute [local irreducible] K.blk K.row
def Ret2 (a b : List Int) (z : Int) (w : World) : Ending → World → Prop :=
  K.Ret (fun r : (Option Addr × Nat) × (Option Addr × Nat) => (a.length = 0 ∨ ∃ b, r.1.1 = some ⟨b, 0, none⟩) ∧ (b.length = 0 ∨ ∃ b, r.2.1 = some ⟨b, 0, none⟩)) (fun r => .tuple #[.slice r.1.1 a.length r.1.2, .slice r.2.1 b.length r.2.2, .int .i64 z]) (fun r => [K.row (.slice r.2.1 b.length r.2.2) 3 1 b.length (b.flatMap K.eI), K.row (.slice r.1.1 a.length r.1.2) 3 1 a.length (a.flatMap K.eI)]) w
theorem ret2_0 {a b : List Int} {z z' : Int} {w : World} {L : List K.Chunk} {v : Value} (ha : a = []) (hb : b = []) (hz : z' = z) (hv : v = .tuple #[.slice none 0 0, .slice none 0 0, .int .i64 z]) : K.Hold w L (Ret2 a b z' w (.returned v)) := by
  subst ha hb hz
  exact K.nil_row (e := 3) (size := 1) (K.nil_row (e := 3) (size := 1) (K.rets_v ((none, 0), (none, 0)) ⟨.inl rfl, .inl rfl⟩ hv rfl (List.Sublist.cons_cons _ (List.Sublist.cons_cons _ (List.nil_sublist _)))))
theorem ret2 {a b : List Int} {z : Int} {w : World} {L : List K.Chunk} {A B : Option Addr} {c d : Nat} {v : Value} (hA : a.length = 0 ∨ ∃ b, A = some ⟨b, 0, none⟩) (hB : b.length = 0 ∨ ∃ b, B = some ⟨b, 0, none⟩) (hs : List.Sublist [K.row (.slice B b.length d) 3 1 b.length (b.flatMap K.eI), K.row (.slice A a.length c) 3 1 a.length (a.flatMap K.eI)] L) (hv : v = .tuple #[.slice A a.length c, .slice B b.length d, .int .i64 z]) : K.Hold w L (Ret2 a b z w (.returned v)) :=
  K.rets_v ((A, c), (B, d)) ⟨hA, hB⟩ hv rfl hs

set_option maxRecDepth 100000 in
theorem c68 {r : List RvT} {A : Option Addr} {c : Nat} {b i : Nat} {w : World} (hX : K.PtrL w [] ⟨b, 0, none⟩ (.slice A r.length c :: dcell (drT r))) (hXb : b < w.heap.size) (hR : K.Rd w A 4 eR r) (g : Good r) (hi : i < r.length) :
    Calls Tryd.prog 68 [.pointer (some ⟨b, 0, none⟩), .int .i64 (i : Int)].toArray w (K.Gives (.bool (outS r i)) w) := by
  have hgn := g.n
  have hpi := g.p i hi
  refine K.enter (args := [.pointer (some ⟨b, 0, none⟩), .int .i64 (i : Int)]) Tryd.func68 rfl (n := 40) rfl ?_
  simp only [List.replicate, List.cons_append, List.nil_append]
  refine sr ?_
  refine qa ?_
  refine sn ?_
  refine K.seq ?_
  refine sr ?_
  refine qm ?_
  refine qp (K.nilCheck rfl) ?_
  refine qp (K.fieldAddr_lit fo_79_0 rfl) ?_
  refine K.seq_sil (K.load_at one_75 rfl (hX.any) rfl) rfl ?_
  refine zN ?_
  refine qp (K.len_sl sl_75 rfl) ?_
  refine qm ?_
  refine sn ?_
  refine K.block ?_
  refine K.loopW [11] [4, 5, 12, 13, 14, 15, 16, 17, 18, 19, 20, 21, 22, 23, 24, 25, 26, 27, 28, 29, 30, 31, 32, 33, 34, 35, 36, 37, 38, 39, 40, 41] (fun vi L => ∃ k : Nat, vi = [.int .i64 (k : Int)] ∧ L = [] ∧ k ≤ r.length ∧ ∀ j, j < k → ¬ (drp r i j > (r.getD i default).ht) ∧ ¬ (drp r j i > 9000 - (r.getD i default).ht)) (fun vi => r.length - (intOf (K.nth vi 0)).toNat) ?_ ?_
  · exact ⟨0, rfl, rfl, Nat.zero_le _, fun j hj => absurd hj (Nat.not_lt_zero j)⟩
  intro vi vr L hJ
  obtain ⟨k, rfl, rfl, hkn, hall⟩ := hJ
  try dsimp only [setd, setn, ev, nth, over, cl, eI, eP, eT, eR, setM, setF, List.map, List.append, List.drop, List.take]
  refine sr ?_
  refine qp (K.lss rfl rfl) ?_
  refine sn ?_
  refine K.seq ?_
  refine K.cond rfl (fun ht12 => ?_) (fun ht12 => ?_)
  · try replace ht12 := of_decide_eq_true ht12
    have hk : k < r.length := by omega
    have e1 := riv_at (f := drT r) (S := .slice A r.length c) (i := i) (k := k) (by omega) (by omega)
    rw [drT_in (by omega) (by omega)] at e1
    have e2 := riv_at (f := drT r) (S := .slice A r.length c) (i := k) (k := i) (by omega) (by omega)
    rw [drT_in (by omega) (by omega)] at e2
    refine K.skip ?_
    refine K.norm_then ?_
    refine K.seq ?_
    refine K.block ?_
    refine sr ?_
    refine qm ?_
    refine qa ?_
    refine sn ?_
    refine K.seq ?_
    refine K.draw_L [] Tryd_mixed ?_
    refine K.d_pure 0 rfl (K.move) (by kernel_rfl) rfl ?_
    refine zn ?_
    refine K.d_pure 1 rfl (K.move) (by kernel_rfl) rfl ?_
    refine zn ?_
    refine K.d_pure 2 rfl (K.move) (by kernel_rfl) rfl ?_
    refine zn ?_
    refine K.d_pure 3 rfl (K.nilCheck rfl) (by kernel_rfl) rfl ?_
    refine zn ?_
    refine K.d_pure 4 rfl (K.fieldAddr_lit fo_79_1 rfl) (by kernel_rfl) rfl ?_
    refine zn ?_
    refine K.d_pure 5 rfl (K.indexAddr_ar ar_77 rfl rfl (by omega) (by omega)) (by kernel_rfl) rfl ?_
    refine zN ?_
    refine K.d_pure 6 rfl (K.indexAddr_ar ar_76 rfl rfl (by omega) (by omega)) (by kernel_rfl) rfl ?_
    refine zN ?_
    refine K.d_mem 7 rfl (K.load_at one_3 rfl hX.any e1) (fun _ h => h) (by kernel_rfl) (by kernel_rfl) rfl ?_
    refine zN ?_
    refine K.d_pure 8 rfl (K.move) (by kernel_rfl) rfl ?_
    refine zn ?_
    refine K.d_pure 9 rfl (K.move) (by kernel_rfl) rfl ?_
    refine zn ?_
    refine K.d_call 10 rfl (K.call_g cal_54 (fun F w hF hw => c54 (hX.into hXb hw) (K.lt_into hXb hw) (hR.pass hw) hi)) (fun _ h => h) (by kernel_rfl) rfl ?_
    refine zN ?_
    refine K.d_pure 11 rfl (K.gtr rfl rfl) (by kernel_rfl) rfl ?_
    refine zn ?_
    refine K.d_pure 12 rfl (K.move) (by kernel_rfl) rfl ?_
    refine zn ?_
    refine K.dsplit 26 rfl (fun hg26 => ?_) (fun hg26 => ?_)
    · try replace hg26 := of_decide_eq_true hg26
      refine K.d_skip 13 rfl (by kernel_rfl) rfl ?_
      refine zN ?_
      refine K.d_skip 14 rfl (by kernel_rfl) rfl ?_
      refine zN ?_
      refine K.d_skip 15 rfl (by kernel_rfl) rfl ?_
      refine zN ?_
      refine K.d_skip 16 rfl (by kernel_rfl) rfl ?_
      refine zN ?_
      refine K.d_skip 17 rfl (by kernel_rfl) rfl ?_
      refine zN ?_
      refine K.d_skip 18 rfl (by kernel_rfl) rfl ?_
      refine zN ?_
      refine K.d_skip 19 rfl (by kernel_rfl) rfl ?_
      refine zN ?_
      refine K.d_skip 20 rfl (by kernel_rfl) rfl ?_
      refine zN ?_
      refine K.d_skip 21 rfl (by kernel_rfl) rfl ?_
      refine zN ?_
      refine K.d_skip 22 rfl (by kernel_rfl) rfl ?_
      refine zN ?_
      refine K.d_skip 23 rfl (by kernel_rfl) rfl ?_
      refine zN ?_
      refine K.d_skip 24 rfl (by kernel_rfl) rfl ?_
      refine zN ?_
      refine K.d_skip 25 rfl (by kernel_rfl) rfl ?_
      refine zN ?_
      refine K.d_pure 26 rfl (K.pick_t rfl) (by kernel_rfl) rfl ?_
      refine zn ?_
      refine K.d_done (by kernel_rfl) ?_
      refine K.norm_then ?_
      refine K.cond_true rfl ?_
      refine sr ?_
      refine qa ?_
      refine sn ?_
      refine K.ret ?_
      refine K.ret_block ?_
      refine K.ret_then ?_
      refine K.ret_then ?_
      refine K.ret_block ?_
      refine K.ret_then ?_
      refine K.end_ret (fun w _ => K.res_tmp rfl w) ?_
      exact K.gives_b rfl (out_t hk (.inl (by omega))).symm
    try replace hg26 := of_decide_eq_false hg26
    refine K.d_pure 13 rfl (K.move) (by kernel_rfl) rfl ?_
    refine zn ?_
    refine K.d_pure 14 rfl (K.move) (by kernel_rfl) rfl ?_
    refine zn ?_
    refine K.d_pure 15 rfl (K.move) (by kernel_rfl) rfl ?_
    refine zn ?_
    refine K.d_pure 16 rfl (K.nilCheck rfl) (by kernel_rfl) rfl ?_
    refine zn ?_
    refine K.d_pure 17 rfl (K.fieldAddr_lit fo_79_1 rfl) (by kernel_rfl) rfl ?_
    refine zn ?_
    refine K.d_pure 18 rfl (K.indexAddr_ar ar_77 rfl rfl (by omega) (by omega)) (by kernel_rfl) rfl ?_
    refine zN ?_
    refine K.d_pure 19 rfl (K.indexAddr_ar ar_76 rfl rfl (by omega) (by omega)) (by kernel_rfl) rfl ?_
    refine zN ?_
    refine K.d_mem 20 rfl (K.load_at one_3 rfl hX.any e2) (fun _ h => h) (by kernel_rfl) (by kernel_rfl) rfl ?_
    refine zN ?_
    refine K.d_pure 21 rfl (K.move) (by kernel_rfl) rfl ?_
    refine zn ?_
    refine K.d_pure 22 rfl (K.move) (by kernel_rfl) rfl ?_
    refine zn ?_
    refine K.d_call 23 rfl (K.call_g cal_54 (fun F w hF hw => c54 (hX.into hXb hw) (K.lt_into hXb hw) (hR.pass hw) hi)) (fun _ h => h) (by kernel_rfl) rfl ?_
    refine zN ?_
    refine K.d_pure 24 rfl (K.sub_i64 rfl rfl (by omega)) (by kernel_rfl) rfl ?_
    refine zn ?_
    refine K.d_pure 25 rfl (K.gtr rfl rfl) (by kernel_rfl) rfl ?_
    refine zn ?_
    refine K.d_pure 26 rfl (K.pick_f rfl) (by kernel_rfl) rfl ?_
    refine zn ?_
    refine K.d_done (by kernel_rfl) ?_
    refine K.norm_then ?_
    refine K.cond rfl (fun ht40 => ?_) (fun ht40 => ?_)
    · try replace ht40 := of_decide_eq_true ht40
      refine sr ?_
      refine qa ?_
      refine sn ?_
      refine K.ret ?_
      refine K.ret_block ?_
      refine K.ret_then ?_
      refine K.ret_then ?_
      refine K.ret_block ?_
      refine K.ret_then ?_
      refine K.end_ret (fun w _ => K.res_tmp rfl w) ?_
      exact K.gives_b rfl (out_t hk (.inr (by omega))).symm
    try replace ht40 := of_decide_eq_false ht40
    refine K.skip ?_
    refine K.norm_block ?_
    refine K.norm_then ?_
    refine K.region_lit ?_
    refine qp (K.add_i64 rfl rfl (by omega)) ?_
    refine qm ?_
    refine K.seq_nil ?_
    have hno : ¬ (drp r i k > (r.getD i default).ht) ∧ ¬ (drp r k i > 9000 - (r.getD i default).ht) := ⟨by omega, by omega⟩
    exact K.round_endW (L'' := []) [.int .i64 ((k : Int) + 1)] ⟨k + 1, rfl, rfl, by omega, K.lt_succ_case hall hno⟩ (by simp [K.nth, intOf]; omega) (List.nil_sublist _) (by kernel_rfl)
  try replace ht12 := of_decide_eq_false ht12
  refine K.exit ?_
  refine K.exit_then ?_
  refine K.exit_then ?_
  refine K.exit_here ?_
  refine K.norm_then ?_
  refine sr ?_
  refine qa ?_
  refine sn ?_
  refine K.ret ?_
  refine K.end_ret (fun w _ => K.res_tmp rfl w) ?_
  exact K.gives_b rfl (out_f (fun j hj => hall j (by omega))).symm

set_option maxRecDepth 100000 in
theorem c71 {r : List RvT} {A : Option Addr} {c : Nat} {b i k : Nat} {w : World} (hX : K.PtrL w [] ⟨b, 0, none⟩ (.slice A r.length c :: dcell (drT r))) (hXb : b < w.heap.size) (hR : K.Rd w A 4 eR r) (g : Good r) (hi : i < r.length) (hk : k < r.length) :
    Calls Tryd.prog 71 [.pointer (some ⟨b, 0, none⟩), .int .i64 (i : Int), .int .i64 (k : Int)].toArray w (K.Gives (.bool (conS r i k)) w) := by
  have hgn := g.n
  have hpi := g.p i hi
  have hpk := g.p k hk
  have e1 := riv_at (f := drT r) (S := .slice A r.length c) (i := i) (k := k) (by omega) (by omega)
  rw [drT_in (by omega) (by omega)] at e1
  have e2 := riv_at (f := drT r) (S := .slice A r.length c) (i := k) (k := i) (by omega) (by omega)
  rw [drT_in (by omega) (by omega)] at e2
  refine K.enter (args := [.pointer (some ⟨b, 0, none⟩), .int .i64 (i : Int), .int .i64 (k : Int)]) Tryd.func71 rfl (n := 42) rfl ?_
  simp only [List.replicate, List.cons_append, List.nil_append]
  refine sr ?_
  refine qa ?_
  refine sn ?_
  refine K.seq ?_
  refine sr ?_
  iterate 3 refine qm ?_
  refine qp (K.nilCheck rfl) ?_
  refine qp (K.fieldAddr_lit fo_79_1 rfl) ?_
  refine K.seq_pure (K.indexAddr_ar ar_77 rfl rfl (by omega) (by omega)) rfl ?_
  refine zN ?_
  refine K.seq_pure (K.indexAddr_ar ar_76 rfl rfl (by omega) (by omega)) rfl ?_
  refine zN ?_
  refine K.seq_sil (K.load_at one_3 rfl hX.any e1) rfl ?_
  refine zN ?_
  refine qp (K.eql rfl rfl) ?_
  refine sn ?_
  refine K.cond rfl (fun ht15 => ?_) (fun ht15 => ?_)
  · try replace ht15 := of_decide_eq_true ht15
    refine K.region_lit ?_
    iterate 2 refine qm ?_
    iterate 2 refine qa ?_
    refine sn ?_
    refine K.seq ?_
    refine K.draw_L [] Tryd_mixed ?_
    refine K.d_pure 0 rfl (K.move) (by kernel_rfl) rfl ?_
    refine zn ?_
    refine K.d_pure 1 rfl (K.move) (by kernel_rfl) rfl ?_
    refine zn ?_
    refine K.d_pure 2 rfl (K.move) (by kernel_rfl) rfl ?_
    refine zn ?_
    refine K.d_pure 3 rfl (K.nilCheck rfl) (by kernel_rfl) rfl ?_
    refine zn ?_
    refine K.d_pure 4 rfl (K.fieldAddr_lit fo_79_1 rfl) (by kernel_rfl) rfl ?_
    refine zn ?_
    refine K.d_pure 5 rfl (K.indexAddr_ar ar_77 rfl rfl (by omega) (by omega)) (by kernel_rfl) rfl ?_
    refine zN ?_
    refine K.d_pure 6 rfl (K.indexAddr_ar ar_76 rfl rfl (by omega) (by omega)) (by kernel_rfl) rfl ?_
    refine zN ?_
    refine K.d_mem 7 rfl (K.load_at one_3 rfl hX.any (by first | exact e1 | exact e2)) (fun _ h => h) (by kernel_rfl) (by kernel_rfl) rfl ?_
    refine zN ?_
    refine K.d_pure 8 rfl (K.neq rfl rfl) (by kernel_rfl) rfl ?_
    refine zn ?_
    refine K.d_pure 9 rfl (K.move) (by kernel_rfl) rfl ?_
    refine zn ?_
    refine K.dsplit 27 rfl (fun hg26 => ?_) (fun hg26 => ?_)
    · try replace hg26 := of_decide_eq_true hg26
      refine K.d_pure 10 rfl (K.move) (by kernel_rfl) rfl ?_
      refine zn ?_
      refine K.d_pure 11 rfl (K.move) (by kernel_rfl) rfl ?_
      refine zn ?_
      refine K.d_pure 13 rfl (K.move) (by kernel_rfl) rfl ?_
      refine zn ?_
      refine K.d_pure 14 rfl (K.move) (by kernel_rfl) rfl ?_
      refine zn ?_
      refine K.d_pure 17 rfl (K.move) (by kernel_rfl) rfl ?_
      refine zn ?_
      refine K.d_pure 18 rfl (K.move) (by kernel_rfl) rfl ?_
      refine zn ?_
      refine K.d_pure 19 rfl (K.move) (by kernel_rfl) rfl ?_
      refine zn ?_
      refine K.d_pure 20 rfl (K.nilCheck rfl) (by kernel_rfl) rfl ?_
      refine zn ?_
      refine K.d_pure 21 rfl (K.fieldAddr_lit fo_79_1 rfl) (by kernel_rfl) rfl ?_
      refine zn ?_
      refine K.d_pure 22 rfl (K.indexAddr_ar ar_77 rfl rfl (by omega) (by omega)) (by kernel_rfl) rfl ?_
      refine zN ?_
      refine K.d_pure 23 rfl (K.indexAddr_ar ar_76 rfl rfl (by omega) (by omega)) (by kernel_rfl) rfl ?_
      refine zN ?_
      refine K.d_mem 24 rfl (K.load_at one_3 rfl hX.any (by first | exact e1 | exact e2)) (fun _ h => h) (by kernel_rfl) (by kernel_rfl) rfl ?_
      refine zN ?_
      refine K.d_call 12 rfl (K.call_g cal_54 (fun F w hF hw => c54 (hX.into hXb hw) (K.lt_into hXb hw) (hR.pass hw) (by assumption))) (fun _ h => h) (by kernel_rfl) rfl ?_
      refine zN ?_
      refine K.d_call 15 rfl (K.call_g cal_54 (fun F w hF hw => c54 (hX.into hXb hw) (K.lt_into hXb hw) (hR.pass hw) (by assumption))) (fun _ h => h) (by kernel_rfl) rfl ?_
      refine zN ?_
      refine K.d_pure 16 rfl (K.sub_i64 rfl rfl (by omega)) (by kernel_rfl) rfl ?_
      refine zn ?_
      refine K.d_pure 25 rfl (K.lss rfl rfl) (by kernel_rfl) rfl ?_
      refine zn ?_
      refine K.d_pure 26 rfl (K.pick_t rfl) (by kernel_rfl) rfl ?_
      refine zn ?_
      refine K.d_pure 27 rfl (K.assign) (by kernel_rfl) rfl ?_
      refine zn ?_
      refine K.d_done (by kernel_rfl) ?_
      refine K.norm_then ?_
      refine K.ret ?_
      refine K.end_ret (fun w _ => K.res_tmp rfl w) ?_
      exact K.gives_b rfl (by unfold conS; rw [if_pos ht15, decide_eq_true hg26]; simp)
    try replace hg26 := of_decide_eq_false hg26
    refine K.d_skip 10 rfl (by kernel_rfl) rfl ?_
    refine zN ?_
    refine K.d_skip 11 rfl (by kernel_rfl) rfl ?_
    refine zN ?_
    refine K.d_skip 12 rfl (by kernel_rfl) rfl ?_
    refine zN ?_
    refine K.d_skip 13 rfl (by kernel_rfl) rfl ?_
    refine zN ?_
    refine K.d_skip 14 rfl (by kernel_rfl) rfl ?_
    refine zN ?_
    refine K.d_skip 15 rfl (by kernel_rfl) rfl ?_
    refine zN ?_
    refine K.d_skip 16 rfl (by kernel_rfl) rfl ?_
    refine zN ?_
    refine K.d_skip 17 rfl (by kernel_rfl) rfl ?_
    refine zN ?_
    refine K.d_skip 18 rfl (by kernel_rfl) rfl ?_
    refine zN ?_
    refine K.d_skip 19 rfl (by kernel_rfl) rfl ?_
    refine zN ?_
    refine K.d_skip 20 rfl (by kernel_rfl) rfl ?_
    refine zN ?_
    refine K.d_skip 21 rfl (by kernel_rfl) rfl ?_
    refine zN ?_
    refine K.d_skip 22 rfl (by kernel_rfl) rfl ?_
    refine zN ?_
    refine K.d_skip 23 rfl (by kernel_rfl) rfl ?_
    refine zN ?_
    refine K.d_skip 24 rfl (by kernel_rfl) rfl ?_
    refine zN ?_
    refine K.d_skip 25 rfl (by kernel_rfl) rfl ?_
    refine zN ?_
    refine K.d_pure 26 rfl (K.pick_f rfl) (by kernel_rfl) rfl ?_
    refine zn ?_
    refine K.d_pure 27 rfl (K.assign) (by kernel_rfl) rfl ?_
    refine zn ?_
    refine K.d_done (by kernel_rfl) ?_
    refine K.norm_then ?_
    refine K.ret ?_
    refine K.end_ret (fun w _ => K.res_tmp rfl w) ?_
    exact K.gives_b rfl (by unfold conS; rw [if_pos ht15, decide_eq_false hg26]; rfl)
  try replace ht15 := of_decide_eq_false ht15
  refine K.skip ?_
  refine K.norm_then ?_
  refine K.seq ?_
  refine K.draw_L [] Tryd_mixed ?_
  refine K.d_pure 0 rfl (K.move) (by kernel_rfl) rfl ?_
  refine zn ?_
  refine K.d_pure 1 rfl (K.move) (by kernel_rfl) rfl ?_
  refine zn ?_
  refine K.d_pure 2 rfl (K.move) (by kernel_rfl) rfl ?_
  refine zn ?_
  refine K.d_pure 3 rfl (K.nilCheck rfl) (by kernel_rfl) rfl ?_
  refine zn ?_
  refine K.d_pure 4 rfl (K.fieldAddr_lit fo_79_1 rfl) (by kernel_rfl) rfl ?_
  refine zn ?_
  refine K.d_pure 5 rfl (K.indexAddr_ar ar_77 rfl rfl (by omega) (by omega)) (by kernel_rfl) rfl ?_
  refine zN ?_
  refine K.d_pure 6 rfl (K.indexAddr_ar ar_76 rfl rfl (by omega) (by omega)) (by kernel_rfl) rfl ?_
  refine zN ?_
  refine K.d_mem 7 rfl (K.load_at one_3 rfl hX.any (by first | exact e1 | exact e2)) (fun _ h => h) (by kernel_rfl) (by kernel_rfl) rfl ?_
  refine zN ?_
  refine K.d_pure 8 rfl (K.neq rfl rfl) (by kernel_rfl) rfl ?_
  refine zn ?_
  refine K.d_pure 9 rfl (K.move) (by kernel_rfl) rfl ?_
  refine zn ?_
  refine K.dsplit 27 rfl (fun hg26 => ?_) (fun hg26 => ?_)
  · try replace hg26 := of_decide_eq_true hg26
    refine K.d_pure 10 rfl (K.move) (by kernel_rfl) rfl ?_
    refine zn ?_
    refine K.d_pure 11 rfl (K.move) (by kernel_rfl) rfl ?_
    refine zn ?_
    refine K.d_pure 13 rfl (K.move) (by kernel_rfl) rfl ?_
    refine zn ?_
    refine K.d_pure 14 rfl (K.move) (by kernel_rfl) rfl ?_
    refine zn ?_
    refine K.d_pure 17 rfl (K.move) (by kernel_rfl) rfl ?_
    refine zn ?_
    refine K.d_pure 18 rfl (K.move) (by kernel_rfl) rfl ?_
    refine zn ?_
    refine K.d_pure 19 rfl (K.move) (by kernel_rfl) rfl ?_
    refine zn ?_
    refine K.d_pure 20 rfl (K.nilCheck rfl) (by kernel_rfl) rfl ?_
    refine zn ?_
    refine K.d_pure 21 rfl (K.fieldAddr_lit fo_79_1 rfl) (by kernel_rfl) rfl ?_
    refine zn ?_
    refine K.d_pure 22 rfl (K.indexAddr_ar ar_77 rfl rfl (by omega) (by omega)) (by kernel_rfl) rfl ?_
    refine zN ?_
    refine K.d_pure 23 rfl (K.indexAddr_ar ar_76 rfl rfl (by omega) (by omega)) (by kernel_rfl) rfl ?_
    refine zN ?_
    refine K.d_mem 24 rfl (K.load_at one_3 rfl hX.any (by first | exact e1 | exact e2)) (fun _ h => h) (by kernel_rfl) (by kernel_rfl) rfl ?_
    refine zN ?_
    refine K.d_call 12 rfl (K.call_g cal_54 (fun F w hF hw => c54 (hX.into hXb hw) (K.lt_into hXb hw) (hR.pass hw) (by assumption))) (fun _ h => h) (by kernel_rfl) rfl ?_
    refine zN ?_
    refine K.d_call 15 rfl (K.call_g cal_54 (fun F w hF hw => c54 (hX.into hXb hw) (K.lt_into hXb hw) (hR.pass hw) (by assumption))) (fun _ h => h) (by kernel_rfl) rfl ?_
    refine zN ?_
    refine K.d_pure 16 rfl (K.sub_i64 rfl rfl (by omega)) (by kernel_rfl) rfl ?_
    refine zn ?_
    refine K.d_pure 25 rfl (K.lss rfl rfl) (by kernel_rfl) rfl ?_
    refine zn ?_
    refine K.d_pure 26 rfl (K.pick_t rfl) (by kernel_rfl) rfl ?_
    refine zn ?_
    refine K.d_pure 27 rfl (K.assign) (by kernel_rfl) rfl ?_
    refine zn ?_
    refine K.d_done (by kernel_rfl) ?_
    refine K.norm_then ?_
    refine K.ret ?_
    refine K.end_ret (fun w _ => K.res_tmp rfl w) ?_
    exact K.gives_b rfl (by unfold conS; rw [if_neg ht15])
  try replace hg26 := of_decide_eq_false hg26
  refine K.d_skip 10 rfl (by kernel_rfl) rfl ?_
  refine zN ?_
  refine K.d_skip 11 rfl (by kernel_rfl) rfl ?_
  refine zN ?_
  refine K.d_skip 12 rfl (by kernel_rfl) rfl ?_
  refine zN ?_
  refine K.d_skip 13 rfl (by kernel_rfl) rfl ?_
  refine zN ?_
  refine K.d_skip 14 rfl (by kernel_rfl) rfl ?_
  refine zN ?_
  refine K.d_skip 15 rfl (by kernel_rfl) rfl ?_
  refine zN ?_
  refine K.d_skip 16 rfl (by kernel_rfl) rfl ?_
  refine zN ?_
  refine K.d_skip 17 rfl (by kernel_rfl) rfl ?_
  refine zN ?_
  refine K.d_skip 18 rfl (by kernel_rfl) rfl ?_
  refine zN ?_
  refine K.d_skip 19 rfl (by kernel_rfl) rfl ?_
  refine zN ?_
  refine K.d_skip 20 rfl (by kernel_rfl) rfl ?_
  refine zN ?_
  refine K.d_skip 21 rfl (by kernel_rfl) rfl ?_
  refine zN ?_
  refine K.d_skip 22 rfl (by kernel_rfl) rfl ?_
  refine zN ?_
  refine K.d_skip 23 rfl (by kernel_rfl) rfl ?_
  refine zN ?_
  refine K.d_skip 24 rfl (by kernel_rfl) rfl ?_
  refine zN ?_
  refine K.d_skip 25 rfl (by kernel_rfl) rfl ?_
  refine zN ?_
  refine K.d_pure 26 rfl (K.pick_f rfl) (by kernel_rfl) rfl ?_
  refine zn ?_
  refine K.d_pure 27 rfl (K.assign) (by kernel_rfl) rfl ?_
  refine zn ?_
  refine K.d_done (by kernel_rfl) ?_
  refine K.norm_then ?_
  refine K.ret ?_
  refine K.end_ret (fun w _ => K.res_tmp rfl w) ?_
  exact absurd (Decidable.not_not.1 hg26) ht15

set_option maxRecDepth 100000 in
theorem c87 {r : List RvT} {A : Option Addr} {c : Nat} {b s : Nat} {w : World} (hX : K.PtrL w [] ⟨b, 0, none⟩ (.slice A r.length c :: dcell (drT r))) (hXb : b < w.heap.size) (hR : K.Rd w A 4 eR r) (g : Good r) (hs : s < 512) :
    Calls Tryd.prog 87 [.pointer (some ⟨b, 0, none⟩), .int .i64 (s : Int)].toArray w (K.Gives (.bool (corS r s)) w) := by
  have hgn := g.n
  refine K.enter (args := [.pointer (some ⟨b, 0, none⟩), .int .i64 (s : Int)]) Tryd.func87 rfl (n := 38) rfl ?_
  simp only [List.replicate, List.cons_append, List.nil_append]
  refine sr ?_
  refine qa ?_
  refine sn ?_
  refine K.seq ?_
  refine sr ?_
  refine qm ?_
  refine qp (K.nilCheck rfl) ?_
  refine qp (K.fieldAddr_lit fo_79_0 rfl) ?_
  refine K.seq_sil (K.load_at one_75 rfl (hX.any) rfl) rfl ?_
  refine zN ?_
  refine qp (K.len_sl sl_75 rfl) ?_
  refine qm ?_
  refine sn ?_
  refine K.block ?_
  refine K.loopW [12] [4, 5, 6, 13, 14, 15, 16, 17, 18, 19, 20, 21, 22, 23, 24, 25, 26, 27, 28, 29, 30, 31, 32, 33, 34, 35, 36, 37, 38, 39] (fun vi L => ∃ i : Nat, vi = [.int .i64 (i : Int)] ∧ L = [] ∧ i ≤ r.length ∧ ∀ j, j < i → corIn r s j = true) (fun vi => r.length - (intOf (K.nth vi 0)).toNat) ?_ ?_
  · exact ⟨0, rfl, rfl, Nat.zero_le _, fun j hj => absurd hj (Nat.not_lt_zero j)⟩
  intro vi vr L hJ
  obtain ⟨i, rfl, rfl, hin, hall⟩ := hJ
  try dsimp only [setd, setn, ev, nth, over, cl, eI, eP, eT, eR, setM, setF, List.map, List.append, List.drop, List.take]
  refine sr ?_
  refine qp (K.lss rfl rfl) ?_
  refine sn ?_
  refine K.seq ?_
  refine K.cond rfl (fun ht13 => ?_) (fun ht13 => ?_)
  · try replace ht13 := of_decide_eq_true ht13
    have hi : i < r.length := by omega
    refine K.skip ?_
    refine K.norm_then ?_
    refine K.seq ?_
    refine K.block ?_
    refine sr ?_
    refine qm ?_
    refine qa ?_
    refine sn ?_
    refine K.seq ?_
    refine sr ?_
    iterate 2 refine qm ?_
    refine qp (K.shr_int rfl rfl (by omega)) ?_
    refine qp (K.Pure.eq (K.and_int rfl rfl) (show _ = Value.int .i64 (if s.testBit i then 1 else 0) from by rw [bit_val hs (by omega)])) ?_
    refine qp (K.Pure.eq (K.eql rfl rfl) (show _ = Value.bool (s.testBit i) from congrArg Value.bool (by cases s.testBit i <;> rfl))) ?_
    refine sn ?_
    refine K.cond rfl (fun ht19 => ?_) (fun ht19 => ?_)
    · try replace ht19 := of_decide_eq_true ht19
      refine K.exit ?_
      refine K.exit_then ?_
      refine K.exit_here ?_
      refine K.norm_then ?_
      refine K.region_lit ?_
      refine qp (K.add_i64 rfl rfl (by omega)) ?_
      refine qm ?_
      refine K.seq_nil ?_
      have hci : corIn r s i = true := by first | exact cor_in1 ht19 | exact cor_in2 ht22 (fun j hj => hcu j (by omega))
      exact K.round_endW (L'' := []) [.int .i64 ((i : Int) + 1)] ⟨i + 1, rfl, rfl, by omega, K.lt_succ_case hall hci⟩ (by simp [K.nth, intOf]; omega) (List.nil_sublist _) (by kernel_rfl)
    try replace ht19 := of_decide_eq_false ht19
    refine K.skip ?_
    refine K.norm_then ?_
    refine K.seq ?_
    refine sr ?_
    iterate 2 refine qm ?_
    refine K.seq_call (K.call_g cal_68 (fun F w hF hw => c68 (hX.into hXb hw) (K.lt_into hXb hw) (hR.pass hw) g hi)) rfl ?_
    refine zN ?_
    refine sn ?_
    refine K.cond rfl (fun ht22 => ?_) (fun ht22 => ?_)
    · try replace ht22 := of_decide_eq_true ht22
      refine sr ?_
      refine qa ?_
      refine sn ?_
      refine K.ret ?_
      refine K.ret_then ?_
      refine K.ret_block ?_
      refine K.ret_then ?_
      refine K.ret_then ?_
      refine K.ret_block ?_
      refine K.ret_then ?_
      refine K.end_ret (fun w _ => K.res_tmp rfl w) ?_
      exact K.gives_b rfl (cor_f hi ht19 ht22).symm
    try replace ht22 := of_decide_eq_false ht22
    refine K.skip ?_
    refine K.norm_then ?_
    refine sr ?_
    iterate 2 refine qm ?_
    refine sn ?_
    refine K.block ?_
    refine K.loopW [24] [4, 6, 25, 26, 27, 28, 29, 30, 31, 32, 33, 34, 35, 36, 37, 38] (fun vi L => ∃ k : Nat, vi = [.int .i64 (k : Int)] ∧ L = [] ∧ k ≤ i ∧ ∀ j, j < k → corAt r s i j = true) (fun vi => i - (intOf (K.nth vi 0)).toNat) ?_ ?_
    · exact ⟨0, rfl, rfl, Nat.zero_le _, fun j hj => absurd hj (Nat.not_lt_zero j)⟩
    intro vi vr L hJ
    obtain ⟨k, rfl, rfl, hki, hcu⟩ := hJ
    try dsimp only [setd, setn, ev, nth, over, cl, eI, eP, eT, eR, setM, setF, List.map, List.append, List.drop, List.take]
    refine sr ?_
    refine qp (K.lss rfl rfl) ?_
    refine sn ?_
    refine K.seq ?_
    refine K.cond rfl (fun ht25 => ?_) (fun ht25 => ?_)
    · try replace ht25 := of_decide_eq_true ht25
      refine K.skip ?_
      refine K.norm_then ?_
      refine K.seq ?_
      refine K.block ?_
      refine sr ?_
      refine qm ?_
      refine qa ?_
      refine sn ?_
      refine sr ?_
      iterate 2 refine qm ?_
      refine qp (K.shr_int rfl rfl (by omega)) ?_
      refine qp (K.Pure.eq (K.and_int rfl rfl) (show _ = Value.int .i64 (if s.testBit k then 1 else 0) from by rw [bit_val hs (by omega)])) ?_
      refine qp (K.Pure.eq (K.eql rfl rfl) (show _ = Value.bool (!s.testBit k) from congrArg Value.bool (by cases s.testBit k <;> rfl))) ?_
      refine qm ?_
      refine K.split 32 rfl (fun hg31 => ?_) (fun hg31 => ?_)
      · try replace hg31 := of_decide_eq_true hg31
        iterate 3 refine qm ?_
        refine K.seq_call (K.call_g cal_71 (fun F w hF hw => c71 (hX.into hXb hw) (K.lt_into hXb hw) (hR.pass hw) g hi (by omega))) rfl ?_
        refine zN ?_
        refine qp (K.pick_t rfl) ?_
        refine sn ?_
        refine K.cond rfl (fun ht37 => ?_) (fun ht37 => ?_)
        · try replace ht37 := of_decide_eq_true ht37
          refine sr ?_
          refine qa ?_
          refine sn ?_
          refine K.ret ?_
          refine K.ret_block ?_
          refine K.ret_then ?_
          refine K.ret_then ?_
          refine K.ret_block ?_
          refine K.ret_block ?_
          refine K.ret_then ?_
          refine K.ret_then ?_
          refine K.ret_block ?_
          refine K.ret_then ?_
          refine K.end_ret (fun w _ => K.res_tmp rfl w) ?_
          exact K.gives_b rfl (cor_f2 hi (by omega) ht19 (by have h := hg31; simpa using h) ht37).symm
        try replace ht37 := of_decide_eq_false ht37
        refine K.skip ?_
        refine K.norm_block ?_
        refine K.norm_then ?_
        refine K.region_lit ?_
        refine qp (K.add_i64 rfl rfl (by omega)) ?_
        refine qm ?_
        refine K.seq_nil ?_
        have hca : corAt r s i k = true := by
          unfold corAt
          first
            | (rw [show conS r i k = false from ht37]; simp)
            | (have h := hg31; simp at h; rw [h]; rfl)
        exact K.round_endW (L'' := []) [.int .i64 ((k : Int) + 1)] ⟨k + 1, rfl, rfl, by omega, K.lt_succ_case hcu hca⟩ (by simp [K.nth, intOf]; omega) (List.nil_sublist _) (by kernel_rfl)
      try replace hg31 := of_decide_eq_false hg31
      iterate 4 refine qs ?_
      refine qp (K.pick_f rfl) ?_
      refine sn ?_
      refine K.cond_false rfl ?_
      refine K.skip ?_
      refine K.norm_block ?_
      refine K.norm_then ?_
      refine K.region_lit ?_
      refine qp (K.add_i64 rfl rfl (by omega)) ?_
      refine qm ?_
      refine K.seq_nil ?_
      have hca : corAt r s i k = true := by
        unfold corAt
        first
          | (rw [show conS r i k = false from ht37]; simp)
          | (have h := hg31; simp at h; rw [h]; rfl)
      exact K.round_endW (L'' := []) [.int .i64 ((k : Int) + 1)] ⟨k + 1, rfl, rfl, by omega, K.lt_succ_case hcu hca⟩ (by simp [K.nth, intOf]; omega) (List.nil_sublist _) (by kernel_rfl)
    try replace ht25 := of_decide_eq_false ht25
    refine K.exit ?_
    refine K.exit_then ?_
    refine K.exit_then ?_
    refine K.exit_here ?_
    refine K.norm_block ?_
    refine K.norm_then ?_
    refine K.region_lit ?_
    refine qp (K.add_i64 rfl rfl (by omega)) ?_
    refine qm ?_
    refine K.seq_nil ?_
    have hci : corIn r s i = true := by first | exact cor_in1 ht19 | exact cor_in2 ht22 (fun j hj => hcu j (by omega))
    exact K.round_endW (L'' := []) [.int .i64 ((i : Int) + 1)] ⟨i + 1, rfl, rfl, by omega, K.lt_succ_case hall hci⟩ (by simp [K.nth, intOf]; omega) (List.nil_sublist _) (by kernel_rfl)
  try replace ht13 := of_decide_eq_false ht13
  refine K.exit ?_
  refine K.exit_then ?_
  refine K.exit_then ?_
  refine K.exit_here ?_
  refine K.norm_then ?_
  refine sr ?_
  refine qa ?_
  refine sn ?_
  refine K.ret ?_
  refine K.end_ret (fun w _ => K.res_tmp rfl w) ?_
  exact K.gives_b rfl (cor_t (fun j hj => hall j (by omega))).symm

set_option maxRecDepth 100000 in
theorem c62 {r : List RvT} {A : Option Addr} {c : Nat} {b : Nat} {w : World} (hX : K.PtrL w [] ⟨b, 0, none⟩ (.slice A r.length c :: dcell (drT r))) (hXb : b < w.heap.size) (hR : K.Rd w A 4 eR r) (g : Good r) :
    Calls Tryd.prog 62 [.pointer (some ⟨b, 0, none⟩)].toArray w (K.RetS 3 1 K.eI (corL r) w) := by
  have hgn := g.n
  have hpw := pow_bd hgn.2
  refine R.enter (args := [.pointer (some ⟨b, 0, none⟩)]) Tryd.func62 rfl (m := 41) rfl ?_
  simp only [List.replicate, List.cons_append, List.nil_append]
  refine R.seq ?_
  refine R.region_lit rfl ?_
  refine qa ?_
  refine K.seq_nil ?_
  refine R.out ?_
  refine R.norm_then ?_
  refine R.scope ?_
  refine R.seq ?_
  refine R.region_lit rfl ?_
  refine qm ?_
  refine qp (K.nilCheck rfl) ?_
  refine qp (K.fieldAddr_lit fo_79_0 rfl) ?_
  refine K.seq_sil (K.load_at one_75 rfl (hX.any) rfl) rfl ?_
  refine zN ?_
  refine qp (K.len_sl sl_75 rfl) ?_
  refine qa ?_
  refine K.seq_nil ?_
  refine R.out ?_
  refine R.norm_then ?_
  refine R.seq ?_
  refine R.label ?_
  refine R.norm_then ?_
  refine R.seq ?_
  refine R.seq ?_
  refine R.region_lit rfl ?_
  refine K.nil_row (e := 3) (size := 1) ?_
  refine qm ?_
  refine qp (K.nilCheck rfl) ?_
  refine qp (K.fieldAddr_lit fo_79_0 rfl) ?_
  refine K.seq_sil (K.load_at one_75 rfl (hX.any) rfl) rfl ?_
  refine zN ?_
  refine qp (K.len_sl sl_75 rfl) ?_
  refine qp (K.Pure.eq (K.shl_int rfl rfl (by omega)) (show _ = Value.int .i64 ((2 ^ r.length : Nat) : Int) from by rw [shl_val hgn.2])) ?_
  refine qm ?_
  refine K.seq_nil ?_
  refine R.out ?_
  refine R.norm_then ?_
  refine R.block ?_
  refine R.loopW [2, 3, 17] [4, 5, 18, 19, 20, 21, 22, 23, 24, 25, 26, 27, 28, 29, 30, 31, 32, 33, 34, 35, 36, 37, 38, 39, 40] (fun vi L => ∃ (s : Nat) (Q1 : Option Addr) (q1 : Nat), vi = [.slice Q1 (corF r s).2.length q1, .int .i64 ((corF r s).1 : Int), .int .i64 (s : Int)] ∧ L = [K.row (.slice Q1 (corF r s).2.length q1) 3 1 (corF r s).2.length ((corF r s).2.flatMap K.eI)] ∧ s ≤ 2 ^ r.length) (fun vi => 2 ^ r.length - (intOf (K.nth vi 2)).toNat) ?_ ?_
  · exact ⟨0, none, 0, rfl, rfl, Nat.zero_le _⟩
  intro vi vr L hJ
  obtain ⟨s, Q1, q1, rfl, rfl, hsn⟩ := hJ
  have hsb := corF_le (r := r) s
  try dsimp only [setd, setn, ev, nth, over, cl, eI, eP, eT, eR, setM, setF, List.map, List.append, List.drop, List.take]
  refine R.seq ?_
  refine R.region_lit rfl ?_
  refine qp (K.lss rfl rfl) ?_
  refine K.seq_nil ?_
  refine R.out ?_
  refine R.norm_then ?_
  refine R.seq ?_
  refine R.cond rfl (fun ht18 => ?_) (fun ht18 => ?_)
  · try replace ht18 := of_decide_eq_true ht18
    have hsb := corF_le (r := r) s
    refine R.skip ?_
    refine R.norm_then ?_
    refine R.seq ?_
    refine R.block ?_
    refine R.seq ?_
    refine R.region_lit rfl ?_
    refine qm ?_
    refine qa ?_
    refine K.seq_nil ?_
    refine R.out ?_
    refine R.norm_then ?_
    refine R.seq ?_
    refine R.region_lit rfl ?_
    refine qm ?_
    refine K.seq_pure (K.Pure.eq (K.conv_int ik_3 ik_108 rfl) (show _ = Value.int .u64 (s : Int) from by rw [IntWalk.u64_in _ (by omega)])) rfl ?_
    refine zN ?_
    refine K.seq_call (K.call_g cal_86 (fun F w hF hw => c86 (by omega) w)) rfl ?_
    refine zN ?_
    refine qa ?_
    refine K.seq_nil ?_
    refine R.out ?_
    refine R.norm_then ?_
    refine R.seq ?_
    refine R.seq ?_
    refine R.region_lit rfl ?_
    iterate 2 refine qm ?_
    refine qp (K.gtr rfl rfl) ?_
    refine qm ?_
    refine K.split 26 rfl (fun hg26 => ?_) (fun hg26 => ?_)
    · try replace hg26 := of_decide_eq_true hg26
      iterate 4 refine qs ?_
      refine qp (K.pick_t rfl) ?_
      refine K.seq_nil ?_
      refine R.out ?_
      refine R.norm_then ?_
      refine R.cond_true rfl ?_
      refine R.exit ?_
      refine R.exit_then ?_
      refine R.exit_here ?_
      refine R.norm_then ?_
      refine R.region_lit rfl ?_
      refine qp (K.add_i64 rfl rfl (by omega)) ?_
      refine qm ?_
      refine K.seq_nil ?_
      refine R.out ?_
      have hcn : corF r (s + 1) = corF r s := corF_skip (by first | exact .inl (by unfold pcS; omega) | exact .inr (by simpa using ht31))
      exact R.round_endW (L'' := [K.row (.slice Q1 (corF r s).2.length q1) 3 1 (corF r s).2.length ((corF r s).2.flatMap K.eI)]) [.slice Q1 (corF r s).2.length q1, .int .i64 ((corF r s).1 : Int), .int .i64 ((s : Int) + 1)] ⟨s + 1, Q1, q1, by rw [hcn]; rfl, by rw [hcn], by omega⟩ (by simp [K.nth, intOf]; omega) (List.Sublist.refl _) (by kernel_rfl)
    try replace hg26 := of_decide_eq_false hg26
    iterate 2 refine qm ?_
    refine K.seq_call (K.call_g cal_87 (fun F w hF hw => c87 (hX.into hXb hw) (K.lt_into hXb hw) (hR.pass hw) g (by omega))) rfl ?_
    refine zN ?_
    first | refine K.seq_pure (K.not_d rfl) rfl ?_ | refine K.seq_pure (K.not_ rfl) rfl ?_
    refine zN ?_
    refine qp (K.pick_f rfl) ?_
    refine K.seq_nil ?_
    refine R.out ?_
    refine R.norm_then ?_
    refine R.cond rfl (fun ht31 => ?_) (fun ht31 => ?_)
    · try replace ht31 := of_decide_eq_true ht31
      refine R.exit ?_
      refine R.exit_then ?_
      refine R.exit_here ?_
      refine R.norm_then ?_
      refine R.region_lit rfl ?_
      refine qp (K.add_i64 rfl rfl (by omega)) ?_
      refine qm ?_
      refine K.seq_nil ?_
      refine R.out ?_
      have hcn : corF r (s + 1) = corF r s := corF_skip (by first | exact .inl (by unfold pcS; omega) | exact .inr (by simpa using ht31))
      exact R.round_endW (L'' := [K.row (.slice Q1 (corF r s).2.length q1) 3 1 (corF r s).2.length ((corF r s).2.flatMap K.eI)]) [.slice Q1 (corF r s).2.length q1, .int .i64 ((corF r s).1 : Int), .int .i64 ((s : Int) + 1)] ⟨s + 1, Q1, q1, by rw [hcn]; rfl, by rw [hcn], by omega⟩ (by simp [K.nth, intOf]; omega) (List.Sublist.refl _) (by kernel_rfl)
    try replace ht31 := of_decide_eq_false ht31
    refine R.skip ?_
    refine R.norm_then ?_
    refine R.seq ?_
    refine R.seq ?_
    refine R.region_lit rfl ?_
    iterate 2 refine qm ?_
    refine qp (K.lss rfl rfl) ?_
    refine K.seq_nil ?_
    refine R.out ?_
    refine R.norm_then ?_
    refine R.cond rfl (fun ht34 => ?_) (fun ht34 => ?_)
    · try replace ht34 := of_decide_eq_true ht34
      refine K.weak (List.Sublist.cons _ (List.Sublist.slnil)) ?_
      refine R.region_lit rfl ?_
      refine K.nil_row (e := 3) (size := 1) ?_
      refine qm ?_
      iterate 2 refine qa ?_
      refine K.seq_nil ?_
      refine R.out ?_
      refine R.norm_then ?_
      refine R.region_lit rfl ?_
      iterate 2 refine qm ?_
      refine K.seq_new (K.buildSlice (bs1 _)) rfl ?_
      intro b38
      refine zN ?_
      refine K.seq_upd (K.append el_26 rfl rfl (K.PtrL.own' (K.m0)) rfl rfl (by decide) (by omega) (by omega) (fun _ _ => K.rp1)) rfl ?_
      rintro ⟨g39, c39⟩ _
      refine zN ?_
      refine qa ?_
      refine K.seq_nil ?_
      refine R.out ?_
      refine R.norm_block ?_
      refine R.norm_then ?_
      refine R.region_lit rfl ?_
      refine qp (K.add_i64 rfl rfl (by omega)) ?_
      refine qm ?_
      refine K.seq_nil ?_
      refine R.out ?_
      have hc1 : ¬ pcS s > (corF r s).1 := by unfold pcS; omega
      have hc2 : corS r s = true := by simpa using ht31
      have hcn : corF r (s + 1) = (pcS s, [(s : Int)]) := corF_new hc1 hc2 (by unfold pcS; omega)
      exact R.round_endW (L'' := [K.row (.slice (some ⟨g39, 0, none⟩) (0 + 1) c39) 3 1 (0 + 1) ([] ++ [.int .i64 (s : Int)])]) [.slice (some ⟨g39, 0, none⟩) (0 + 1) c39, .int .i64 ((pcS s : Nat) : Int), .int .i64 ((s : Int) + 1)] ⟨s + 1, some ⟨g39, 0, none⟩, c39, by rw [hcn]; rfl, by rw [hcn]; rfl, by omega⟩ (by simp [K.nth, intOf]; omega) (List.Sublist.cons _ (List.Sublist.refl _)) (by kernel_rfl)
    try replace ht34 := of_decide_eq_false ht34
    refine R.skip ?_
    refine R.norm_then ?_
    refine R.region_lit rfl ?_
    iterate 2 refine qm ?_
    refine K.seq_new (K.buildSlice (bs1 _)) rfl ?_
    intro b38
    refine zN ?_
    refine K.seq_upd (K.append el_26 rfl rfl (K.PtrL.own' (K.m0)) rfl rfl (by decide) (by omega) (by omega) (fun _ _ => K.rp1)) rfl ?_
    rintro ⟨g39, c39⟩ _
    refine zN ?_
    refine qa ?_
    refine K.seq_nil ?_
    refine R.out ?_
    refine R.norm_block ?_
    refine R.norm_then ?_
    refine R.region_lit rfl ?_
    refine qp (K.add_i64 rfl rfl (by omega)) ?_
    refine qm ?_
    refine K.seq_nil ?_
    refine R.out ?_
    have hc1 : ¬ pcS s > (corF r s).1 := by unfold pcS; omega
    have hc2 : corS r s = true := by simpa using ht31
    have hcn : corF r (s + 1) = ((corF r s).1, (corF r s).2 ++ [(s : Int)]) := corF_more hc1 hc2 (by unfold pcS; omega)
    exact R.round_endW (L'' := [K.row (.slice (some ⟨g39, 0, none⟩) ((corF r s).2.length + 1) c39) 3 1 ((corF r s).2.length + 1) ((corF r s).2.flatMap K.eI ++ [.int .i64 (s : Int)])]) [.slice (some ⟨g39, 0, none⟩) ((corF r s).2.length + 1) c39, .int .i64 ((corF r s).1 : Int), .int .i64 ((s : Int) + 1)] ⟨s + 1, some ⟨g39, 0, none⟩, c39, by rw [hcn]; simp only [List.length_append]; rfl, by rw [hcn]; simp only [List.length_append, List.flatMap_append]; rfl, by omega⟩ (by simp [K.nth, intOf]; omega) (List.Sublist.cons _ (List.Sublist.refl _)) (by kernel_rfl)
  try replace ht18 := of_decide_eq_false ht18
  refine R.exit ?_
  refine R.exit_then ?_
  refine R.exit_then ?_
  refine R.exit_here ?_
  refine R.norm_then ?_
  refine R.seq ?_
  refine R.region_lit rfl ?_
  refine qm ?_
  refine qa ?_
  refine K.seq_nil ?_
  refine R.out ?_
  refine R.norm_then ?_
  refine R.ret ?_
  refine R.ng_ret ?_
  refine R.end_ret (fun w _ => K.res_tmp rfl w) ?_
  have e0 : s = 2 ^ r.length := by omega
  subst e0
  exact K.rets_s K.m0 rfl rfl rfl

set_option maxRecDepth 100000 in
theorem c63 {a b : Int} {w : World} (hT : Tab w) (ha : 0 ≤ a ∧ a ≤ 511) (hb : 0 ≤ b ∧ b ≤ 511) :
    Calls Tryd.prog 63 [.int .i64 a, .int .i64 b].toArray w (K.Gives (.int .i64 (cmpL (bitsL a) (bitsL b))) w) := by
  refine K.enter (args := [.int .i64 a, .int .i64 b]) Tryd.func63 rfl (n := 8) rfl ?_
  simp only [List.replicate, List.cons_append, List.nil_append]
  refine sr ?_
  refine qa ?_
  refine sn ?_
  refine sr ?_
  refine qm ?_
  refine K.seq_loud (K.call_f cal_60 (fun F w hF hw => c60 (hT.pass hw) ha)) rfl ?_
  rintro ⟨Q1, q1⟩ hq1
  refine zN ?_
  refine qm ?_
  refine K.seq_loud (K.call_f cal_60 (fun F w hF hw => c60 (hT.pass hw) hb)) rfl ?_
  rintro ⟨Q2, q2⟩ hq2
  refine zN ?_
  refine K.seq_call (K.call_g cal_64 (fun F w hF hw => (by have hX := (K.Rd.own (e := K.eI) (xs := (bitsL a)) hw (hF _ (K.m1)) hq1 (fun _ => rfl) (by decide)); have hY := (K.Rd.own (e := K.eI) (xs := (bitsL b)) hw (hF _ (K.m0)) hq2 (fun _ => rfl) (by decide)); have := bits_len (x := a); have := bits_len (x := b); exact c64 hX hY (by omega) (by omega)))) rfl ?_
  refine zN ?_
  refine qa ?_
  refine sn ?_
  refine K.ret ?_
  refine K.end_ret (fun w _ => K.res_tmp rfl w) ?_
  exact K.gives rfl

set_option maxRecDepth 100000 in
theorem c61 {Q : Option Addr} {q : Nat} {l : List Int} {w : World} (hT : Tab w) (hL : K.Rd w Q 1 K.eI l) (hl : l.length ≤ 512) (hb : ∀ x ∈ l, 0 ≤ x ∧ x ≤ 511) :
    Calls Tryd.prog 61 [.slice Q l.length q, .func (.func 63) #[] #[]].toArray w (K.Gives (.int .i64 (fstS l l.length)) w) := by
  refine K.enter (args := [.slice Q l.length q, .func (.func 63) #[] #[]]) Tryd.func61 rfl (n := 24) rfl ?_
  simp only [List.replicate, List.cons_append, List.nil_append]
  refine sr ?_
  refine qa ?_
  refine sn ?_
  refine K.seq ?_
  refine sr ?_
  refine qm ?_
  refine qp (K.len_sl sl_26 rfl) ?_
  refine qm ?_
  refine sn ?_
  refine K.block ?_
  refine K.loopW [4, 9] [5, 6, 10, 11, 12, 13, 14, 15, 16, 17, 18, 19, 20, 21, 22, 23, 24] (fun vi L => ∃ k : Nat, vi = [.int .i64 (fstS l k), .int .i64 (k : Int)] ∧ L = [] ∧ k ≤ l.length) (fun vi => l.length - (intOf (K.nth vi 1)).toNat) ?_ ?_
  · exact ⟨0, rfl, rfl, Nat.zero_le _⟩
  intro vi vr L hJ
  obtain ⟨k, rfl, rfl, hkn⟩ := hJ
  try dsimp only [setd, setn, ev, nth, over, cl, eI, eP, eT, eR, setM, setF, List.map, List.append, List.drop, List.take]
  refine sr ?_
  refine qp (K.lss rfl rfl) ?_
  refine sn ?_
  refine K.seq ?_
  refine K.cond rfl (fun ht10 => ?_) (fun ht10 => ?_)
  · try replace ht10 := of_decide_eq_true ht10
    have hk : k < l.length := by omega
    have hxb := hb _ (K.gt_mem hk)
    have hfb := fst_bd hb k hkn
    refine K.skip ?_
    refine K.norm_then ?_
    refine K.seq ?_
    refine K.block ?_
    refine sr ?_
    refine qm ?_
    refine K.seq_ix (M := []) _ hL.sl sl_26 rfl rfl rfl (by omega) rfl ?_
    intro p12 hp12
    refine zN ?_
    refine K.seq_sil (K.load1 one_3 rfl (hp12.any)) rfl ?_
    refine zN ?_
    iterate 2 refine qa ?_
    refine sn ?_
    refine sr ?_
    refine qm ?_
    refine qp (K.eql rfl rfl) ?_
    refine qm ?_
    refine K.split 16 rfl (fun hg16 => ?_) (fun hg16 => ?_)
    · try replace hg16 := of_decide_eq_true hg16
      iterate 5 refine qs ?_
      refine qp (K.pick_t rfl) ?_
      refine sn ?_
      refine K.cond_true rfl ?_
      refine K.region_lit ?_
      refine qm ?_
      refine qa ?_
      refine K.seq_nil ?_
      refine K.norm_block ?_
      refine K.norm_then ?_
      refine K.region_lit ?_
      refine qp (K.add_i64 rfl rfl (by omega)) ?_
      refine qm ?_
      refine K.seq_nil ?_
      have hf : fstS l (k + 1) = l.getD k default := by rw [fstS, if_pos (by omega)]
      exact K.round_endW (L'' := []) [.int .i64 (l.getD k default), .int .i64 ((k : Int) + 1)] ⟨k + 1, by rw [hf]; rfl, rfl, by omega⟩ (by simp [K.nth, intOf]; omega) (List.nil_sublist _) (by kernel_rfl)
    try replace hg16 := of_decide_eq_false hg16
    iterate 3 refine qm ?_
    refine K.seq_call (K.callv_g (first := []) (cap := []) rfl cal_63 (fun F w hF hw => c63 (hT.pass hw) hxb hfb)) rfl ?_
    refine zN ?_
    refine qp (K.lss rfl rfl) ?_
    refine qp (K.pick_f rfl) ?_
    refine sn ?_
    refine K.cond rfl (fun ht22 => ?_) (fun ht22 => ?_)
    · try replace ht22 := of_decide_eq_true ht22
      refine K.region_lit ?_
      refine qm ?_
      refine qa ?_
      refine K.seq_nil ?_
      refine K.norm_block ?_
      refine K.norm_then ?_
      refine K.region_lit ?_
      refine qp (K.add_i64 rfl rfl (by omega)) ?_
      refine qm ?_
      refine K.seq_nil ?_
      have hf : fstS l (k + 1) = l.getD k default := by rw [fstS, if_pos (by omega)]
      exact K.round_endW (L'' := []) [.int .i64 (l.getD k default), .int .i64 ((k : Int) + 1)] ⟨k + 1, by rw [hf]; rfl, rfl, by omega⟩ (by simp [K.nth, intOf]; omega) (List.nil_sublist _) (by kernel_rfl)
    try replace ht22 := of_decide_eq_false ht22
    refine K.skip ?_
    refine K.norm_block ?_
    refine K.norm_then ?_
    refine K.region_lit ?_
    refine qp (K.add_i64 rfl rfl (by omega)) ?_
    refine qm ?_
    refine K.seq_nil ?_
    have hf : fstS l (k + 1) = fstS l k := by rw [fstS, if_neg (by omega)]
    exact K.round_endW (L'' := []) [.int .i64 (fstS l k), .int .i64 ((k : Int) + 1)] ⟨k + 1, by rw [hf]; rfl, rfl, by omega⟩ (by simp [K.nth, intOf]; omega) (List.nil_sublist _) (by kernel_rfl)
  try replace ht10 := of_decide_eq_false ht10
  refine K.exit ?_
  refine K.exit_then ?_
  refine K.exit_then ?_
  refine K.exit_here ?_
  refine K.norm_then ?_
  refine sr ?_
  refine qm ?_
  refine qa ?_
  refine sn ?_
  refine K.ret ?_
  refine K.end_ret (fun w _ => K.res_tmp rfl w) ?_
  have e0 : k = l.length := by omega
  subst e0
  exact K.gives rfl

set_option maxRecDepth 100000 in
theorem e26 {r : List RvT} {A : Option Addr} {c : Nat} {w : World} (hR : K.Rd w A 4 eR r) (hn : r.length ≤ 4611686018427387904) (hc : (chk r).2.2 ≠ 0) :
    Calls Tryd.prog 26 [.slice A r.length c].toArray w (K.RetSE 3 1 K.eI (fewL r) (chk r).2.2 w) := by
  refine K.enter (args := [.slice A r.length c]) Tryd.func26 rfl (n := 17) rfl ?_
  simp only [List.replicate, List.cons_append, List.nil_append]
  refine sr ?_
  iterate 2 refine qa ?_
  refine sn ?_
  refine sr ?_
  refine qm ?_
  refine K.seq_call (K.call_g cal_52 (fun F w hF hw => e52 (hR.pass hw) hn hc)) rfl ?_
  refine zN ?_
  refine qm ?_
  refine qx ?_
  refine qx ?_
  iterate 2 refine qa ?_
  refine sn ?_
  refine K.seq ?_
  refine sr ?_
  refine qm ?_
  refine qp (K.neq rfl rfl) ?_
  refine sn ?_
  refine K.cond_true (by exact congrArg Value.bool (decide_eq_true hc)) ?_
  refine sr ?_
  refine qm ?_
  iterate 2 refine qa ?_
  refine sn ?_
  refine K.ret ?_
  refine K.ret_then ?_
  refine K.end_ret (fun w _ => K.res_tmp2 rfl w) ?_
  exact K.rets_se0 (by unfold fewL; rw [if_pos hc]) rfl rfl

set_option maxRecDepth 100000 in
theorem g26 {r : List RvT} {A : Option Addr} {c : Nat} {w : World} (hR : K.Rd w A 4 eR r) (hn : r.length ≤ 4611686018427387904) (hT : Tab w) (hc : (chk r).2.2 = 0) :
    Calls Tryd.prog 26 [.slice A r.length c].toArray w (K.RetSE 3 1 K.eI (fewL r) (chk r).2.2 w) := by
  have g : Good r := chk_good hc
  have hl : fewL r = bitsL (fstS (corL r) (corL r).length) := by unfold fewL; rw [if_neg (by omega)]
  rw [hl]
  refine K.enter (args := [.slice A r.length c]) Tryd.func26 rfl (n := 17) rfl ?_
  simp only [List.replicate, List.cons_append, List.nil_append]
  refine sr ?_
  iterate 2 refine qa ?_
  refine sn ?_
  refine sr ?_
  refine qm ?_
  refine K.seq_loud (K.call_f cal_52 (fun F w hF hw => g52 (hR.pass hw) hn hc)) rfl ?_
  rintro q _
  refine zN ?_
  refine qm ?_
  refine qx ?_
  refine qx ?_
  iterate 2 refine qa ?_
  refine sn ?_
  refine K.seq ?_
  refine sr ?_
  refine qm ?_
  refine qp (K.neq rfl rfl) ?_
  refine sn ?_
  refine K.cond_false (by rfl) ?_
  refine K.skip ?_
  refine K.norm_then ?_
  refine sr ?_
  refine qm ?_
  refine K.seq_loud (K.call_f cal_62 (fun F w hF hw => c62 (K.PtrL.now hw (hF _ (K.m0))) (K.blk_lt hw (hF _ (K.m0))) (hR.pass hw) g)) rfl ?_
  rintro ⟨Q1, q1⟩ hq1
  refine zN ?_
  refine K.seq_call (K.call_g cal_61 (fun F w hF hw => (by have hL := (K.Rd.own (e := K.eI) (xs := (corL r)) hw (hF _ (K.m0)) hq1 (fun _ => rfl) (by decide)); have := corL_len g; exact c61 (hT.pass hw) hL (by omega) (fun x hx => corL_mem g hx)))) rfl ?_
  refine zN ?_
  refine K.seq_loud (K.call_f cal_60 (fun F w hF hw => c60 (hT.pass hw) (fst_bd (fun x hx => corL_mem g hx) _ (Nat.le_refl _)))) rfl ?_
  rintro ⟨Q2, q2⟩ hq2
  refine zN ?_
  iterate 2 refine qa ?_
  refine sn ?_
  refine K.ret ?_
  refine K.end_ret (fun w _ => K.res_tmp2 rfl w) ?_
  rw [hc]
  exact K.rets_se K.m0 rfl rfl rfl rfl

theorem c26 {r : List RvT} {A : Option Addr} {c : Nat} {w : World} (hR : K.Rd w A 4 eR r) (hn : r.length ≤ 4611686018427387904) (hT : Tab w) : Calls Tryd.prog 26 [.slice A r.length c].toArray w (K.RetSE 3 1 K.eI (fewL r) (chk r).2.2 w) := by
  by_cases hc : (chk r).2.2 = 0
  · exact g26 hR hn hT hc
  · exact e26 hR hn hc


set_option maxRecDepth 100000 in
theorem e28 {r : List RvT} {A : Option Addr} {c : Nat} {w : World} (hR : K.Rd w A 4 eR r) (hn : r.length ≤ 4611686018427387904) (hc : (chk r).2.2 ≠ 0) :
    Calls Tryd.prog 28 [.slice A r.length c].toArray w (Ret2 (mustL r) (mayL r) (chk r).2.2 w) := by
  refine K.enter (args := [.slice A r.length c]) Tryd.func28 rfl (n := 39) rfl ?_
  simp only [List.replicate, List.cons_append, List.nil_append]
  refine sr ?_
  iterate 3 refine qa ?_
  refine sn ?_
  refine sr ?_
  refine qm ?_
  refine K.seq_call (K.call_g cal_52 (fun F w hF hw => e52 (hR.pass hw) hn hc)) rfl ?_
  refine zN ?_
  refine qm ?_
  refine qx ?_
  refine qx ?_
  iterate 2 refine qa ?_
  refine sn ?_
  refine K.seq ?_
  refine sr ?_
  refine qm ?_
  refine qp (K.neq rfl rfl) ?_
  refine sn ?_
  refine K.cond_true (by exact congrArg Value.bool (decide_eq_true hc)) ?_
  refine sr ?_
  refine qm ?_
  iterate 3 refine qa ?_
  refine sn ?_
  refine K.ret ?_
  refine K.ret_then ?_
  refine K.end_ret (fun w _ => K.res_ttt rfl w) ?_
  exact ret2_0 (by unfold mustL; rw [if_pos hc]) (by unfold mayL; rw [if_pos hc]) rfl rfl

set_option maxRecDepth 100000 in
theorem g28 {r : List RvT} {A : Option Addr} {c : Nat} {w : World} (hR : K.Rd w A 4 eR r) (hn : r.length ≤ 4611686018427387904) (hT : Tab w) (hc : (chk r).2.2 = 0) :
    Calls Tryd.prog 28 [.slice A r.length c].toArray w (Ret2 (mustL r) (mayL r) (chk r).2.2 w) := by
  have g : Good r := chk_good hc
  have hgn := g.n
  have hpw := pow_bd hgn.2
  have hcl := corL_len g
  refine K.enter (args := [.slice A r.length c]) Tryd.func28 rfl (n := 39) rfl ?_
  simp only [List.replicate, List.cons_append, List.nil_append]
  refine sr ?_
  iterate 3 refine qa ?_
  refine sn ?_
  refine sr ?_
  refine qm ?_
  refine K.seq_loud (K.call_f cal_52 (fun F w hF hw => g52 (hR.pass hw) hn hc)) rfl ?_
  rintro q _
  refine zN ?_
  refine qm ?_
  refine qx ?_
  refine qx ?_
  iterate 2 refine qa ?_
  refine sn ?_
  refine K.seq ?_
  refine sr ?_
  refine qm ?_
  refine qp (K.neq rfl rfl) ?_
  refine sn ?_
  refine K.cond_false (by rfl) ?_
  refine K.skip ?_
  refine K.norm_then ?_
  refine sr ?_
  refine qm ?_
  refine qp (K.len_sl sl_22 rfl) ?_
  refine qp (K.Pure.eq (K.shl_int rfl rfl (by omega)) (show _ = Value.int .i64 ((2 ^ r.length : Nat) : Int) from by rw [shl_val hgn.2])) ?_
  refine qp (K.Pure.eq (K.sub_i64 rfl rfl (by omega)) (show _ = Value.int .i64 ((allF r.length (corL r) 0 : Nat) : Int) from by unfold allF; rw [Int.natCast_sub hpw.1]; rfl)) ?_
  iterate 2 refine qa ?_
  refine sn ?_
  refine K.seq ?_
  refine sr ?_
  refine qm ?_
  refine K.seq_loud (K.call_f cal_62 (fun F w hF hw => c62 (K.PtrL.now hw (hF _ (K.m0))) (K.blk_lt hw (hF _ (K.m0))) (hR.pass hw) g)) rfl ?_
  rintro ⟨Q1, q1⟩ hq1
  refine zN ?_
  refine qp (K.len_sl sl_26 rfl) ?_
  refine qm ?_
  refine sn ?_
  refine K.block ?_
  refine K.loopW [6, 7, 25] [9, 26, 27, 28, 29, 30, 31, 32, 33, 34, 35] (fun vi L => ∃ k : Nat, vi = [.int .i64 ((allF r.length (corL r) k : Nat) : Int), .int .i64 ((somF (corL r) k : Nat) : Int), .int .i64 (k : Int)] ∧ L = [K.row (.slice Q1 (corL r).length q1) 3 1 (corL r).length ((corL r).flatMap K.eI), K.blk q 79 (.slice A r.length c :: dcell (drT r))] ∧ k ≤ (corL r).length) (fun vi => (corL r).length - (intOf (K.nth vi 2)).toNat) ?_ ?_
  · exact ⟨0, rfl, rfl, Nat.zero_le _⟩
  intro vi vr L hJ
  obtain ⟨k, rfl, rfl, hkn⟩ := hJ
  try dsimp only [setd, setn, ev, nth, over, cl, eI, eP, eT, eR, setM, setF, List.map, List.append, List.drop, List.take]
  refine sr ?_
  refine qp (K.lss rfl rfl) ?_
  refine sn ?_
  refine K.seq ?_
  refine K.cond rfl (fun ht26 => ?_) (fun ht26 => ?_)
  · try replace ht26 := of_decide_eq_true ht26
    have hk : k < (corL r).length := by omega
    have hck := corL_at g hk
    have hab := all_bd (l := (corL r)) hgn.2 k
    have hsb := som_bd (l := (corL r)) (fun x hx => corL_mem g hx) k hkn
    refine K.skip ?_
    refine K.norm_then ?_
    refine K.seq ?_
    refine K.block ?_
    refine sr ?_
    refine K.seq_ix (M := [K.row (.slice Q1 (corL r).length q1) 3 1 (corL r).length ((corL r).flatMap K.eI)]) _ (K.Sl.own (w0 := w) (t := 3) (c := q1) (e := K.eI) hq1 (fun _ => rfl)) sl_26 rfl rfl rfl (by omega) rfl ?_
    intro p27 hp27
    refine zN ?_
    refine K.seq_sil (K.load1 one_3 rfl (hp27.at1 K.m0)) rfl ?_
    refine zN ?_
    refine qa ?_
    refine sn ?_
    refine sr ?_
    iterate 2 refine qm ?_
    refine qp (K.Pure.eq (K.and_int rfl rfl) (show _ = Value.int .i64 ((allF r.length (corL r) (k + 1) : Nat) : Int) from by rw [allF, ← and_nat (by omega) (by omega), Int.toNat_of_nonneg hck.1])) ?_
    refine qa ?_
    refine sn ?_
    refine K.region_lit ?_
    iterate 2 refine qm ?_
    refine qp (K.Pure.eq (K.or_int rfl rfl) (show _ = Value.int .i64 ((somF (corL r) (k + 1) : Nat) : Int) from by rw [somF, ← or_nat (by omega) (by omega), Int.toNat_of_nonneg hck.1])) ?_
    refine qa ?_
    refine K.seq_nil ?_
    refine K.norm_block ?_
    refine K.norm_then ?_
    refine K.region_lit ?_
    refine qp (K.add_i64 rfl rfl (by omega)) ?_
    refine qm ?_
    refine K.seq_nil ?_
    exact K.round_endW (L'' := [K.row (.slice Q1 (corL r).length q1) 3 1 (corL r).length ((corL r).flatMap K.eI), K.blk q 79 (.slice A r.length c :: dcell (drT r))]) [.int .i64 ((allF r.length (corL r) (k + 1) : Nat) : Int), .int .i64 ((somF (corL r) (k + 1) : Nat) : Int), .int .i64 ((k : Int) + 1)] ⟨k + 1, rfl, rfl, by omega⟩ (by simp [K.nth, intOf]; omega) (List.Sublist.refl _) (by kernel_rfl)
  try replace ht26 := of_decide_eq_false ht26
  refine K.exit ?_
  refine K.exit_then ?_
  refine K.exit_then ?_
  refine K.exit_here ?_
  refine K.norm_then ?_
  refine K.seq ?_
  have e0 : k = (corL r).length := by omega
  subst e0
  refine K.region_lit ?_
  refine qm ?_
  refine K.seq_loud (K.call_f cal_60 (fun F w hF hw => c60 (hT.pass hw) (by have := all_bd (l := (corL r)) hgn.2 (corL r).length; omega))) rfl ?_
  rintro ⟨Q2, q2⟩ hq2
  refine zN ?_
  refine qm ?_
  refine K.seq_loud (K.call_f cal_60 (fun F w hF hw => c60 (hT.pass hw) (by have := som_bd (l := (corL r)) (fun x hx => corL_mem g hx) _ (Nat.le_refl _); omega))) rfl ?_
  rintro ⟨Q3, q3⟩ hq3
  refine zN ?_
  iterate 3 refine qa ?_
  refine sn ?_
  refine K.ret ?_
  refine K.end_ret (fun w _ => K.res_ttt rfl w) ?_
  have hl1 : mustL r = bitsL ((allF r.length (corL r) (corL r).length : Nat) : Int) := by unfold mustL; rw [if_neg (by omega)]
  have hl2 : mayL r = bitsL ((somF (corL r) (corL r).length : Nat) : Int) := by unfold mayL; rw [if_neg (by omega)]
  rw [hl1, hl2, hc]
  exact ret2 hq2 hq3 (List.Sublist.cons_cons _ (List.Sublist.cons_cons _ (List.nil_sublist _))) rfl

theorem c28 {r : List RvT} {A : Option Addr} {c : Nat} {w : World} (hR : K.Rd w A 4 eR r) (hn : r.length ≤ 4611686018427387904) (hT : Tab w) : Calls Tryd.prog 28 [.slice A r.length c].toArray w (Ret2 (mustL r) (mayL r) (chk r).2.2 w) := by
  by_cases hc : (chk r).2.2 = 0
  · exact g28 hR hn hT hc
  · exact e28 hR hn hc


end Go.Proofs.YtoemnobfnnjopaaDoor
