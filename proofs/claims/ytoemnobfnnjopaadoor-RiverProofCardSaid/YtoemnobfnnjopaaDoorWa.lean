/-
  Walks of the program's functions, printed by program: what each returns.
  Conditions stand in each theorem.
-/
import Derived.Test.YtoemnobfnnjopaaDoorKf
import Derived.WalkArith
import Derived.Laws.Closers25b
import Derived.Test.YtoemnobfnnjopaaDoorS2
set_option linter.unusedSimpArgs false
set_option linter.unusedVariables false
namespace Go.Proofs.YtoemnobfnnjopaaDoor
open Go.RowKit Go
open Go.K (setd setn ev nth over cl eI eP eT setM setF)
attribute [local irreducible] K.blk K.row
theorem bs1 (a : Int) : K.Bs Tryd.prog 26 1 [(0, .int .i64 a)] 3 [.int .i64 a] := fun w => by kernel_rfl
theorem bs2 (a b : Int) : K.Bs Tryd.prog 26 2 [(0, .int .i64 a), (1, .int .i64 b)] 3 [.int .i64 a, .int .i64 b] := fun w => by kernel_rfl

set_option maxRecDepth 100000 in
theorem c49 {n a b : Int} (w : World) :
    Calls Tryd.prog 49 [.int .i64 n, .int .i64 a, .int .i64 b].toArray w (K.Gives (.bool (decide (a ≤ n ∧ n ≤ b))) w) := by
  refine K.enter (args := [.int .i64 n, .int .i64 a, .int .i64 b]) Tryd.func49 rfl (n := 12) rfl ?_
  simp only [List.replicate, List.cons_append, List.nil_append]
  refine sr ?_
  refine qa ?_
  refine sn ?_
  refine sr ?_
  iterate 2 refine qm ?_
  refine qp (K.geq rfl rfl) ?_
  refine qm ?_
  refine K.split 10 rfl (fun hg10 => ?_) (fun hg10 => ?_)
  · try replace hg10 := of_decide_eq_true hg10
    iterate 2 refine qm ?_
    refine qp (K.leq rfl rfl) ?_
    refine qp (K.pick_t rfl) ?_
    refine qa ?_
    refine sn ?_
    refine K.ret ?_
    refine K.end_ret (fun w _ => K.res_tmp rfl w) ?_
    exact K.gives_b rfl (by rw [eq_comm, decide_eq_decide.2 (by omega : (a ≤ n ∧ n ≤ b) ↔ n ≤ b)])
  try replace hg10 := of_decide_eq_false hg10
  iterate 3 refine qs ?_
  refine qp (K.pick_f rfl) ?_
  refine qa ?_
  refine sn ?_
  refine K.ret ?_
  refine K.end_ret (fun w _ => K.res_tmp rfl w) ?_
  exact K.gives_b rfl (by rw [eq_comm, decide_eq_false_iff_not]; omega)

set_option maxRecDepth 100000 in
theorem c96 {n a b : Int} (w : World) :
    Calls Tryd.prog 96 [.int .i64 n, .int .i64 a, .int .i64 b].toArray w (K.Gives (.bool (decide (a ≤ n ∧ n ≤ b))) w) := by
  refine K.enter (args := [.int .i64 n, .int .i64 a, .int .i64 b]) Tryd.func96 rfl (n := 12) rfl ?_
  simp only [List.replicate, List.cons_append, List.nil_append]
  refine sr ?_
  refine qa ?_
  refine sn ?_
  refine sr ?_
  iterate 2 refine qm ?_
  refine qp (K.geq rfl rfl) ?_
  refine qm ?_
  refine K.split 10 rfl (fun hg10 => ?_) (fun hg10 => ?_)
  · try replace hg10 := of_decide_eq_true hg10
    iterate 2 refine qm ?_
    refine qp (K.leq rfl rfl) ?_
    refine qp (K.pick_t rfl) ?_
    refine qa ?_
    refine sn ?_
    refine K.ret ?_
    refine K.end_ret (fun w _ => K.res_tmp rfl w) ?_
    exact K.gives_b rfl (by rw [eq_comm, decide_eq_decide.2 (by omega : (a ≤ n ∧ n ≤ b) ↔ n ≤ b)])
  try replace hg10 := of_decide_eq_false hg10
  iterate 3 refine qs ?_
  refine qp (K.pick_f rfl) ?_
  refine qa ?_
  refine sn ?_
  refine K.ret ?_
  refine K.end_ret (fun w _ => K.res_tmp rfl w) ?_
  exact K.gives_b rfl (by rw [eq_comm, decide_eq_false_iff_not]; omega)

set_option maxRecDepth 100000 in
theorem c81 {n lo hi : Int} {p q : Addr} {w : World} (hp : w.cell? p = some (.int .i64 lo)) (hq : w.cell? q = some (.int .i64 hi)) :
    Calls Tryd.prog 81 [.int .i64 n, .pointer (some p), .pointer (some q)].toArray w (K.Gives (.bool (decide (n < lo) || decide (n > hi))) w) := by
  refine K.enter (args := [.int .i64 n, .pointer (some p), .pointer (some q)]) Tryd.func81 rfl (n := 10) rfl ?_
  simp only [List.replicate, List.cons_append, List.nil_append]
  refine sr ?_
  refine qa ?_
  refine sn ?_
  refine sr ?_
  refine qm ?_
  refine K.seq_sil (K.load1 one_3 rfl ((K.PtrL.cell1 hp).any)) rfl ?_
  refine zN ?_
  refine qp (K.lss rfl rfl) ?_
  refine qm ?_
  refine K.split 8 rfl (fun hg8 => ?_) (fun hg8 => ?_)
  · try replace hg8 := of_decide_eq_true hg8
    iterate 3 refine qs ?_
    refine qp (K.pick_t rfl) ?_
    refine qa ?_
    refine sn ?_
    refine K.ret ?_
    refine K.end_ret (fun w _ => K.res_tmp rfl w) ?_
    exact K.gives_b rfl (by simp [hg8])
  try replace hg8 := of_decide_eq_false hg8
  refine qm ?_
  refine K.seq_sil (K.load1 one_3 rfl ((K.PtrL.cell1 hq).any)) rfl ?_
  refine zN ?_
  refine qp (K.gtr rfl rfl) ?_
  refine qp (K.pick_f rfl) ?_
  refine qa ?_
  refine sn ?_
  refine K.ret ?_
  refine K.end_ret (fun w _ => K.res_tmp rfl w) ?_
  exact K.gives_b rfl (by simp [hg8])

set_option maxRecDepth 100000 in
theorem c91 {A : Option Addr} {c f : Nat} {cap : List Value} {xs : List Int} {p : Int → Bool} {w : World} (hR : K.Rd w A 1 K.eI xs) (hn : xs.length ≤ 4611686018427387904) (hcal : K.callable Tryd.prog f = true) (hf : ∀ x ∈ xs, ∀ w1, Below w.heap.size w w1 → Calls Tryd.prog f ([Value.int .i64 x] ++ cap).toArray w1 (K.Gives (.bool (p x)) w1)) :
    Calls Tryd.prog 91 [.slice A xs.length c, .func (.func f) #[] cap.toArray].toArray w (K.Gives (.int .i64 (K.idx p xs)) w) := by
  refine K.enter (args := [.slice A xs.length c, .func (.func f) #[] cap.toArray]) Tryd.func91 rfl (n := 17) rfl ?_
  simp only [List.replicate, List.cons_append, List.nil_append]
  refine sr ?_
  refine qa ?_
  refine sn ?_
  refine K.seq ?_
  refine sr ?_
  refine qm ?_
  refine qp (K.len_sl sl_26 rfl) ?_
  refine qm ?_
  refine sn ?_
  refine K.block ?_
  refine K.loopW [8] [4, 5, 9, 10, 11, 12, 13, 14, 15, 16, 17, 18] (fun vi L => ∃ k : Nat, vi = [.int .i64 (k : Int)] ∧ L = [] ∧ k ≤ xs.length ∧ ∀ j, j < k → p (xs.getD j default) = false) (fun vi => xs.length - (intOf (K.nth vi 0)).toNat) ?_ ?_
  · exact ⟨0, rfl, rfl, Nat.zero_le _, fun j hj => absurd hj (Nat.not_lt_zero j)⟩
  intro vi vr L hJ
  obtain ⟨k, rfl, rfl, hkn, hall⟩ := hJ
  try dsimp only [setd, setn, ev, nth, over, cl, eI, eP, eT, eR, setM, setF, List.map, List.append, List.drop, List.take]
  refine sr ?_
  refine qp (K.lss rfl rfl) ?_
  refine sn ?_
  refine K.seq ?_
  refine K.cond rfl (fun ht9 => ?_) (fun ht9 => ?_)
  · try replace ht9 := of_decide_eq_true ht9
    have hk : k < xs.length := by omega
    refine K.skip ?_
    refine K.norm_then ?_
    refine K.seq ?_
    refine K.block ?_
    refine sr ?_
    refine qm ?_
    refine qa ?_
    refine sn ?_
    refine sr ?_
    iterate 3 refine qm ?_
    refine K.seq_ix (M := []) _ hR.sl sl_26 rfl rfl rfl (by omega) rfl ?_
    intro p14 hp14
    refine zN ?_
    refine K.seq_sil (K.load1 one_3 rfl (hp14.any)) rfl ?_
    refine zN ?_
    refine K.seq_call (K.callv_g (first := []) (cap := cap) rfl hcal (fun F w1 _ hw => hf _ (K.gt_mem hk) w1 hw.1)) rfl ?_
    refine zN ?_
    refine sn ?_
    refine K.cond rfl (fun ht16 => ?_) (fun ht16 => ?_)
    · try replace ht16 := of_decide_eq_true ht16
      refine sr ?_
      refine qm ?_
      refine qa ?_
      refine sn ?_
      refine K.ret ?_
      refine K.ret_block ?_
      refine K.ret_then ?_
      refine K.ret_then ?_
      refine K.ret_block ?_
      refine K.ret_then ?_
      refine K.end_ret (fun w _ => K.res_tmp rfl w) ?_
      exact K.gives_i rfl (K.idx_found hk hall ht16).symm
    try replace ht16 := of_decide_eq_false ht16
    refine K.skip ?_
    refine K.norm_block ?_
    refine K.norm_then ?_
    refine K.region_lit ?_
    refine qp (K.add_i64 rfl rfl (by omega)) ?_
    refine qm ?_
    refine K.seq_nil ?_
    exact K.round_endW [.int .i64 ((k : Int) + 1)] ⟨k + 1, rfl, rfl, by omega, K.lt_succ_case hall ht16⟩ (by simp [K.nth, intOf]; omega) (List.Sublist.refl _) (by kernel_rfl)
  try replace ht9 := of_decide_eq_false ht9
  refine K.exit ?_
  refine K.exit_then ?_
  refine K.exit_then ?_
  refine K.exit_here ?_
  refine K.norm_then ?_
  refine sr ?_
  refine qa ?_
  refine sn ?_
  refine K.ret ?_
  refine K.end_ret (fun w _ => K.res_tmp rfl w) ?_
  exact K.gives_i rfl (K.idx_none (fun j hj => hall j (by omega))).symm

set_option maxRecDepth 100000 in
theorem c69 {A : Option Addr} {c f : Nat} {cap : List Value} {xs : List Int} {p : Int → Bool} {w : World} (hR : K.Rd w A 1 K.eI xs) (hn : xs.length ≤ 4611686018427387904) (hcal : K.callable Tryd.prog f = true) (hf : ∀ x ∈ xs, ∀ w1, Below w.heap.size w w1 → Calls Tryd.prog f ([Value.int .i64 x] ++ cap).toArray w1 (K.Gives (.bool (p x)) w1)) :
    Calls Tryd.prog 69 [.slice A xs.length c, .func (.func f) #[] cap.toArray].toArray w (K.Gives (.bool (xs.any p)) w) := by
  refine K.enter (args := [.slice A xs.length c, .func (.func f) #[] cap.toArray]) Tryd.func69 rfl (n := 7) rfl ?_
  simp only [List.replicate, List.cons_append, List.nil_append]
  refine sr ?_
  refine qa ?_
  refine sn ?_
  refine sr ?_
  iterate 2 refine qm ?_
  refine K.seq_call (K.call_g cal_91 (fun F w hF hw => c91 (p := p) (cap := cap) (hR.pass hw) hn hcal (fun x hx w1 hb => hf x hx w1 (hw.1.trans (hb.mono hw.1.size))))) rfl ?_
  refine zN ?_
  refine qp (K.geq rfl rfl) ?_
  refine qa ?_
  refine sn ?_
  refine K.ret ?_
  refine K.end_ret (fun w _ => K.res_tmp rfl w) ?_
  exact K.gives_b rfl K.idx_ge

set_option maxRecDepth 100000 in
theorem c46 {lo hi : Int} {A : Option Addr} {c : Nat} {xs : List Int} {w : World} (hR : K.Rd w A 1 K.eI xs) (hn : xs.length ≤ 4611686018427387904) :
    Calls Tryd.prog 46 [.int .i64 lo, .int .i64 hi, .slice A xs.length c].toArray w (K.Gives (.bool (outB lo hi xs)) w) := by
  refine K.enter (args := [.int .i64 lo, .int .i64 hi, .slice A xs.length c]) Tryd.func46 rfl (n := 7) rfl ?_
  simp only [List.replicate, List.cons_append, List.nil_append]
  refine sr ?_
  refine K.seq_new (K.box) rfl ?_
  intro b3
  refine zN ?_
  refine K.seq_new (K.box) rfl ?_
  intro b4
  refine zN ?_
  refine qa ?_
  refine sn ?_
  refine sr ?_
  refine qm ?_
  refine K.seq_pure (K.mkFunc) rfl ?_
  refine zN ?_
  refine K.seq_call (K.call_g cal_69 (fun F w hF hw => c69 (cap := [.pointer (some ⟨b3, 0, none⟩), .pointer (some ⟨b4, 0, none⟩)]) (hR.pass hw) hn cal_81 (fun x _ w1 hb => c81 (K.cell_later hw (hF _ (K.m1)) rfl hb) (K.cell_later hw (hF _ (K.m0)) rfl hb)))) rfl ?_
  refine zN ?_
  refine qa ?_
  refine sn ?_
  refine K.ret ?_
  refine K.end_ret (fun w _ => K.res_tmp rfl w) ?_
  exact K.gives rfl

theorem c46_1 {lo hi x : Int} {w0 w : World} {F : List K.Chunk} {b : Nat} (hw : K.St w0 F w) (hm : K.blk b 3 [.int .i64 x] ∈ F) :
    Calls Tryd.prog 46 [.int .i64 lo, .int .i64 hi, .slice (some ⟨b, 0, none⟩) 1 1].toArray w (K.Gives (.bool (decide (¬ (lo ≤ x ∧ x ≤ hi)))) w) := by
  have h := c46 (lo := lo) (hi := hi) (c := 1) (xs := [x]) (K.Rd.lit hw hm (fun _ => rfl) (by decide) rfl) (by simp)
  have e : outB lo hi [x] = decide (¬ (lo ≤ x ∧ x ≤ hi)) := by
    rw [Bool.eq_iff_iff]; simp [outB]
    try omega
  rw [e] at h
  exact h
theorem c46_2 {lo hi x y : Int} {w0 w : World} {F : List K.Chunk} {b : Nat} (hw : K.St w0 F w) (hm : K.blk b 3 [.int .i64 x, .int .i64 y] ∈ F) :
    Calls Tryd.prog 46 [.int .i64 lo, .int .i64 hi, .slice (some ⟨b, 0, none⟩) 2 2].toArray w (K.Gives (.bool (decide (¬ ((lo ≤ x ∧ x ≤ hi) ∧ (lo ≤ y ∧ y ≤ hi))))) w) := by
  have h := c46 (lo := lo) (hi := hi) (c := 2) (xs := [x, y]) (K.Rd.lit hw hm (fun _ => rfl) (by decide) rfl) (by simp)
  have e : outB lo hi [x, y] = decide (¬ ((lo ≤ x ∧ x ≤ hi) ∧ (lo ≤ y ∧ y ≤ hi))) := by
    rw [Bool.eq_iff_iff]; simp [outB]; omega
  rw [e] at h
  exact h


end Go.Proofs.YtoemnobfnnjopaaDoor
