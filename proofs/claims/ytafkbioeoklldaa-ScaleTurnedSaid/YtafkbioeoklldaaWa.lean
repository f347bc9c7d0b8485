/-
  Walks of the program's functions, printed by program: what each returns.
  Conditions stand in each theorem.
-/
import Derived.Test.YtafkbioeoklldaaKf
import Derived.Test.YtafkbioeoklldaaK2
import Derived.WalkArith
import Derived.Test.YtafkbioeoklldaaS1
set_option linter.unusedSimpArgs false
set_option linter.unusedVariables false
namespace Go.Proofs.Ytafkbioeoklldaa
open Go.RowKit Go
open Go.K (setd setn ev nth over cl eI eP eT setM setF)
attribute [local irreducible] K.blk K.row
theorem bs1 (a : Int) : K.Bs Try.prog 22 1 [(0, .int .i64 a)] 3 [.int .i64 a] := fun w => by kernel_rfl
theorem bs2 (a b : Int) : K.Bs Try.prog 22 2 [(0, .int .i64 a), (1, .int .i64 b)] 3 [.int .i64 a, .int .i64 b] := fun w => by kernel_rfl
theorem bl27 (a b : Int) : K.Bl Try.prog 27 [(0, .int .i64 a), (1, .int .i64 b)] (.agg #[.int .i64 a, .int .i64 b]) := fun w => by kernel_rfl
theorem bl51 (a b : Int) : K.Bl Try.prog 51 [(0, .int .i64 a), (1, .int .i64 b)] (.agg #[.int .i64 a, .int .i64 b]) := fun w => by kernel_rfl
theorem bl53 (p a b : Int) : K.Bl Try.prog 53 [(0, .int .i64 p), (1, .agg #[.int .i64 a, .int .i64 b])] (.agg #[.int .i64 p, .int .i64 a, .int .i64 b]) := fun w => by kernel_rfl

set_option maxRecDepth 100000 in
theorem c57 {n a b : Int} (w : World) :
    Calls Try.prog 57 [.int .i64 n, .int .i64 a, .int .i64 b].toArray w (K.Gives (.bool (decide (a ≤ n ∧ n ≤ b))) w) := by
  refine K.enter (args := [.int .i64 n, .int .i64 a, .int .i64 b]) Try.func57 rfl (n := 12) rfl ?_
  simp only [List.replicate, List.cons_append, List.nil_append]
  refine K.seq ?_
  refine K.region_lit ?_
  refine K.seq_pure (K.assign) rfl ?_
  dsimp only [setd, setn, ev, nth]
  refine K.seq_nil ?_
  refine K.norm_then ?_
  refine K.seq ?_
  refine K.region_lit ?_
  refine K.seq_pure (K.move) rfl ?_
  dsimp only [setd, setn, ev, nth]
  refine K.seq_pure (K.move) rfl ?_
  dsimp only [setd, setn, ev, nth]
  refine K.seq_pure (K.geq rfl rfl) rfl ?_
  dsimp only [setd, setn, ev, nth]
  refine K.seq_pure (K.move) rfl ?_
  dsimp only [setd, setn, ev, nth]
  refine K.split 10 rfl (fun hg10 => ?_) (fun hg10 => ?_)
  · try replace hg10 := of_decide_eq_true hg10
    refine K.seq_pure (K.move) rfl ?_
    dsimp only [setd, setn, ev, nth]
    refine K.seq_pure (K.move) rfl ?_
    dsimp only [setd, setn, ev, nth]
    refine K.seq_pure (K.leq rfl rfl) rfl ?_
    dsimp only [setd, setn, ev, nth]
    refine K.seq_pure (K.pick_t rfl) rfl ?_
    dsimp only [setd, setn, ev, nth]
    refine K.seq_pure (K.assign) rfl ?_
    dsimp only [setd, setn, ev, nth]
    refine K.seq_nil ?_
    refine K.norm_then ?_
    refine K.ret ?_
    refine K.end_ret (fun w _ => K.res_tmp rfl w) ?_
    exact K.gives_b rfl (by rw [eq_comm, decide_eq_decide.2 (by omega : (a ≤ n ∧ n ≤ b) ↔ n ≤ b)])
  try replace hg10 := of_decide_eq_false hg10
  refine K.seq_skip ?_ ?_
  · rfl
  try dsimp only [setd, setn, ev, nth, over, cl, eI, eP, eT, List.map, List.append, List.drop, List.take]
  refine K.seq_skip ?_ ?_
  · rfl
  try dsimp only [setd, setn, ev, nth, over, cl, eI, eP, eT, List.map, List.append, List.drop, List.take]
  refine K.seq_skip ?_ ?_
  · rfl
  try dsimp only [setd, setn, ev, nth, over, cl, eI, eP, eT, List.map, List.append, List.drop, List.take]
  refine K.seq_pure (K.pick_f rfl) rfl ?_
  dsimp only [setd, setn, ev, nth]
  refine K.seq_pure (K.assign) rfl ?_
  dsimp only [setd, setn, ev, nth]
  refine K.seq_nil ?_
  refine K.norm_then ?_
  refine K.ret ?_
  refine K.end_ret (fun w _ => K.res_tmp rfl w) ?_
  exact K.gives_b rfl (by rw [eq_comm, decide_eq_false_iff_not]; omega)

set_option maxRecDepth 100000 in
theorem c104 {n a b : Int} (w : World) :
    Calls Try.prog 104 [.int .i64 n, .int .i64 a, .int .i64 b].toArray w (K.Gives (.bool (decide (a ≤ n ∧ n ≤ b))) w) := by
  refine K.enter (args := [.int .i64 n, .int .i64 a, .int .i64 b]) Try.func104 rfl (n := 12) rfl ?_
  simp only [List.replicate, List.cons_append, List.nil_append]
  refine K.seq ?_
  refine K.region_lit ?_
  refine K.seq_pure (K.assign) rfl ?_
  dsimp only [setd, setn, ev, nth]
  refine K.seq_nil ?_
  refine K.norm_then ?_
  refine K.seq ?_
  refine K.region_lit ?_
  refine K.seq_pure (K.move) rfl ?_
  dsimp only [setd, setn, ev, nth]
  refine K.seq_pure (K.move) rfl ?_
  dsimp only [setd, setn, ev, nth]
  refine K.seq_pure (K.geq rfl rfl) rfl ?_
  dsimp only [setd, setn, ev, nth]
  refine K.seq_pure (K.move) rfl ?_
  dsimp only [setd, setn, ev, nth]
  refine K.split 10 rfl (fun hg10 => ?_) (fun hg10 => ?_)
  · try replace hg10 := of_decide_eq_true hg10
    refine K.seq_pure (K.move) rfl ?_
    dsimp only [setd, setn, ev, nth]
    refine K.seq_pure (K.move) rfl ?_
    dsimp only [setd, setn, ev, nth]
    refine K.seq_pure (K.leq rfl rfl) rfl ?_
    dsimp only [setd, setn, ev, nth]
    refine K.seq_pure (K.pick_t rfl) rfl ?_
    dsimp only [setd, setn, ev, nth]
    refine K.seq_pure (K.assign) rfl ?_
    dsimp only [setd, setn, ev, nth]
    refine K.seq_nil ?_
    refine K.norm_then ?_
    refine K.ret ?_
    refine K.end_ret (fun w _ => K.res_tmp rfl w) ?_
    exact K.gives_b rfl (by rw [eq_comm, decide_eq_decide.2 (by omega : (a ≤ n ∧ n ≤ b) ↔ n ≤ b)])
  try replace hg10 := of_decide_eq_false hg10
  refine K.seq_skip ?_ ?_
  · rfl
  try dsimp only [setd, setn, ev, nth, over, cl, eI, eP, eT, List.map, List.append, List.drop, List.take]
  refine K.seq_skip ?_ ?_
  · rfl
  try dsimp only [setd, setn, ev, nth, over, cl, eI, eP, eT, List.map, List.append, List.drop, List.take]
  refine K.seq_skip ?_ ?_
  · rfl
  try dsimp only [setd, setn, ev, nth, over, cl, eI, eP, eT, List.map, List.append, List.drop, List.take]
  refine K.seq_pure (K.pick_f rfl) rfl ?_
  dsimp only [setd, setn, ev, nth]
  refine K.seq_pure (K.assign) rfl ?_
  dsimp only [setd, setn, ev, nth]
  refine K.seq_nil ?_
  refine K.norm_then ?_
  refine K.ret ?_
  refine K.end_ret (fun w _ => K.res_tmp rfl w) ?_
  exact K.gives_b rfl (by rw [eq_comm, decide_eq_false_iff_not]; omega)

set_option maxRecDepth 100000 in
theorem c84 {n lo hi : Int} {p q : Addr} {w : World} (hp : w.cell? p = some (.int .i64 lo)) (hq : w.cell? q = some (.int .i64 hi)) :
    Calls Try.prog 84 [.int .i64 n, .pointer (some p), .pointer (some q)].toArray w (K.Gives (.bool (decide (n < lo) || decide (n > hi))) w) := by
  refine K.enter (args := [.int .i64 n, .pointer (some p), .pointer (some q)]) Try.func84 rfl (n := 10) rfl ?_
  simp only [List.replicate, List.cons_append, List.nil_append]
  refine K.seq ?_
  refine K.region_lit ?_
  refine K.seq_pure (K.assign) rfl ?_
  dsimp only [setd, setn, ev, nth]
  refine K.seq_nil ?_
  refine K.norm_then ?_
  refine K.seq ?_
  refine K.region_lit ?_
  refine K.seq_pure (K.move) rfl ?_
  dsimp only [setd, setn, ev, nth]
  refine K.seq_sil (K.load1 one_3 rfl ((K.PtrL.cell1 hp).any)) rfl ?_
  try dsimp only [setd, setn, ev, nth, over, cl, eI, eP, eT, List.map, List.append, List.drop, List.take]
  refine K.seq_pure (K.lss rfl rfl) rfl ?_
  dsimp only [setd, setn, ev, nth]
  refine K.seq_pure (K.move) rfl ?_
  dsimp only [setd, setn, ev, nth]
  refine K.split 8 rfl (fun hg8 => ?_) (fun hg8 => ?_)
  · try replace hg8 := of_decide_eq_true hg8
    refine K.seq_skip ?_ ?_
    · rfl
    try dsimp only [setd, setn, ev, nth, over, cl, eI, eP, eT, List.map, List.append, List.drop, List.take]
    refine K.seq_skip ?_ ?_
    · rfl
    try dsimp only [setd, setn, ev, nth, over, cl, eI, eP, eT, List.map, List.append, List.drop, List.take]
    refine K.seq_skip ?_ ?_
    · rfl
    try dsimp only [setd, setn, ev, nth, over, cl, eI, eP, eT, List.map, List.append, List.drop, List.take]
    refine K.seq_pure (K.pick_t rfl) rfl ?_
    dsimp only [setd, setn, ev, nth]
    refine K.seq_pure (K.assign) rfl ?_
    dsimp only [setd, setn, ev, nth]
    refine K.seq_nil ?_
    refine K.norm_then ?_
    refine K.ret ?_
    refine K.end_ret (fun w _ => K.res_tmp rfl w) ?_
    exact K.gives_b rfl (by simp [hg8])
  try replace hg8 := of_decide_eq_false hg8
  refine K.seq_pure (K.move) rfl ?_
  dsimp only [setd, setn, ev, nth]
  refine K.seq_sil (K.load1 one_3 rfl ((K.PtrL.cell1 hq).any)) rfl ?_
  try dsimp only [setd, setn, ev, nth, over, cl, eI, eP, eT, List.map, List.append, List.drop, List.take]
  refine K.seq_pure (K.gtr rfl rfl) rfl ?_
  dsimp only [setd, setn, ev, nth]
  refine K.seq_pure (K.pick_f rfl) rfl ?_
  dsimp only [setd, setn, ev, nth]
  refine K.seq_pure (K.assign) rfl ?_
  dsimp only [setd, setn, ev, nth]
  refine K.seq_nil ?_
  refine K.norm_then ?_
  refine K.ret ?_
  refine K.end_ret (fun w _ => K.res_tmp rfl w) ?_
  exact K.gives_b rfl (by simp [hg8])

set_option maxRecDepth 100000 in
theorem c97 {A : Option Addr} {c f : Nat} {cap : List Value} {xs : List Int} {p : Int → Bool} {w : World} (hR : K.Rd w A 1 K.eI xs) (hn : xs.length ≤ 4611686018427387904) (hcal : K.callable Try.prog f = true) (hf : ∀ x ∈ xs, ∀ w1, Below w.heap.size w w1 → Calls Try.prog f ([Value.int .i64 x] ++ cap).toArray w1 (K.Gives (.bool (p x)) w1)) :
    Calls Try.prog 97 [.slice A xs.length c, .func (.func f) #[] cap.toArray].toArray w (K.Gives (.int .i64 (K.idx p xs)) w) := by
  refine K.enter (args := [.slice A xs.length c, .func (.func f) #[] cap.toArray]) Try.func97 rfl (n := 17) rfl ?_
  simp only [List.replicate, List.cons_append, List.nil_append]
  refine K.seq ?_
  refine K.region_lit ?_
  refine K.seq_pure (K.assign) rfl ?_
  dsimp only [setd, setn, ev, nth]
  refine K.seq_nil ?_
  refine K.norm_then ?_
  refine K.seq ?_
  refine K.seq ?_
  refine K.region_lit ?_
  refine K.seq_pure (K.move) rfl ?_
  dsimp only [setd, setn, ev, nth]
  refine K.seq_pure (K.len_sl sl_22 rfl) rfl ?_
  dsimp only [setd, setn, ev, nth]
  refine K.seq_pure (K.move) rfl ?_
  dsimp only [setd, setn, ev, nth]
  refine K.seq_nil ?_
  refine K.norm_then ?_
  refine K.block ?_
  refine K.loopW [8] [4, 5, 9, 10, 11, 12, 13, 14, 15, 16, 17, 18] (fun vi L => ∃ k : Nat, vi = [.int .i64 (k : Int)] ∧ L = [] ∧ k ≤ xs.length ∧ ∀ j, j < k → p (xs.getD j default) = false) (fun vi => xs.length - (intOf (K.nth vi 0)).toNat) ?_ ?_
  · exact ⟨0, rfl, rfl, Nat.zero_le _, fun j hj => absurd hj (Nat.not_lt_zero j)⟩
  intro vi vr L hJ
  obtain ⟨k, rfl, rfl, hkn, hall⟩ := hJ
  try dsimp only [setd, setn, ev, nth, over, cl, eI, eP, eT, setM, setF, List.map, List.append, List.drop, List.take]
  refine K.seq ?_
  refine K.region_lit ?_
  refine K.seq_pure (K.lss rfl rfl) rfl ?_
  dsimp only [setd, setn, ev, nth]
  refine K.seq_nil ?_
  refine K.norm_then ?_
  refine K.seq ?_
  refine K.cond rfl (fun ht9 => ?_) (fun ht9 => ?_)
  · try replace ht9 := of_decide_eq_true ht9
    have hk : k < xs.length := by omega
    refine K.skip ?_
    refine K.norm_then ?_
    refine K.seq ?_
    refine K.block ?_
    refine K.seq ?_
    refine K.region_lit ?_
    refine K.seq_pure (K.move) rfl ?_
    dsimp only [setd, setn, ev, nth]
    refine K.seq_pure (K.assign) rfl ?_
    dsimp only [setd, setn, ev, nth]
    refine K.seq_nil ?_
    refine K.norm_then ?_
    refine K.seq ?_
    refine K.region_lit ?_
    refine K.seq_pure (K.move) rfl ?_
    dsimp only [setd, setn, ev, nth]
    refine K.seq_pure (K.move) rfl ?_
    dsimp only [setd, setn, ev, nth]
    refine K.seq_pure (K.move) rfl ?_
    dsimp only [setd, setn, ev, nth]
    refine K.seq_ix (M := []) _ hR.sl sl_22 rfl rfl rfl (by omega) rfl ?_
    intro p14 hp14
    try dsimp only [setd, setn, ev, nth, over, cl, eI, eP, eT, List.map, List.append, List.drop, List.take]
    refine K.seq_sil (K.load1 one_3 rfl (hp14.any)) rfl ?_
    try dsimp only [setd, setn, ev, nth, over, cl, eI, eP, eT, List.map, List.append, List.drop, List.take]
    refine K.seq_call (K.callv_g (first := []) (cap := cap) rfl hcal (fun F w1 _ hw => hf _ (K.gt_mem hk) w1 hw.1)) rfl ?_
    try dsimp only [setd, setn, ev, nth, over, cl, eI, eP, eT, List.map, List.append, List.drop, List.take]
    refine K.seq_nil ?_
    refine K.norm_then ?_
    refine K.cond rfl (fun ht16 => ?_) (fun ht16 => ?_)
    · try replace ht16 := of_decide_eq_true ht16
      refine K.seq ?_
      refine K.region_lit ?_
      refine K.seq_pure (K.move) rfl ?_
      dsimp only [setd, setn, ev, nth]
      refine K.seq_pure (K.assign) rfl ?_
      dsimp only [setd, setn, ev, nth]
      refine K.seq_nil ?_
      refine K.norm_then ?_
      refine K.ret ?_
      refine K.ret_block ?_
      refine K.ret_then ?_
      refine K.ret_then ?_
      refine K.ret_block ?_
      refine K.ret_then ?_
      refine K.end_ret (fun w _ => K.res_tmp rfl w) ?_
      exact K.gives_i rfl (K.idx_found hk hall ht16).symm
    try replace ht16 := of_decide_eq_false ht16
    refine K.skip ?_
    refine K.norm_block ?_
    refine K.norm_then ?_
    refine K.region_lit ?_
    refine K.seq_pure (K.add_i64 rfl rfl (by omega)) rfl ?_
    dsimp only [setd, setn, ev, nth]
    refine K.seq_pure (K.move) rfl ?_
    dsimp only [setd, setn, ev, nth]
    refine K.seq_nil ?_
    exact K.round_endW [.int .i64 ((k : Int) + 1)] ⟨k + 1, rfl, rfl, by omega, K.lt_succ_case hall ht16⟩ (by simp [K.nth, intOf]; omega) (List.Sublist.refl _) (by kernel_rfl)
  try replace ht9 := of_decide_eq_false ht9
  refine K.exit ?_
  refine K.exit_then ?_
  refine K.exit_then ?_
  refine K.exit_here ?_
  refine K.norm_then ?_
  refine K.seq ?_
  refine K.region_lit ?_
  refine K.seq_pure (K.assign) rfl ?_
  dsimp only [setd, setn, ev, nth]
  refine K.seq_nil ?_
  refine K.norm_then ?_
  refine K.ret ?_
  refine K.end_ret (fun w _ => K.res_tmp rfl w) ?_
  exact K.gives_i rfl (K.idx_none (fun j hj => hall j (by omega))).symm

set_option maxRecDepth 100000 in
theorem c83 {A : Option Addr} {c f : Nat} {cap : List Value} {xs : List Int} {p : Int → Bool} {w : World} (hR : K.Rd w A 1 K.eI xs) (hn : xs.length ≤ 4611686018427387904) (hcal : K.callable Try.prog f = true) (hf : ∀ x ∈ xs, ∀ w1, Below w.heap.size w w1 → Calls Try.prog f ([Value.int .i64 x] ++ cap).toArray w1 (K.Gives (.bool (p x)) w1)) :
    Calls Try.prog 83 [.slice A xs.length c, .func (.func f) #[] cap.toArray].toArray w (K.Gives (.bool (xs.any p)) w) := by
  refine K.enter (args := [.slice A xs.length c, .func (.func f) #[] cap.toArray]) Try.func83 rfl (n := 7) rfl ?_
  simp only [List.replicate, List.cons_append, List.nil_append]
  refine K.seq ?_
  refine K.region_lit ?_
  refine K.seq_pure (K.assign) rfl ?_
  dsimp only [setd, setn, ev, nth]
  refine K.seq_nil ?_
  refine K.norm_then ?_
  refine K.seq ?_
  refine K.region_lit ?_
  refine K.seq_pure (K.move) rfl ?_
  dsimp only [setd, setn, ev, nth]
  refine K.seq_pure (K.move) rfl ?_
  dsimp only [setd, setn, ev, nth]
  refine K.seq_call (K.call_g cal_97 (fun F w hF hw => c97 (p := p) (cap := cap) (hR.pass hw) hn hcal (fun x hx w1 hb => hf x hx w1 (hw.1.trans (hb.mono hw.1.size))))) rfl ?_
  try dsimp only [setd, setn, ev, nth, over, cl, eI, eP, eT, List.map, List.append, List.drop, List.take]
  refine K.seq_pure (K.geq rfl rfl) rfl ?_
  dsimp only [setd, setn, ev, nth]
  refine K.seq_pure (K.assign) rfl ?_
  dsimp only [setd, setn, ev, nth]
  refine K.seq_nil ?_
  refine K.norm_then ?_
  refine K.ret ?_
  refine K.end_ret (fun w _ => K.res_tmp rfl w) ?_
  exact K.gives_b rfl K.idx_ge

set_option maxRecDepth 100000 in
theorem c52 {lo hi : Int} {A : Option Addr} {c : Nat} {xs : List Int} {w : World} (hR : K.Rd w A 1 K.eI xs) (hn : xs.length ≤ 4611686018427387904) :
    Calls Try.prog 52 [.int .i64 lo, .int .i64 hi, .slice A xs.length c].toArray w (K.Gives (.bool (outB lo hi xs)) w) := by
  refine K.enter (args := [.int .i64 lo, .int .i64 hi, .slice A xs.length c]) Try.func52 rfl (n := 7) rfl ?_
  simp only [List.replicate, List.cons_append, List.nil_append]
  refine K.seq ?_
  refine K.region_lit ?_
  refine K.seq_new (K.box) rfl ?_
  intro b3
  try dsimp only [setd, setn, ev, nth, over, cl, eI, eP, eT, List.map, List.append, List.drop, List.take]
  refine K.seq_new (K.box) rfl ?_
  intro b4
  try dsimp only [setd, setn, ev, nth, over, cl, eI, eP, eT, List.map, List.append, List.drop, List.take]
  refine K.seq_pure (K.assign) rfl ?_
  dsimp only [setd, setn, ev, nth]
  refine K.seq_nil ?_
  refine K.norm_then ?_
  refine K.seq ?_
  refine K.region_lit ?_
  refine K.seq_pure (K.move) rfl ?_
  dsimp only [setd, setn, ev, nth]
  refine K.seq_pure (K.mkFunc) rfl ?_
  try dsimp only [setd, setn, ev, nth, over, cl, eI, eP, eT, List.map, List.append, List.drop, List.take]
  refine K.seq_call (K.call_g cal_83 (fun F w hF hw => c83 (cap := [.pointer (some ⟨b3, 0, none⟩), .pointer (some ⟨b4, 0, none⟩)]) (hR.pass hw) hn cal_84 (fun x _ w1 hb => c84 (K.cell_later hw (hF _ (K.m1)) rfl hb) (K.cell_later hw (hF _ (K.m0)) rfl hb)))) rfl ?_
  try dsimp only [setd, setn, ev, nth, over, cl, eI, eP, eT, List.map, List.append, List.drop, List.take]
  refine K.seq_pure (K.assign) rfl ?_
  dsimp only [setd, setn, ev, nth]
  refine K.seq_nil ?_
  refine K.norm_then ?_
  refine K.ret ?_
  refine K.end_ret (fun w _ => K.res_tmp rfl w) ?_
  exact K.gives rfl

set_option maxRecDepth 100000 in
theorem c99 {n b : Int} (h0 : 0 ≤ n) (h9 : n ≤ 1000000000) (h1 : 1 ≤ b) (h2 : b ≤ 1000) (w : World) :
    Calls Try.prog 99 [.int .i64 n, .int .i64 b].toArray w (K.Gives (.int .i64 (rndS 1 n b)) w) := by
  refine K.enter (args := [.int .i64 n, .int .i64 b]) Try.func99 rfl (n := 6) rfl ?_
  simp only [List.replicate, List.cons_append, List.nil_append]
  refine K.seq ?_
  refine K.region_lit ?_
  refine K.seq_pure (K.assign) rfl ?_
  dsimp only [setd, setn, ev, nth]
  refine K.seq_nil ?_
  refine K.norm_then ?_
  refine K.seq ?_
  refine K.region_lit ?_
  refine K.seq_pure (K.move) rfl ?_
  dsimp only [setd, setn, ev, nth]
  refine K.seq_pure (K.move) rfl ?_
  dsimp only [setd, setn, ev, nth]
  refine K.seq_pure (K.quo_i64 rfl rfl (by omega) (by omega) (by omega)) rfl ?_
  dsimp only [setd, setn, ev, nth]
  refine K.seq_pure (K.assign) rfl ?_
  dsimp only [setd, setn, ev, nth]
  refine K.seq_nil ?_
  refine K.norm_then ?_
  refine K.ret ?_
  refine K.end_ret (fun w _ => K.res_tmp rfl w) ?_
  exact K.gives_i rfl rfl

set_option maxRecDepth 100000 in
theorem c100 {n b : Int} (h0 : 0 ≤ n) (h9 : n ≤ 1000000000) (h1 : 1 ≤ b) (h2 : b ≤ 1000) (w : World) :
    Calls Try.prog 100 [.int .i64 n, .int .i64 b].toArray w (K.Gives (.int .i64 (rndS 2 n b)) w) := by
  refine K.enter (args := [.int .i64 n, .int .i64 b]) Try.func100 rfl (n := 10) rfl ?_
  simp only [List.replicate, List.cons_append, List.nil_append]
  refine K.seq ?_
  refine K.region_lit ?_
  refine K.seq_pure (K.assign) rfl ?_
  dsimp only [setd, setn, ev, nth]
  refine K.seq_nil ?_
  refine K.norm_then ?_
  refine K.seq ?_
  refine K.region_lit ?_
  refine K.seq_pure (K.move) rfl ?_
  dsimp only [setd, setn, ev, nth]
  refine K.seq_pure (K.mul_i64 rfl rfl (by omega)) rfl ?_
  dsimp only [setd, setn, ev, nth]
  refine K.seq_pure (K.move) rfl ?_
  dsimp only [setd, setn, ev, nth]
  refine K.seq_pure (K.add_i64 rfl rfl (by omega)) rfl ?_
  dsimp only [setd, setn, ev, nth]
  refine K.seq_pure (K.move) rfl ?_
  dsimp only [setd, setn, ev, nth]
  refine K.seq_pure (K.mul_i64 rfl rfl (by omega)) rfl ?_
  dsimp only [setd, setn, ev, nth]
  refine K.seq_pure (K.quo_i64 rfl rfl (by omega) (by omega) (by omega)) rfl ?_
  dsimp only [setd, setn, ev, nth]
  refine K.seq_pure (K.assign) rfl ?_
  dsimp only [setd, setn, ev, nth]
  refine K.seq_nil ?_
  refine K.norm_then ?_
  refine K.ret ?_
  refine K.end_ret (fun w _ => K.res_tmp rfl w) ?_
  exact K.gives_i rfl rfl

set_option maxRecDepth 100000 in
theorem c101 {n b : Int} (h0 : 0 ≤ n) (h9 : n ≤ 1000000000) (h1 : 1 ≤ b) (h2 : b ≤ 1000) (w : World) :
    Calls Try.prog 101 [.int .i64 n, .int .i64 b].toArray w (K.Gives (.int .i64 (rndS 3 n b)) w) := by
  refine K.enter (args := [.int .i64 n, .int .i64 b]) Try.func101 rfl (n := 9) rfl ?_
  simp only [List.replicate, List.cons_append, List.nil_append]
  refine K.seq ?_
  refine K.region_lit ?_
  refine K.seq_pure (K.assign) rfl ?_
  dsimp only [setd, setn, ev, nth]
  refine K.seq_nil ?_
  refine K.norm_then ?_
  refine K.seq ?_
  refine K.region_lit ?_
  refine K.seq_pure (K.move) rfl ?_
  dsimp only [setd, setn, ev, nth]
  refine K.seq_pure (K.move) rfl ?_
  dsimp only [setd, setn, ev, nth]
  refine K.seq_pure (K.add_i64 rfl rfl (by omega)) rfl ?_
  dsimp only [setd, setn, ev, nth]
  refine K.seq_pure (K.sub_i64 rfl rfl (by omega)) rfl ?_
  dsimp only [setd, setn, ev, nth]
  refine K.seq_pure (K.move) rfl ?_
  dsimp only [setd, setn, ev, nth]
  refine K.seq_pure (K.quo_i64 rfl rfl (by omega) (by omega) (by omega)) rfl ?_
  dsimp only [setd, setn, ev, nth]
  refine K.seq_pure (K.assign) rfl ?_
  dsimp only [setd, setn, ev, nth]
  refine K.seq_nil ?_
  refine K.norm_then ?_
  refine K.ret ?_
  refine K.end_ret (fun w _ => K.res_tmp rfl w) ?_
  exact K.gives_i rfl rfl

set_option maxRecDepth 100000 in
theorem c89 {n : Int} (h1 : -9223372036854775807 ≤ n) (h2 : n ≤ 9223372036854775807) (w : World) :
    Calls Try.prog 89 [.int .i64 n].toArray w (K.Gives (.int .i64 (max n (-n))) w) := by
  refine K.enter (args := [.int .i64 n]) Try.func89 rfl (n := 6) rfl ?_
  simp only [List.replicate, List.cons_append, List.nil_append]
  refine K.seq ?_
  refine K.region_lit ?_
  refine K.seq_pure (K.assign) rfl ?_
  dsimp only [setd, setn, ev, nth]
  refine K.seq_nil ?_
  refine K.norm_then ?_
  refine K.seq ?_
  refine K.region_lit ?_
  refine K.seq_pure (K.move) rfl ?_
  dsimp only [setd, setn, ev, nth]
  refine K.seq_pure (K.move) rfl ?_
  dsimp only [setd, setn, ev, nth]
  refine K.seq_pure (K.neg_i64 rfl (by omega)) rfl ?_
  dsimp only [setd, setn, ev, nth]
  refine K.seq_pure (K.max_int rfl rfl) rfl ?_
  dsimp only [setd, setn, ev, nth]
  refine K.seq_pure (K.assign) rfl ?_
  dsimp only [setd, setn, ev, nth]
  refine K.seq_nil ?_
  refine K.norm_then ?_
  refine K.ret ?_
  refine K.end_ret (fun w _ => K.res_tmp rfl w) ?_
  exact K.gives_i rfl rfl

set_option maxRecDepth 100000 in
theorem c43 {a b c d : Int} (h1 : 0 ≤ a) (h2 : a ≤ 30) (h3 : 0 ≤ b) (h4 : b ≤ 30) (h5 : 0 ≤ c) (h6 : c ≤ 30) (h7 : 0 ≤ d) (h8 : d ≤ 30) (w : World) :
    Calls Try.prog 43 [.agg #[.int .i64 a, .int .i64 b], .agg #[.int .i64 c, .int .i64 d]].toArray w (K.Gives (.bool (decide (a * d < c * b))) w) := by
  have m1 := Int.mul_nonneg h1 h7
  have m2 : a * d ≤ 30 * 30 := Int.mul_le_mul h2 h8 h7 (by omega)
  have m3 := Int.mul_nonneg h5 h3
  have m4 : c * b ≤ 30 * 30 := Int.mul_le_mul h6 h4 h3 (by omega)
  refine K.enter (args := [.agg #[.int .i64 a, .int .i64 b], .agg #[.int .i64 c, .int .i64 d]]) Try.func43 rfl (n := 14) rfl ?_
  simp only [List.replicate, List.cons_append, List.nil_append]
  refine K.seq ?_
  refine K.region_lit ?_
  refine K.seq_new (K.box) rfl ?_
  intro b2
  try dsimp only [setd, setn, ev, nth, over, cl, eI, eP, eT, List.map, List.append, List.drop, List.take]
  refine K.seq_new (K.box) rfl ?_
  intro b3
  try dsimp only [setd, setn, ev, nth, over, cl, eI, eP, eT, List.map, List.append, List.drop, List.take]
  refine K.seq_pure (K.assign) rfl ?_
  dsimp only [setd, setn, ev, nth]
  refine K.seq_nil ?_
  refine K.norm_then ?_
  refine K.seq ?_
  refine K.region_lit ?_
  refine K.seq_pure (K.fieldAddr_lit fo_27_0 rfl) rfl ?_
  dsimp only [setd, setn, ev, nth]
  refine K.seq_sil (K.load1_own one_3 rfl (K.m1) rfl) rfl ?_
  try dsimp only [setd, setn, ev, nth, over, cl, eI, eP, eT, List.map, List.append, List.drop, List.take]
  refine K.seq_pure (K.fieldAddr_lit fo_27_1 rfl) rfl ?_
  dsimp only [setd, setn, ev, nth]
  refine K.seq_sil (K.load1_own one_3 rfl (K.m0) rfl) rfl ?_
  try dsimp only [setd, setn, ev, nth, over, cl, eI, eP, eT, List.map, List.append, List.drop, List.take]
  refine K.seq_pure (K.mul_i64 rfl rfl (by omega)) rfl ?_
  dsimp only [setd, setn, ev, nth]
  refine K.seq_pure (K.fieldAddr_lit fo_27_0 rfl) rfl ?_
  dsimp only [setd, setn, ev, nth]
  refine K.seq_sil (K.load1_own one_3 rfl (K.m0) rfl) rfl ?_
  try dsimp only [setd, setn, ev, nth, over, cl, eI, eP, eT, List.map, List.append, List.drop, List.take]
  refine K.seq_pure (K.fieldAddr_lit fo_27_1 rfl) rfl ?_
  dsimp only [setd, setn, ev, nth]
  refine K.seq_sil (K.load1_own one_3 rfl (K.m1) rfl) rfl ?_
  try dsimp only [setd, setn, ev, nth, over, cl, eI, eP, eT, List.map, List.append, List.drop, List.take]
  refine K.seq_pure (K.mul_i64 rfl rfl (by omega)) rfl ?_
  dsimp only [setd, setn, ev, nth]
  refine K.seq_pure (K.lss rfl rfl) rfl ?_
  dsimp only [setd, setn, ev, nth]
  refine K.seq_pure (K.assign) rfl ?_
  dsimp only [setd, setn, ev, nth]
  refine K.seq_nil ?_
  refine K.norm_then ?_
  refine K.ret ?_
  refine K.end_ret (fun w _ => K.res_tmp rfl w) ?_
  exact K.gives_b rfl rfl

set_option maxRecDepth 100000 in
theorem c82 {kind h a b : Int} (h0 : 0 ≤ h) (h9 : h ≤ 9000) (h1 : 1 ≤ a) (h2 : a ≤ 30) (h3 : 1 ≤ b) (h4 : b ≤ 30) (w : World) :
    Calls Try.prog 82 [.int .i64 kind, .int .i64 h, .agg #[.int .i64 a, .int .i64 b]].toArray w (K.Gives (.int .i64 (cutS kind h a b)) w) := by
  have m1 := Int.mul_nonneg h0 (show (0:Int) ≤ a by omega)
  have m2 : h * a ≤ 9000 * 30 := Int.mul_le_mul h9 h2 (by omega) (by omega)
  have m3 : 0 ≤ h * a / b := Int.ediv_nonneg m1 (by omega)
  have m4 : h * a / b ≤ h * a := Int.ediv_le_self b m1
  have m5 := Int.emod_nonneg (h * a) (show b ≠ 0 by omega)
  have m6 := Int.emod_lt_of_pos (h * a) (show 0 < b by omega)
  refine K.enter (args := [.int .i64 kind, .int .i64 h, .agg #[.int .i64 a, .int .i64 b]]) Try.func82 rfl (n := 39) rfl ?_
  simp only [List.replicate, List.cons_append, List.nil_append]
  refine K.seq ?_
  refine K.region_lit ?_
  refine K.seq_new (K.box) rfl ?_
  intro b5
  try dsimp only [setd, setn, ev, nth, over, cl, eI, eP, eT, List.map, List.append, List.drop, List.take]
  refine K.seq_pure (K.assign) rfl ?_
  dsimp only [setd, setn, ev, nth]
  refine K.seq_nil ?_
  refine K.norm_then ?_
  refine K.seq ?_
  refine K.region_lit ?_
  refine K.seq_pure (K.move) rfl ?_
  dsimp only [setd, setn, ev, nth]
  refine K.seq_pure (K.fieldAddr_lit fo_27_0 rfl) rfl ?_
  dsimp only [setd, setn, ev, nth]
  refine K.seq_sil (K.load1_own one_3 rfl (K.m0) rfl) rfl ?_
  try dsimp only [setd, setn, ev, nth, over, cl, eI, eP, eT, List.map, List.append, List.drop, List.take]
  refine K.seq_pure (K.mul_i64 rfl rfl (by omega)) rfl ?_
  dsimp only [setd, setn, ev, nth]
  refine K.seq_pure (K.assign) rfl ?_
  dsimp only [setd, setn, ev, nth]
  refine K.seq_nil ?_
  refine K.norm_then ?_
  refine K.seq ?_
  refine K.draw_L [] Try_mixed ?_
  refine K.d_pure 0 rfl (K.move) (by kernel_rfl) rfl ?_
  dsimp only [setd, setn, ev, nth]
  refine K.d_pure 1 rfl (K.fieldAddr_lit fo_27_1 rfl) (by kernel_rfl) rfl ?_
  dsimp only [setd, setn, ev, nth]
  refine K.d_mem 2 rfl (K.load1_own one_3 rfl (K.m0) rfl) (fun _ h => h) (by kernel_rfl) (by kernel_rfl) rfl ?_
  try dsimp only [setd, setn, ev, nth, over, cl, eI, eP, eT, List.map, List.append, List.drop, List.take]
  refine K.d_pure 3 rfl (K.quo_i64 rfl rfl (by omega) (by omega) (by omega)) (by kernel_rfl) rfl ?_
  dsimp only [setd, setn, ev, nth]
  refine K.d_pure 4 rfl (K.move) (by kernel_rfl) rfl ?_
  dsimp only [setd, setn, ev, nth]
  refine K.d_pure 5 rfl (K.fieldAddr_lit fo_27_1 rfl) (by kernel_rfl) rfl ?_
  dsimp only [setd, setn, ev, nth]
  refine K.d_mem 6 rfl (K.load1_own one_3 rfl (K.m0) rfl) (fun _ h => h) (by kernel_rfl) (by kernel_rfl) rfl ?_
  try dsimp only [setd, setn, ev, nth, over, cl, eI, eP, eT, List.map, List.append, List.drop, List.take]
  refine K.d_pure 7 rfl (K.rem_i64 rfl rfl (by omega) (by omega)) (by kernel_rfl) rfl ?_
  dsimp only [setd, setn, ev, nth]
  refine K.d_pure 8 rfl (K.assign) (by kernel_rfl) rfl ?_
  dsimp only [setd, setn, ev, nth]
  refine K.d_pure 9 rfl (K.assign) (by kernel_rfl) rfl ?_
  dsimp only [setd, setn, ev, nth]
  refine K.d_done (by kernel_rfl) ?_
  refine K.norm_then ?_
  refine K.seq ?_
  refine K.seq ?_
  refine K.region_lit ?_
  refine K.seq_pure (K.move) rfl ?_
  dsimp only [setd, setn, ev, nth]
  refine K.seq_pure (K.eql rfl rfl) rfl ?_
  dsimp only [setd, setn, ev, nth]
  refine K.seq_pure (K.move) rfl ?_
  dsimp only [setd, setn, ev, nth]
  refine K.split 24 rfl (fun hg24 => ?_) (fun hg24 => ?_)
  · try replace hg24 := of_decide_eq_true hg24
    refine K.seq_pure (K.move) rfl ?_
    dsimp only [setd, setn, ev, nth]
    refine K.seq_pure (K.gtr rfl rfl) rfl ?_
    dsimp only [setd, setn, ev, nth]
    refine K.seq_pure (K.pick_t rfl) rfl ?_
    dsimp only [setd, setn, ev, nth]
    refine K.seq_pure (K.move) rfl ?_
    dsimp only [setd, setn, ev, nth]
    refine K.split 28 rfl (fun hg28 => ?_) (fun hg28 => ?_)
    · try replace hg28 := of_decide_eq_true hg28
      refine K.seq_skip ?_ ?_
      · rfl
      try dsimp only [setd, setn, ev, nth, over, cl, eI, eP, eT, List.map, List.append, List.drop, List.take]
      refine K.seq_skip ?_ ?_
      · rfl
      try dsimp only [setd, setn, ev, nth, over, cl, eI, eP, eT, List.map, List.append, List.drop, List.take]
      refine K.seq_skip ?_ ?_
      · rfl
      try dsimp only [setd, setn, ev, nth, over, cl, eI, eP, eT, List.map, List.append, List.drop, List.take]
      refine K.seq_skip ?_ ?_
      · rfl
      try dsimp only [setd, setn, ev, nth, over, cl, eI, eP, eT, List.map, List.append, List.drop, List.take]
      refine K.seq_skip ?_ ?_
      · rfl
      try dsimp only [setd, setn, ev, nth, over, cl, eI, eP, eT, List.map, List.append, List.drop, List.take]
      refine K.seq_skip ?_ ?_
      · rfl
      try dsimp only [setd, setn, ev, nth, over, cl, eI, eP, eT, List.map, List.append, List.drop, List.take]
      refine K.seq_skip ?_ ?_
      · rfl
      try dsimp only [setd, setn, ev, nth, over, cl, eI, eP, eT, List.map, List.append, List.drop, List.take]
      refine K.seq_skip ?_ ?_
      · rfl
      try dsimp only [setd, setn, ev, nth, over, cl, eI, eP, eT, List.map, List.append, List.drop, List.take]
      refine K.seq_skip ?_ ?_
      · rfl
      try dsimp only [setd, setn, ev, nth, over, cl, eI, eP, eT, List.map, List.append, List.drop, List.take]
      refine K.seq_pure (K.pick_t rfl) rfl ?_
      dsimp only [setd, setn, ev, nth]
      refine K.seq_nil ?_
      refine K.norm_then ?_
      refine K.cond_true rfl ?_
      refine K.region_lit ?_
      refine K.seq_pure (K.move) rfl ?_
      dsimp only [setd, setn, ev, nth]
      refine K.seq_pure (K.add_i64 rfl rfl (by omega)) rfl ?_
      dsimp only [setd, setn, ev, nth]
      refine K.seq_pure (K.assign) rfl ?_
      dsimp only [setd, setn, ev, nth]
      refine K.seq_nil ?_
      refine K.norm_then ?_
      refine K.seq ?_
      refine K.region_lit ?_
      refine K.seq_pure (K.move) rfl ?_
      dsimp only [setd, setn, ev, nth]
      refine K.seq_pure (K.assign) rfl ?_
      dsimp only [setd, setn, ev, nth]
      refine K.seq_nil ?_
      refine K.norm_then ?_
      refine K.ret ?_
      refine K.end_ret (fun w _ => K.res_tmp rfl w) ?_
      exact K.gives_i rfl (by unfold cutS; split <;> omega)
    try replace hg28 := of_decide_eq_false hg28
    refine K.seq_pure (K.move) rfl ?_
    dsimp only [setd, setn, ev, nth]
    refine K.seq_pure (K.eql rfl rfl) rfl ?_
    dsimp only [setd, setn, ev, nth]
    refine K.seq_pure (K.move) rfl ?_
    dsimp only [setd, setn, ev, nth]
    refine K.split 31 rfl (fun hg31 => ?_) (fun hg31 => ?_)
    · try replace hg31 := of_decide_eq_true hg31
      refine K.seq_pure (K.move) rfl ?_
      dsimp only [setd, setn, ev, nth]
      refine K.seq_pure (K.mul_i64 rfl rfl (by omega)) rfl ?_
      dsimp only [setd, setn, ev, nth]
      refine K.seq_pure (K.fieldAddr_lit fo_27_1 rfl) rfl ?_
      dsimp only [setd, setn, ev, nth]
      refine K.seq_sil (K.load1_own one_3 rfl (K.m0) rfl) rfl ?_
      try dsimp only [setd, setn, ev, nth, over, cl, eI, eP, eT, List.map, List.append, List.drop, List.take]
      refine K.seq_pure (K.geq rfl rfl) rfl ?_
      dsimp only [setd, setn, ev, nth]
      refine K.seq_pure (K.pick_t rfl) rfl ?_
      dsimp only [setd, setn, ev, nth]
      refine K.seq_pure (K.pick_f rfl) rfl ?_
      dsimp only [setd, setn, ev, nth]
      refine K.seq_nil ?_
      refine K.norm_then ?_
      refine K.cond rfl (fun ht38 => ?_) (fun ht38 => ?_)
      · try replace ht38 := of_decide_eq_true ht38
        refine K.region_lit ?_
        refine K.seq_pure (K.move) rfl ?_
        dsimp only [setd, setn, ev, nth]
        refine K.seq_pure (K.add_i64 rfl rfl (by omega)) rfl ?_
        dsimp only [setd, setn, ev, nth]
        refine K.seq_pure (K.assign) rfl ?_
        dsimp only [setd, setn, ev, nth]
        refine K.seq_nil ?_
        refine K.norm_then ?_
        refine K.seq ?_
        refine K.region_lit ?_
        refine K.seq_pure (K.move) rfl ?_
        dsimp only [setd, setn, ev, nth]
        refine K.seq_pure (K.assign) rfl ?_
        dsimp only [setd, setn, ev, nth]
        refine K.seq_nil ?_
        refine K.norm_then ?_
        refine K.ret ?_
        refine K.end_ret (fun w _ => K.res_tmp rfl w) ?_
        exact K.gives_i rfl (by unfold cutS; split <;> omega)
      try replace ht38 := of_decide_eq_false ht38
      refine K.skip ?_
      refine K.norm_then ?_
      refine K.seq ?_
      refine K.region_lit ?_
      refine K.seq_pure (K.move) rfl ?_
      dsimp only [setd, setn, ev, nth]
      refine K.seq_pure (K.assign) rfl ?_
      dsimp only [setd, setn, ev, nth]
      refine K.seq_nil ?_
      refine K.norm_then ?_
      refine K.ret ?_
      refine K.end_ret (fun w _ => K.res_tmp rfl w) ?_
      exact K.gives_i rfl (by unfold cutS; split <;> omega)
    try replace hg31 := of_decide_eq_false hg31
    refine K.seq_skip ?_ ?_
    · rfl
    try dsimp only [setd, setn, ev, nth, over, cl, eI, eP, eT, List.map, List.append, List.drop, List.take]
    refine K.seq_skip ?_ ?_
    · rfl
    try dsimp only [setd, setn, ev, nth, over, cl, eI, eP, eT, List.map, List.append, List.drop, List.take]
    refine K.seq_skip ?_ ?_
    · rfl
    try dsimp only [setd, setn, ev, nth, over, cl, eI, eP, eT, List.map, List.append, List.drop, List.take]
    refine K.seq_skip ?_ ?_
    · rfl
    try dsimp only [setd, setn, ev, nth, over, cl, eI, eP, eT, List.map, List.append, List.drop, List.take]
    refine K.seq_skip ?_ ?_
    · rfl
    try dsimp only [setd, setn, ev, nth, over, cl, eI, eP, eT, List.map, List.append, List.drop, List.take]
    refine K.seq_pure (K.pick_f rfl) rfl ?_
    dsimp only [setd, setn, ev, nth]
    refine K.seq_pure (K.pick_f rfl) rfl ?_
    dsimp only [setd, setn, ev, nth]
    refine K.seq_nil ?_
    refine K.norm_then ?_
    refine K.cond_false rfl ?_
    refine K.skip ?_
    refine K.norm_then ?_
    refine K.seq ?_
    refine K.region_lit ?_
    refine K.seq_pure (K.move) rfl ?_
    dsimp only [setd, setn, ev, nth]
    refine K.seq_pure (K.assign) rfl ?_
    dsimp only [setd, setn, ev, nth]
    refine K.seq_nil ?_
    refine K.norm_then ?_
    refine K.ret ?_
    refine K.end_ret (fun w _ => K.res_tmp rfl w) ?_
    exact K.gives_i rfl (by unfold cutS; split <;> omega)
  try replace hg24 := of_decide_eq_false hg24
  refine K.seq_skip ?_ ?_
  · rfl
  try dsimp only [setd, setn, ev, nth, over, cl, eI, eP, eT, List.map, List.append, List.drop, List.take]
  refine K.seq_skip ?_ ?_
  · rfl
  try dsimp only [setd, setn, ev, nth, over, cl, eI, eP, eT, List.map, List.append, List.drop, List.take]
  refine K.seq_pure (K.pick_f rfl) rfl ?_
  dsimp only [setd, setn, ev, nth]
  refine K.seq_pure (K.move) rfl ?_
  dsimp only [setd, setn, ev, nth]
  refine K.seq_pure (K.move) rfl ?_
  dsimp only [setd, setn, ev, nth]
  refine K.seq_pure (K.eql rfl rfl) rfl ?_
  dsimp only [setd, setn, ev, nth]
  refine K.seq_pure (K.move) rfl ?_
  dsimp only [setd, setn, ev, nth]
  refine K.split 31 rfl (fun hg31 => ?_) (fun hg31 => ?_)
  · try replace hg31 := of_decide_eq_true hg31
    refine K.seq_pure (K.move) rfl ?_
    dsimp only [setd, setn, ev, nth]
    refine K.seq_pure (K.mul_i64 rfl rfl (by omega)) rfl ?_
    dsimp only [setd, setn, ev, nth]
    refine K.seq_pure (K.fieldAddr_lit fo_27_1 rfl) rfl ?_
    dsimp only [setd, setn, ev, nth]
    refine K.seq_sil (K.load1_own one_3 rfl (K.m0) rfl) rfl ?_
    try dsimp only [setd, setn, ev, nth, over, cl, eI, eP, eT, List.map, List.append, List.drop, List.take]
    refine K.seq_pure (K.geq rfl rfl) rfl ?_
    dsimp only [setd, setn, ev, nth]
    refine K.seq_pure (K.pick_t rfl) rfl ?_
    dsimp only [setd, setn, ev, nth]
    refine K.seq_pure (K.pick_f rfl) rfl ?_
    dsimp only [setd, setn, ev, nth]
    refine K.seq_nil ?_
    refine K.norm_then ?_
    refine K.cond rfl (fun ht38 => ?_) (fun ht38 => ?_)
    · try replace ht38 := of_decide_eq_true ht38
      refine K.region_lit ?_
      refine K.seq_pure (K.move) rfl ?_
      dsimp only [setd, setn, ev, nth]
      refine K.seq_pure (K.add_i64 rfl rfl (by omega)) rfl ?_
      dsimp only [setd, setn, ev, nth]
      refine K.seq_pure (K.assign) rfl ?_
      dsimp only [setd, setn, ev, nth]
      refine K.seq_nil ?_
      refine K.norm_then ?_
      refine K.seq ?_
      refine K.region_lit ?_
      refine K.seq_pure (K.move) rfl ?_
      dsimp only [setd, setn, ev, nth]
      refine K.seq_pure (K.assign) rfl ?_
      dsimp only [setd, setn, ev, nth]
      refine K.seq_nil ?_
      refine K.norm_then ?_
      refine K.ret ?_
      refine K.end_ret (fun w _ => K.res_tmp rfl w) ?_
      exact K.gives_i rfl (by unfold cutS; split <;> omega)
    try replace ht38 := of_decide_eq_false ht38
    refine K.skip ?_
    refine K.norm_then ?_
    refine K.seq ?_
    refine K.region_lit ?_
    refine K.seq_pure (K.move) rfl ?_
    dsimp only [setd, setn, ev, nth]
    refine K.seq_pure (K.assign) rfl ?_
    dsimp only [setd, setn, ev, nth]
    refine K.seq_nil ?_
    refine K.norm_then ?_
    refine K.ret ?_
    refine K.end_ret (fun w _ => K.res_tmp rfl w) ?_
    exact K.gives_i rfl (by unfold cutS; split <;> omega)
  try replace hg31 := of_decide_eq_false hg31
  refine K.seq_skip ?_ ?_
  · rfl
  try dsimp only [setd, setn, ev, nth, over, cl, eI, eP, eT, List.map, List.append, List.drop, List.take]
  refine K.seq_skip ?_ ?_
  · rfl
  try dsimp only [setd, setn, ev, nth, over, cl, eI, eP, eT, List.map, List.append, List.drop, List.take]
  refine K.seq_skip ?_ ?_
  · rfl
  try dsimp only [setd, setn, ev, nth, over, cl, eI, eP, eT, List.map, List.append, List.drop, List.take]
  refine K.seq_skip ?_ ?_
  · rfl
  try dsimp only [setd, setn, ev, nth, over, cl, eI, eP, eT, List.map, List.append, List.drop, List.take]
  refine K.seq_skip ?_ ?_
  · rfl
  try dsimp only [setd, setn, ev, nth, over, cl, eI, eP, eT, List.map, List.append, List.drop, List.take]
  refine K.seq_pure (K.pick_f rfl) rfl ?_
  dsimp only [setd, setn, ev, nth]
  refine K.seq_pure (K.pick_f rfl) rfl ?_
  dsimp only [setd, setn, ev, nth]
  refine K.seq_nil ?_
  refine K.norm_then ?_
  refine K.cond_false rfl ?_
  refine K.skip ?_
  refine K.norm_then ?_
  refine K.seq ?_
  refine K.region_lit ?_
  refine K.seq_pure (K.move) rfl ?_
  dsimp only [setd, setn, ev, nth]
  refine K.seq_pure (K.assign) rfl ?_
  dsimp only [setd, setn, ev, nth]
  refine K.seq_nil ?_
  refine K.norm_then ?_
  refine K.ret ?_
  refine K.end_ret (fun w _ => K.res_tmp rfl w) ?_
  exact K.gives_i rfl (by unfold cutS; split <;> omega)

set_option maxRecDepth 100000 in
theorem c37 {a b : Int} (w : World) :
    Calls Try.prog 37 [.int .i64 a, .int .i64 b].toArray w (K.Gives (.agg #[.int .i64 a, .int .i64 b]) w) := by
  refine K.enter (args := [.int .i64 a, .int .i64 b]) Try.func37 rfl (n := 6) rfl ?_
  simp only [List.replicate, List.cons_append, List.nil_append]
  refine K.seq ?_
  refine K.region_lit ?_
  refine K.seq_new (K.alloc zr_27) rfl ?_
  intro b4
  try dsimp only [setd, setn, ev, nth, over, cl, eI, eP, eT, List.map, List.append, List.drop, List.take]
  refine K.seq_nil ?_
  refine K.norm_then ?_
  refine K.seq ?_
  refine K.region_lit ?_
  refine K.seq_pure (K.move) rfl ?_
  dsimp only [setd, setn, ev, nth]
  refine K.seq_pure (K.move) rfl ?_
  dsimp only [setd, setn, ev, nth]
  refine K.seq_pure (K.build (bl27 _ _)) rfl ?_
  try dsimp only [setd, setn, ev, nth, over, cl, eI, eP, eT, List.map, List.append, List.drop, List.take]
  refine K.seq_st (K.store_all sz_27 rfl rfl rfl rfl (K.rp0)) rfl ?_
  try dsimp only [setd, setn, ev, nth, over, cl, eI, eP, eT, List.map, List.append, List.drop, List.take]
  refine K.seq_nil ?_
  refine K.norm_then ?_
  refine K.ret ?_
  refine K.end_ret (fun w hw => K.res_c rfl rfl (K.run_cellA ag_27 rfl (List.Mem.head _) rfl w hw)) ?_
  exact K.gives rfl

set_option maxRecDepth 100000 in
theorem c79 {a b : Int} (w : World) :
    Calls Try.prog 79 [.int .i64 a, .int .i64 b].toArray w (K.Gives (.agg #[.int .i64 a, .int .i64 b]) w) := by
  refine K.enter (args := [.int .i64 a, .int .i64 b]) Try.func79 rfl (n := 6) rfl ?_
  simp only [List.replicate, List.cons_append, List.nil_append]
  refine K.seq ?_
  refine K.region_lit ?_
  refine K.seq_new (K.alloc zr_51) rfl ?_
  intro b4
  try dsimp only [setd, setn, ev, nth, over, cl, eI, eP, eT, List.map, List.append, List.drop, List.take]
  refine K.seq_nil ?_
  refine K.norm_then ?_
  refine K.seq ?_
  refine K.region_lit ?_
  refine K.seq_pure (K.move) rfl ?_
  dsimp only [setd, setn, ev, nth]
  refine K.seq_pure (K.move) rfl ?_
  dsimp only [setd, setn, ev, nth]
  refine K.seq_pure (K.build (bl51 _ _)) rfl ?_
  try dsimp only [setd, setn, ev, nth, over, cl, eI, eP, eT, List.map, List.append, List.drop, List.take]
  refine K.seq_st (K.store_all sz_51 rfl rfl rfl rfl (K.rp0)) rfl ?_
  try dsimp only [setd, setn, ev, nth, over, cl, eI, eP, eT, List.map, List.append, List.drop, List.take]
  refine K.seq_nil ?_
  refine K.norm_then ?_
  refine K.ret ?_
  refine K.end_ret (fun w hw => K.res_c rfl rfl (K.run_cellA ag_51 rfl (List.Mem.head _) rfl w hw)) ?_
  exact K.gives rfl

set_option maxRecDepth 100000 in
theorem c38 {p a b : Int} (w : World) :
    Calls Try.prog 38 [.int .i64 p, .int .i64 a, .int .i64 b].toArray w (K.Gives (.agg #[.int .i64 p, .int .i64 a, .int .i64 b]) w) := by
  refine K.enter (args := [.int .i64 p, .int .i64 a, .int .i64 b]) Try.func38 rfl (n := 9) rfl ?_
  simp only [List.replicate, List.cons_append, List.nil_append]
  refine K.seq ?_
  refine K.region_lit ?_
  refine K.seq_new (K.alloc zr_53) rfl ?_
  intro b6
  try dsimp only [setd, setn, ev, nth, over, cl, eI, eP, eT, List.map, List.append, List.drop, List.take]
  refine K.seq_nil ?_
  refine K.norm_then ?_
  refine K.seq ?_
  refine K.region_lit ?_
  refine K.seq_pure (K.move) rfl ?_
  dsimp only [setd, setn, ev, nth]
  refine K.seq_pure (K.move) rfl ?_
  dsimp only [setd, setn, ev, nth]
  refine K.seq_pure (K.move) rfl ?_
  dsimp only [setd, setn, ev, nth]
  refine K.seq_call (K.call_g cal_79 (fun F w hF hw => c79 w)) rfl ?_
  try dsimp only [setd, setn, ev, nth, over, cl, eI, eP, eT, List.map, List.append, List.drop, List.take]
  refine K.seq_pure (K.build (bl53 _ _ _)) rfl ?_
  try dsimp only [setd, setn, ev, nth, over, cl, eI, eP, eT, List.map, List.append, List.drop, List.take]
  refine K.seq_st (K.store_all sz_53 rfl rfl rfl rfl (K.rp0)) rfl ?_
  try dsimp only [setd, setn, ev, nth, over, cl, eI, eP, eT, List.map, List.append, List.drop, List.take]
  refine K.seq_nil ?_
  refine K.norm_then ?_
  refine K.ret ?_
  refine K.end_ret (fun w hw => K.res_c rfl rfl (K.run_cellA ag_53 rfl (List.Mem.head _) rfl w hw)) ?_
  exact K.gives rfl

end Go.Proofs.Ytafkbioeoklldaa
