/-
  Walks of the program's functions, printed by program: what each returns.
  Conditions stand in each theorem.
-/
import Derived.Test.YthkgnhcknkjgdaaDoorKf
import Derived.WalkArith
import Derived.Laws.Closers25b
import Derived.Test.YthkgnhcknkjgdaaDoorS1
set_option linter.unusedSimpArgs false
set_option linter.unusedVariables false
namespace Go.Proofs.YthkgnhcknkjgdaaDoor
open Go.RowKit Go
open Go.K (setd setn ev nth over cl eI eP eT setM setF)
attribute [local irreducible] K.blk K.row
theorem bs1 (a : Int) : K.Bs Tryd.prog 22 1 [(0, .int .i64 a)] 3 [.int .i64 a] := fun w => by kernel_rfl
theorem bs2 (a b : Int) : K.Bs Tryd.prog 22 2 [(0, .int .i64 a), (1, .int .i64 b)] 3 [.int .i64 a, .int .i64 b] := fun w => by kernel_rfl
theorem bl80 (a b : Int) : K.Bl Tryd.prog 80 [(0, .int .i64 a), (1, .int .i64 b)] (.agg #[.int .i64 a, .int .i64 b]) := fun w => by kernel_rfl
theorem name_f1 {s : ByteArray} (h : ¬ (1 ≤ (s.size : Int) ∧ (s.size : Int) ≤ 16)) : nameB s = false := by
  unfold nameB; rw [decide_eq_false (by omega)]; rfl
theorem name_f2 {s : ByteArray} {i : Nat} (hi : i < s.size) (h : okC i (K.bt s i) = false) : nameB s = false := by
  unfold nameB; rw [Bool.and_eq_false_iff]; right
  exact List.all_eq_false.2 ⟨i, List.mem_range.2 hi, by simp [h]⟩
theorem name_t {s : ByteArray} (h1 : 1 ≤ s.size ∧ s.size ≤ 16) (h : ∀ i, i < s.size → okC i (K.bt s i) = true) : nameB s = true := by
  unfold nameB; rw [decide_eq_true h1, Bool.true_and]
  exact List.all_eq_true.2 (fun i hi => h i (List.mem_range.1 hi))

set_option maxRecDepth 100000 in
theorem c57 {n a b : Int} (w : World) :
    Calls Tryd.prog 57 [.int .i64 n, .int .i64 a, .int .i64 b].toArray w (K.Gives (.bool (decide (a ≤ n ∧ n ≤ b))) w) := by
  refine K.enter (args := [.int .i64 n, .int .i64 a, .int .i64 b]) Tryd.func57 rfl (n := 12) rfl ?_
  simp only [List.replicate, List.cons_append, List.nil_append]
  refine sr ?_
  refine qa ?_
  refine sn ?_
  refine sr ?_
  iterate 2 refine qm ?_
  refine qp (K.geq rfl rfl) ?_
  refine qm ?_
  refine K.split 10 rfl (fun hg10 => ?_) (fun hg10 => ?_)
  · try replace hg10 := of_decide_eq_true hg10
    iterate 2 refine qm ?_
    refine qp (K.leq rfl rfl) ?_
    refine qp (K.pick_t rfl) ?_
    refine qa ?_
    refine sn ?_
    refine K.ret ?_
    refine K.end_ret (fun w _ => K.res_tmp rfl w) ?_
    exact K.gives_b rfl (by rw [eq_comm, decide_eq_decide.2 (by omega : (a ≤ n ∧ n ≤ b) ↔ n ≤ b)])
  try replace hg10 := of_decide_eq_false hg10
  iterate 3 refine qs ?_
  refine qp (K.pick_f rfl) ?_
  refine qa ?_
  refine sn ?_
  refine K.ret ?_
  refine K.end_ret (fun w _ => K.res_tmp rfl w) ?_
  exact K.gives_b rfl (by rw [eq_comm, decide_eq_false_iff_not]; omega)

set_option maxRecDepth 100000 in
theorem c106 {n a b : Int} (w : World) :
    Calls Tryd.prog 106 [.int .i64 n, .int .i64 a, .int .i64 b].toArray w (K.Gives (.bool (decide (a ≤ n ∧ n ≤ b))) w) := by
  refine K.enter (args := [.int .i64 n, .int .i64 a, .int .i64 b]) Tryd.func106 rfl (n := 12) rfl ?_
  simp only [List.replicate, List.cons_append, List.nil_append]
  refine sr ?_
  refine qa ?_
  refine sn ?_
  refine sr ?_
  iterate 2 refine qm ?_
  refine qp (K.geq rfl rfl) ?_
  refine qm ?_
  refine K.split 10 rfl (fun hg10 => ?_) (fun hg10 => ?_)
  · try replace hg10 := of_decide_eq_true hg10
    iterate 2 refine qm ?_
    refine qp (K.leq rfl rfl) ?_
    refine qp (K.pick_t rfl) ?_
    refine qa ?_
    refine sn ?_
    refine K.ret ?_
    refine K.end_ret (fun w _ => K.res_tmp rfl w) ?_
    exact K.gives_b rfl (by rw [eq_comm, decide_eq_decide.2 (by omega : (a ≤ n ∧ n ≤ b) ↔ n ≤ b)])
  try replace hg10 := of_decide_eq_false hg10
  iterate 3 refine qs ?_
  refine qp (K.pick_f rfl) ?_
  refine qa ?_
  refine sn ?_
  refine K.ret ?_
  refine K.end_ret (fun w _ => K.res_tmp rfl w) ?_
  exact K.gives_b rfl (by rw [eq_comm, decide_eq_false_iff_not]; omega)

set_option maxRecDepth 100000 in
theorem c90 {n lo hi : Int} {p q : Addr} {w : World} (hp : w.cell? p = some (.int .i64 lo)) (hq : w.cell? q = some (.int .i64 hi)) :
    Calls Tryd.prog 90 [.int .i64 n, .pointer (some p), .pointer (some q)].toArray w (K.Gives (.bool (decide (n < lo) || decide (n > hi))) w) := by
  refine K.enter (args := [.int .i64 n, .pointer (some p), .pointer (some q)]) Tryd.func90 rfl (n := 10) rfl ?_
  simp only [List.replicate, List.cons_append, List.nil_append]
  refine sr ?_
  refine qa ?_
  refine sn ?_
  refine sr ?_
  refine qm ?_
  refine K.seq_sil (K.load1 one_3 rfl ((K.PtrL.cell1 hp).any)) rfl ?_
  refine zN ?_
  refine qp (K.lss rfl rfl) ?_
  refine qm ?_
  refine K.split 8 rfl (fun hg8 => ?_) (fun hg8 => ?_)
  · try replace hg8 := of_decide_eq_true hg8
    iterate 3 refine qs ?_
    refine qp (K.pick_t rfl) ?_
    refine qa ?_
    refine sn ?_
    refine K.ret ?_
    refine K.end_ret (fun w _ => K.res_tmp rfl w) ?_
    exact K.gives_b rfl (by simp [hg8])
  try replace hg8 := of_decide_eq_false hg8
  refine qm ?_
  refine K.seq_sil (K.load1 one_3 rfl ((K.PtrL.cell1 hq).any)) rfl ?_
  refine zN ?_
  refine qp (K.gtr rfl rfl) ?_
  refine qp (K.pick_f rfl) ?_
  refine qa ?_
  refine sn ?_
  refine K.ret ?_
  refine K.end_ret (fun w _ => K.res_tmp rfl w) ?_
  exact K.gives_b rfl (by simp [hg8])

set_option maxRecDepth 100000 in
theorem c51 {A : Option Addr} {c f : Nat} {cap : List Value} {xs : List Int} {p : Int → Bool} {w : World} (hR : K.Rd w A 1 K.eI xs) (hn : xs.length ≤ 4611686018427387904) (hcal : K.callable Tryd.prog f = true) (hf : ∀ x ∈ xs, ∀ w1, Below w.heap.size w w1 → Calls Tryd.prog f ([Value.int .i64 x] ++ cap).toArray w1 (K.Gives (.bool (p x)) w1)) :
    Calls Tryd.prog 51 [.slice A xs.length c, .func (.func f) #[] cap.toArray].toArray w (K.Gives (.int .i64 (K.idx p xs)) w) := by
  refine K.enter (args := [.slice A xs.length c, .func (.func f) #[] cap.toArray]) Tryd.func51 rfl (n := 17) rfl ?_
  simp only [List.replicate, List.cons_append, List.nil_append]
  refine sr ?_
  refine qa ?_
  refine sn ?_
  refine K.seq ?_
  refine sr ?_
  refine qm ?_
  refine qp (K.len_sl sl_22 rfl) ?_
  refine qm ?_
  refine sn ?_
  refine K.block ?_
  refine K.loopW [8] [4, 5, 9, 10, 11, 12, 13, 14, 15, 16, 17, 18] (fun vi L => ∃ k : Nat, vi = [.int .i64 (k : Int)] ∧ L = [] ∧ k ≤ xs.length ∧ ∀ j, j < k → p (xs.getD j default) = false) (fun vi => xs.length - (intOf (K.nth vi 0)).toNat) ?_ ?_
  · exact ⟨0, rfl, rfl, Nat.zero_le _, fun j hj => absurd hj (Nat.not_lt_zero j)⟩
  intro vi vr L hJ
  obtain ⟨k, rfl, rfl, hkn, hall⟩ := hJ
  try dsimp only [setd, setn, ev, nth, over, cl, eI, eP, eT, eN, eS, setM, setF, List.map, List.append, List.drop, List.take]
  refine sr ?_
  refine qp (K.lss rfl rfl) ?_
  refine sn ?_
  refine K.seq ?_
  refine K.cond rfl (fun ht9 => ?_) (fun ht9 => ?_)
  · try replace ht9 := of_decide_eq_true ht9
    have hk : k < xs.length := by omega
    refine K.skip ?_
    refine K.norm_then ?_
    refine K.seq ?_
    refine K.block ?_
    refine sr ?_
    refine qm ?_
    refine qa ?_
    refine sn ?_
    refine sr ?_
    iterate 3 refine qm ?_
    refine K.seq_ix (M := []) _ hR.sl sl_22 rfl rfl rfl (by omega) rfl ?_
    intro p14 hp14
    refine zN ?_
    refine K.seq_sil (K.load1 one_3 rfl (hp14.any)) rfl ?_
    refine zN ?_
    refine K.seq_call (K.callv_g (first := []) (cap := cap) rfl hcal (fun F w1 _ hw => hf _ (K.gt_mem hk) w1 hw.1)) rfl ?_
    refine zN ?_
    refine sn ?_
    refine K.cond rfl (fun ht16 => ?_) (fun ht16 => ?_)
    · try replace ht16 := of_decide_eq_true ht16
      refine sr ?_
      refine qm ?_
      refine qa ?_
      refine sn ?_
      refine K.ret ?_
      refine K.ret_block ?_
      refine K.ret_then ?_
      refine K.ret_then ?_
      refine K.ret_block ?_
      refine K.ret_then ?_
      refine K.end_ret (fun w _ => K.res_tmp rfl w) ?_
      exact K.gives_i rfl (K.idx_found hk hall ht16).symm
    try replace ht16 := of_decide_eq_false ht16
    refine K.skip ?_
    refine K.norm_block ?_
    refine K.norm_then ?_
    refine K.region_lit ?_
    refine qp (K.add_i64 rfl rfl (by omega)) ?_
    refine qm ?_
    refine K.seq_nil ?_
    exact K.round_endW [.int .i64 ((k : Int) + 1)] ⟨k + 1, rfl, rfl, by omega, K.lt_succ_case hall ht16⟩ (by simp [K.nth, intOf]; omega) (List.Sublist.refl _) (by kernel_rfl)
  try replace ht9 := of_decide_eq_false ht9
  refine K.exit ?_
  refine K.exit_then ?_
  refine K.exit_then ?_
  refine K.exit_here ?_
  refine K.norm_then ?_
  refine sr ?_
  refine qa ?_
  refine sn ?_
  refine K.ret ?_
  refine K.end_ret (fun w _ => K.res_tmp rfl w) ?_
  exact K.gives_i rfl (K.idx_none (fun j hj => hall j (by omega))).symm

set_option maxRecDepth 100000 in
theorem c91 {A : Option Addr} {c f : Nat} {cap : List Value} {xs : List PinT} {p : PinT → Bool} {w : World} (hR : K.Rd w A 5 eN xs) (hn : xs.length ≤ 4611686018427387904) (hcal : K.callable Tryd.prog f = true) (hf : ∀ x ∈ xs, ∀ w1, Below w.heap.size w w1 → Calls Tryd.prog f ([Value.agg (eN x).toArray] ++ cap).toArray w1 (K.Gives (.bool (p x)) w1)) :
    Calls Tryd.prog 91 [.slice A xs.length c, .func (.func f) #[] cap.toArray].toArray w (K.Gives (.int .i64 (K.idx p xs)) w) := by
  refine K.enter (args := [.slice A xs.length c, .func (.func f) #[] cap.toArray]) Tryd.func91 rfl (n := 17) rfl ?_
  simp only [List.replicate, List.cons_append, List.nil_append]
  refine sr ?_
  refine qa ?_
  refine sn ?_
  refine K.seq ?_
  refine sr ?_
  refine qm ?_
  refine qp (K.len_sl sl_23 rfl) ?_
  refine qm ?_
  refine sn ?_
  refine K.block ?_
  refine K.loopW [8] [4, 5, 9, 10, 11, 12, 13, 14, 15, 16, 17, 18] (fun vi L => ∃ k : Nat, vi = [.int .i64 (k : Int)] ∧ L = [] ∧ k ≤ xs.length ∧ ∀ j, j < k → p (xs.getD j default) = false) (fun vi => xs.length - (intOf (K.nth vi 0)).toNat) ?_ ?_
  · exact ⟨0, rfl, rfl, Nat.zero_le _, fun j hj => absurd hj (Nat.not_lt_zero j)⟩
  intro vi vr L hJ
  obtain ⟨k, rfl, rfl, hkn, hall⟩ := hJ
  try dsimp only [setd, setn, ev, nth, over, cl, eI, eP, eT, eN, eS, setM, setF, List.map, List.append, List.drop, List.take]
  refine sr ?_
  refine qp (K.lss rfl rfl) ?_
  refine sn ?_
  refine K.seq ?_
  refine K.cond rfl (fun ht9 => ?_) (fun ht9 => ?_)
  · try replace ht9 := of_decide_eq_true ht9
    have hk : k < xs.length := by omega
    refine K.skip ?_
    refine K.norm_then ?_
    refine K.seq ?_
    refine K.block ?_
    refine sr ?_
    refine qm ?_
    refine qa ?_
    refine sn ?_
    refine sr ?_
    iterate 3 refine qm ?_
    refine K.seq_ix (M := []) _ hR.sl sl_23 rfl rfl rfl (by omega) rfl ?_
    intro p14 hp14
    refine zN ?_
    refine K.seq_sil (K.loadA_p ag_54 rfl (hp14.any) rfl) rfl ?_
    refine zN ?_
    refine K.seq_call (K.callv_g (first := []) (cap := cap) rfl hcal (fun F w1 _ hw => hf _ (K.gt_mem hk) w1 hw.1)) rfl ?_
    refine zN ?_
    refine sn ?_
    refine K.cond rfl (fun ht16 => ?_) (fun ht16 => ?_)
    · try replace ht16 := of_decide_eq_true ht16
      refine sr ?_
      refine qm ?_
      refine qa ?_
      refine sn ?_
      refine K.ret ?_
      refine K.ret_block ?_
      refine K.ret_then ?_
      refine K.ret_then ?_
      refine K.ret_block ?_
      refine K.ret_then ?_
      refine K.end_ret (fun w _ => K.res_tmp rfl w) ?_
      exact K.gives_i rfl (K.idx_found hk hall ht16).symm
    try replace ht16 := of_decide_eq_false ht16
    refine K.skip ?_
    refine K.norm_block ?_
    refine K.norm_then ?_
    refine K.region_lit ?_
    refine qp (K.add_i64 rfl rfl (by omega)) ?_
    refine qm ?_
    refine K.seq_nil ?_
    exact K.round_endW [.int .i64 ((k : Int) + 1)] ⟨k + 1, rfl, rfl, by omega, K.lt_succ_case hall ht16⟩ (by simp [K.nth, intOf]; omega) (List.Sublist.refl _) (by kernel_rfl)
  try replace ht9 := of_decide_eq_false ht9
  refine K.exit ?_
  refine K.exit_then ?_
  refine K.exit_then ?_
  refine K.exit_here ?_
  refine K.norm_then ?_
  refine sr ?_
  refine qa ?_
  refine sn ?_
  refine K.ret ?_
  refine K.end_ret (fun w _ => K.res_tmp rfl w) ?_
  exact K.gives_i rfl (K.idx_none (fun j hj => hall j (by omega))).symm

set_option maxRecDepth 100000 in
theorem c89 {A : Option Addr} {c f : Nat} {cap : List Value} {xs : List Int} {p : Int → Bool} {w : World} (hR : K.Rd w A 1 K.eI xs) (hn : xs.length ≤ 4611686018427387904) (hcal : K.callable Tryd.prog f = true) (hf : ∀ x ∈ xs, ∀ w1, Below w.heap.size w w1 → Calls Tryd.prog f ([Value.int .i64 x] ++ cap).toArray w1 (K.Gives (.bool (p x)) w1)) :
    Calls Tryd.prog 89 [.slice A xs.length c, .func (.func f) #[] cap.toArray].toArray w (K.Gives (.bool (xs.any p)) w) := by
  refine K.enter (args := [.slice A xs.length c, .func (.func f) #[] cap.toArray]) Tryd.func89 rfl (n := 7) rfl ?_
  simp only [List.replicate, List.cons_append, List.nil_append]
  refine sr ?_
  refine qa ?_
  refine sn ?_
  refine sr ?_
  iterate 2 refine qm ?_
  refine K.seq_call (K.call_g cal_51 (fun F w hF hw => c51 (p := p) (cap := cap) (hR.pass hw) hn hcal (fun x hx w1 hb => hf x hx w1 (hw.1.trans (hb.mono hw.1.size))))) rfl ?_
  refine zN ?_
  refine qp (K.geq rfl rfl) ?_
  refine qa ?_
  refine sn ?_
  refine K.ret ?_
  refine K.end_ret (fun w _ => K.res_tmp rfl w) ?_
  exact K.gives_b rfl K.idx_ge

set_option maxRecDepth 100000 in
theorem c54 {A : Option Addr} {c f : Nat} {cap : List Value} {xs : List PinT} {p : PinT → Bool} {w : World} (hR : K.Rd w A 5 eN xs) (hn : xs.length ≤ 4611686018427387904) (hcal : K.callable Tryd.prog f = true) (hf : ∀ x ∈ xs, ∀ w1, Below w.heap.size w w1 → Calls Tryd.prog f ([Value.agg (eN x).toArray] ++ cap).toArray w1 (K.Gives (.bool (p x)) w1)) :
    Calls Tryd.prog 54 [.slice A xs.length c, .func (.func f) #[] cap.toArray].toArray w (K.Gives (.bool (xs.any p)) w) := by
  refine K.enter (args := [.slice A xs.length c, .func (.func f) #[] cap.toArray]) Tryd.func54 rfl (n := 7) rfl ?_
  simp only [List.replicate, List.cons_append, List.nil_append]
  refine sr ?_
  refine qa ?_
  refine sn ?_
  refine sr ?_
  iterate 2 refine qm ?_
  refine K.seq_call (K.call_g cal_91 (fun F w hF hw => c91 (p := p) (cap := cap) (hR.pass hw) hn hcal (fun x hx w1 hb => hf x hx w1 (hw.1.trans (hb.mono hw.1.size))))) rfl ?_
  refine zN ?_
  refine qp (K.geq rfl rfl) ?_
  refine qa ?_
  refine sn ?_
  refine K.ret ?_
  refine K.end_ret (fun w _ => K.res_tmp rfl w) ?_
  exact K.gives_b rfl K.idx_ge

set_option maxRecDepth 100000 in
theorem c50 {lo hi : Int} {A : Option Addr} {c : Nat} {xs : List Int} {w : World} (hR : K.Rd w A 1 K.eI xs) (hn : xs.length ≤ 4611686018427387904) :
    Calls Tryd.prog 50 [.int .i64 lo, .int .i64 hi, .slice A xs.length c].toArray w (K.Gives (.bool (outB lo hi xs)) w) := by
  refine K.enter (args := [.int .i64 lo, .int .i64 hi, .slice A xs.length c]) Tryd.func50 rfl (n := 7) rfl ?_
  simp only [List.replicate, List.cons_append, List.nil_append]
  refine sr ?_
  refine K.seq_new (K.box) rfl ?_
  intro b3
  refine zN ?_
  refine K.seq_new (K.box) rfl ?_
  intro b4
  refine zN ?_
  refine qa ?_
  refine sn ?_
  refine sr ?_
  refine qm ?_
  refine K.seq_pure (K.mkFunc) rfl ?_
  refine zN ?_
  refine K.seq_call (K.call_g cal_89 (fun F w hF hw => c89 (cap := [.pointer (some ⟨b3, 0, none⟩), .pointer (some ⟨b4, 0, none⟩)]) (hR.pass hw) hn cal_90 (fun x _ w1 hb => c90 (K.cell_later hw (hF _ (K.m1)) rfl hb) (K.cell_later hw (hF _ (K.m0)) rfl hb)))) rfl ?_
  refine zN ?_
  refine qa ?_
  refine sn ?_
  refine K.ret ?_
  refine K.end_ret (fun w _ => K.res_tmp rfl w) ?_
  exact K.gives rfl

theorem c50_1 {lo hi x : Int} {w0 w : World} {F : List K.Chunk} {b : Nat} (hw : K.St w0 F w) (hm : K.blk b 3 [.int .i64 x] ∈ F) :
    Calls Tryd.prog 50 [.int .i64 lo, .int .i64 hi, .slice (some ⟨b, 0, none⟩) 1 1].toArray w (K.Gives (.bool (decide (¬ (lo ≤ x ∧ x ≤ hi)))) w) := by
  have h := c50 (lo := lo) (hi := hi) (c := 1) (xs := [x]) (K.Rd.lit hw hm (fun _ => rfl) (by decide) rfl) (by simp)
  have e : outB lo hi [x] = decide (¬ (lo ≤ x ∧ x ≤ hi)) := by
    rw [Bool.eq_iff_iff]; simp [outB]
    try omega
  rw [e] at h
  exact h
theorem c50_2 {lo hi x y : Int} {w0 w : World} {F : List K.Chunk} {b : Nat} (hw : K.St w0 F w) (hm : K.blk b 3 [.int .i64 x, .int .i64 y] ∈ F) :
    Calls Tryd.prog 50 [.int .i64 lo, .int .i64 hi, .slice (some ⟨b, 0, none⟩) 2 2].toArray w (K.Gives (.bool (decide (¬ ((lo ≤ x ∧ x ≤ hi) ∧ (lo ≤ y ∧ y ≤ hi))))) w) := by
  have h := c50 (lo := lo) (hi := hi) (c := 2) (xs := [x, y]) (K.Rd.lit hw hm (fun _ => rfl) (by decide) rfl) (by simp)
  have e : outB lo hi [x, y] = decide (¬ ((lo ≤ x ∧ x ≤ hi) ∧ (lo ≤ y ∧ y ≤ hi))) := by
    rw [Bool.eq_iff_iff]; simp [outB]; omega
  rw [e] at h
  exact h


set_option maxRecDepth 100000 in
theorem c52 {n : Int} (w : World) :
    Calls Tryd.prog 52 [.int .i64 n].toArray w (K.Gives (.bool (decide (hgE n ≠ 0))) w) := by
  refine K.enter (args := [.int .i64 n]) Tryd.func52 rfl (n := 5) rfl ?_
  simp only [List.replicate, List.cons_append, List.nil_append]
  refine sr ?_
  refine qa ?_
  refine sn ?_
  refine sr ?_
  refine qm ?_
  refine K.seq_new (K.buildSlice (bs1 _)) rfl ?_
  intro b4
  refine zN ?_
  refine K.seq_call (K.call_g cal_50 (fun F w hF hw => c50_1 hw (hF _ (K.m0)))) rfl ?_
  refine zN ?_
  refine qa ?_
  refine sn ?_
  refine K.ret ?_
  refine K.end_ret (fun w _ => K.res_tmp rfl w) ?_
  exact K.gives_b rfl (by unfold hgE; split <;> simp_all)

set_option maxRecDepth 100000 in
theorem c56 {m : Mod} {A B C : Option Addr} {c d e : Nat} {x y : Int} {w : World} (hW : 1 ≤ m.W ∧ m.W ≤ 8) (hD : 1 ≤ m.D ∧ m.D ≤ 8) :
    Calls Tryd.prog 56 [.agg #[.int .i64 m.W, .int .i64 m.D, .slice A m.hs.length c, .slice B m.ps.length d, .slice C m.ss.length e], .agg #[.int .i64 x, .int .i64 y]].toArray w (K.Gives (.bool (decide (onF m.W m.D x y))) w) := by
  refine K.enter (args := [.agg #[.int .i64 m.W, .int .i64 m.D, .slice A m.hs.length c, .slice B m.ps.length d, .slice C m.ss.length e], .agg #[.int .i64 x, .int .i64 y]]) Tryd.func56 rfl (n := 21) rfl ?_
  simp only [List.replicate, List.cons_append, List.nil_append]
  refine sr ?_
  refine K.seq_new (K.box) rfl ?_
  intro b2
  refine zN ?_
  refine K.seq_new (K.box) rfl ?_
  intro b3
  refine zN ?_
  refine qa ?_
  refine sn ?_
  refine sr ?_
  refine qp (K.fieldAddr_lit fo_26_0 rfl) ?_
  refine K.seq_sil (K.load1_own one_3 rfl (K.m1) rfl) rfl ?_
  refine zN ?_
  refine qp (K.sub_i64 rfl rfl (by omega)) ?_
  refine qp (K.fieldAddr_lit fo_80_0 rfl) ?_
  refine K.seq_sil (K.load1_own one_3 rfl (K.m0) rfl) rfl ?_
  refine zN ?_
  refine K.seq_new (K.buildSlice (bs1 _)) rfl ?_
  intro b10
  refine zN ?_
  refine K.seq_call (K.call_g cal_50 (fun F w hF hw => c50_1 hw (hF _ (K.m0)))) rfl ?_
  refine zN ?_
  refine qp (K.Pure.eq (K.not_d rfl) (show _ = Value.bool (decide (0 ≤ x ∧ x ≤ m.W - 1)) from by simp)) ?_
  refine qm ?_
  refine K.split 13 rfl (fun hg13 => ?_) (fun hg13 => ?_)
  · try replace hg13 := of_decide_eq_true hg13
    refine qp (K.fieldAddr_lit fo_26_1 rfl) ?_
    refine K.seq_sil (K.load1_own one_3 rfl (K.m2) rfl) rfl ?_
    refine zN ?_
    refine qp (K.sub_i64 rfl rfl (by omega)) ?_
    refine qp (K.fieldAddr_lit fo_80_1 rfl) ?_
    refine K.seq_sil (K.load1_own one_3 rfl (K.m1) rfl) rfl ?_
    refine zN ?_
    refine K.seq_new (K.buildSlice (bs1 _)) rfl ?_
    intro b19
    refine zN ?_
    refine K.seq_call (K.call_g cal_50 (fun F w hF hw => c50_1 hw (hF _ (K.m0)))) rfl ?_
    refine zN ?_
    refine qp (K.Pure.eq (K.not_d rfl) (show _ = Value.bool (decide (0 ≤ y ∧ y ≤ m.D - 1)) from by simp)) ?_
    refine qp (K.pick_t rfl) ?_
    refine qa ?_
    refine sn ?_
    refine K.ret ?_
    refine K.end_ret (fun w _ => K.res_tmp rfl w) ?_
    exact K.gives_b rfl (by rw [decide_eq_decide]; exact ⟨fun h => ⟨hg13, h⟩, fun h => h.2⟩)
  try replace hg13 := of_decide_eq_false hg13
  iterate 8 refine qs ?_
  refine qp (K.pick_f rfl) ?_
  refine qa ?_
  refine sn ?_
  refine K.ret ?_
  refine K.end_ret (fun w _ => K.res_tmp rfl w) ?_
  exact K.gives_b rfl (by rw [eq_comm, decide_eq_false_iff_not]; exact fun h => hg13 h.1)

set_option maxRecDepth 100000 in
theorem c81 {m : Mod} {A B C : Option Addr} {c d e : Nat} {x y : Int} {w : World} (hW : 1 ≤ m.W ∧ m.W ≤ 8) (hD : 1 ≤ m.D ∧ m.D ≤ 8) :
    Calls Tryd.prog 81 [.agg #[.int .i64 m.W, .int .i64 m.D, .slice A m.hs.length c, .slice B m.ps.length d, .slice C m.ss.length e], .int .i64 x, .int .i64 y].toArray w (K.Gives (.bool (decide (onF m.W m.D x y))) w) := by
  refine K.enter (args := [.agg #[.int .i64 m.W, .int .i64 m.D, .slice A m.hs.length c, .slice B m.ps.length d, .slice C m.ss.length e], .int .i64 x, .int .i64 y]) Tryd.func81 rfl (n := 16) rfl ?_
  simp only [List.replicate, List.cons_append, List.nil_append]
  refine sr ?_
  refine K.seq_new (K.box) rfl ?_
  intro b3
  refine zN ?_
  refine qa ?_
  refine sn ?_
  refine sr ?_
  refine qm ?_
  refine qp (K.fieldAddr_lit fo_26_0 rfl) ?_
  refine K.seq_sil (K.load1_own one_3 rfl (K.m0) rfl) rfl ?_
  refine zN ?_
  refine qp (K.sub_i64 rfl rfl (by omega)) ?_
  refine K.seq_call (K.call_g cal_57 (fun F w hF hw => c57 w)) rfl ?_
  refine zN ?_
  refine qm ?_
  refine K.split 12 rfl (fun hg12 => ?_) (fun hg12 => ?_)
  · try replace hg12 := of_decide_eq_true hg12
    refine qm ?_
    refine qp (K.fieldAddr_lit fo_26_1 rfl) ?_
    refine K.seq_sil (K.load1_own one_3 rfl (K.m0) rfl) rfl ?_
    refine zN ?_
    refine qp (K.sub_i64 rfl rfl (by omega)) ?_
    refine K.seq_call (K.call_g cal_57 (fun F w hF hw => c57 w)) rfl ?_
    refine zN ?_
    refine qp (K.pick_t rfl) ?_
    refine qa ?_
    refine sn ?_
    refine K.ret ?_
    refine K.end_ret (fun w _ => K.res_tmp rfl w) ?_
    exact K.gives_b rfl (by rw [decide_eq_decide]; exact ⟨fun h => ⟨hg12, h⟩, fun h => h.2⟩)
  try replace hg12 := of_decide_eq_false hg12
  iterate 5 refine qs ?_
  refine qp (K.pick_f rfl) ?_
  refine qa ?_
  refine sn ?_
  refine K.ret ?_
  refine K.end_ret (fun w _ => K.res_tmp rfl w) ?_
  exact K.gives_b rfl (by rw [eq_comm, decide_eq_false_iff_not]; exact fun h => hg12 h.1)

end Go.Proofs.YthkgnhcknkjgdaaDoor
