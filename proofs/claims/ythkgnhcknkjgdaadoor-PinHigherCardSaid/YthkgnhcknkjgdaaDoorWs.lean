/-
  Walks of the program's functions, printed by program: what each returns.
  Conditions stand in each theorem.
-/
import Derived.WalkArith
import Derived.Laws.Closers25b
import Derived.Test.YthkgnhcknkjgdaaDoorS3
import Derived.Test.YthkgnhcknkjgdaaDoorWk
set_option linter.unusedSimpArgs false
set_option linter.unusedVariables false
namespace Go.Proofs.YthkgnhcknkjgdaaDoor
open Go.RowKit Go
open Go.K (setd setn ev nth over cl eI eP eT setM setF)
attribute [local irreducible] K.blk K.row
def uand (a b : Int) : Int := IntKind.u64.wrap (BitVec.ofInt IntKind.u64.bits a &&& BitVec.ofInt IntKind.u64.bits b).toNat
def ushr (a n : Int) : Int := a.fdiv (2 ^ min n.toNat IntKind.u64.bits)
def oc1 (x : Int) : Int := IntKind.u64.wrap (uand (ushr x 1) 6148914691236517205 + uand x 6148914691236517205)
def oc2 (x : Int) : Int := IntKind.u64.wrap (uand (ushr x 2) 3689348814741910323 + uand x 3689348814741910323)
def oc3 (x : Int) : Int := uand (IntKind.u64.wrap (ushr x 4 + x)) 1085102592571150095
def oc4 (n x : Int) : Int := IntKind.u64.wrap (x + ushr x n)
def oc5 (x : Int) : Int := IntKind.i64.wrap (BitVec.ofInt IntKind.i64.bits (IntKind.i64.wrap x) &&& BitVec.ofInt IntKind.i64.bits 127).toNat
theorem oc_all : (List.range 64).all (fun s => decide (oc5 (oc4 32 (oc4 16 (oc4 8 (oc3 (oc2 (oc1 ((s : Nat) : Int))))))) = (((bitsL ((s : Nat) : Int)).length : Nat) : Int))) = true := by decide +kernel
theorem oc_val {x : Int} (hs : 0 ≤ x ∧ x ≤ 63) : oc5 (oc4 32 (oc4 16 (oc4 8 (oc3 (oc2 (oc1 x)))))) = ((bitsL x).length : Int) := by
  obtain ⟨n, rfl⟩ := Int.eq_ofNat_of_zero_le hs.1
  have h := List.all_eq_true.1 oc_all n (List.mem_range.2 (by omega))
  simpa using h

set_option maxRecDepth 100000 in
theorem c104 {x : Int} (hx : 0 ≤ x ∧ x ≤ 63) (w : World) :
    Calls Tryd.prog 104 [.int .u64 x].toArray w (K.Gives (.int .i64 (bitsL x).length) w) := by
  refine K.enter (args := [.int .u64 x]) Tryd.func104 rfl (n := 34) rfl ?_
  simp only [List.replicate, List.cons_append, List.nil_append]
  refine sr ?_
  refine qa ?_
  refine sn ?_
  refine sr ?_
  refine qm ?_
  refine qp (K.shr_int rfl rfl (by decide)) ?_
  refine qp (K.and_int rfl rfl) ?_
  refine qm ?_
  refine qp (K.and_int rfl rfl) ?_
  refine qp (K.Pure.eq (K.add_wrap rfl rfl) (show _ = .int .u64 (oc1 x) from rfl)) ?_
  refine qa ?_
  refine sn ?_
  refine sr ?_
  refine qm ?_
  refine qp (K.shr_int rfl rfl (by decide)) ?_
  refine qp (K.and_int rfl rfl) ?_
  refine qm ?_
  refine qp (K.and_int rfl rfl) ?_
  refine qp (K.Pure.eq (K.add_wrap rfl rfl) (show _ = .int .u64 (oc2 (oc1 x)) from rfl)) ?_
  refine qa ?_
  refine sn ?_
  refine sr ?_
  refine qm ?_
  refine qp (K.shr_int rfl rfl (by decide)) ?_
  refine qm ?_
  refine qp (K.add_wrap rfl rfl) ?_
  refine qp (K.Pure.eq (K.and_int rfl rfl) (show _ = .int .u64 (oc3 (oc2 (oc1 x))) from rfl)) ?_
  refine qa ?_
  refine sn ?_
  refine sr ?_
  iterate 2 refine qm ?_
  refine qp (K.shr_int rfl rfl (by decide)) ?_
  refine qp (K.Pure.eq (K.add_wrap rfl rfl) (show _ = .int .u64 (oc4 8 (oc3 (oc2 (oc1 x)))) from rfl)) ?_
  refine qa ?_
  refine sn ?_
  refine sr ?_
  iterate 2 refine qm ?_
  refine qp (K.shr_int rfl rfl (by decide)) ?_
  refine qp (K.Pure.eq (K.add_wrap rfl rfl) (show _ = .int .u64 (oc4 16 (oc4 8 (oc3 (oc2 (oc1 x))))) from rfl)) ?_
  refine qa ?_
  refine sn ?_
  refine sr ?_
  iterate 2 refine qm ?_
  refine qp (K.shr_int rfl rfl (by decide)) ?_
  refine qp (K.Pure.eq (K.add_wrap rfl rfl) (show _ = .int .u64 (oc4 32 (oc4 16 (oc4 8 (oc3 (oc2 (oc1 x)))))) from rfl)) ?_
  refine qa ?_
  refine sn ?_
  refine sr ?_
  refine qm ?_
  refine K.seq_pure (K.conv_int ik_145 ik_3 rfl) rfl ?_
  refine zN ?_
  refine qp (K.and_int rfl rfl) ?_
  refine qa ?_
  refine sn ?_
  refine K.ret ?_
  refine K.end_ret (fun w _ => K.res_tmp rfl w) ?_
  exact K.gives_i rfl (oc_val hx)

set_option maxRecDepth 100000 in
theorem c80 {x : Int} (hx : 0 ≤ x ∧ x ≤ 63) (w : World) :
    Calls Tryd.prog 80 [.int .u64 x].toArray w (K.Gives (.int .i64 (bitsL x).length) w) := by
  refine K.enter (args := [.int .u64 x]) Tryd.func80 rfl (n := 7) rfl ?_
  simp only [List.replicate, List.cons_append, List.nil_append]
  refine sr ?_
  refine qa ?_
  refine sn ?_
  refine K.seq ?_
  refine K.cond_false rfl ?_
  refine K.skip ?_
  refine K.norm_then ?_
  refine sr ?_
  refine qm ?_
  refine K.seq_call (K.call_g cal_104 (fun F w hF hw => c104 hx w)) rfl ?_
  refine zN ?_
  refine qa ?_
  refine sn ?_
  refine K.ret ?_
  refine K.end_ret (fun w _ => K.res_tmp rfl w) ?_
  exact K.gives rfl

set_option maxRecDepth 100000 in
theorem c111 {a : Int} (w : World) :
    Calls Tryd.prog 111 [.int .i64 a].toArray w (K.Gives (.bool false) w) := by
  refine K.enter (args := [.int .i64 a]) Tryd.func111 rfl (n := 5) rfl ?_
  simp only [List.replicate, List.cons_append, List.nil_append]
  refine sr ?_
  refine qa ?_
  refine sn ?_
  refine sr ?_
  iterate 2 refine qm ?_
  refine qp (K.neq rfl rfl) ?_
  refine qa ?_
  refine sn ?_
  refine K.ret ?_
  refine K.end_ret (fun w _ => K.res_tmp rfl w) ?_
  exact K.gives_b rfl (by simp)

set_option maxRecDepth 100000 in
theorem c110 {a b : Int} (w : World) :
    Calls Tryd.prog 110 [.int .i64 a, .int .i64 b].toArray w (K.Gives (.int .i64 (cmpS a b)) w) := by
  refine K.enter (args := [.int .i64 a, .int .i64 b]) Tryd.func110 rfl (n := 18) rfl ?_
  simp only [List.replicate, List.cons_append, List.nil_append]
  refine sr ?_
  refine qa ?_
  refine sn ?_
  refine sr ?_
  refine qm ?_
  refine K.seq_call (K.call_g cal_111 (fun F w hF hw => c111 w)) rfl ?_
  refine zN ?_
  refine qa ?_
  refine sn ?_
  refine sr ?_
  refine qm ?_
  refine K.seq_call (K.call_g cal_111 (fun F w hF hw => c111 w)) rfl ?_
  refine zN ?_
  refine qa ?_
  refine sn ?_
  refine K.seq ?_
  refine sr ?_
  refine qm ?_
  refine sn ?_
  refine K.cond rfl (fun ht11 => ?_) (fun ht11 => ?_)
  · try replace ht11 := of_decide_eq_true ht11
    cases ht11
  try replace ht11 := of_decide_eq_false ht11
  refine K.skip ?_
  refine K.norm_then ?_
  refine K.seq ?_
  refine sr ?_
  refine qm ?_
  refine sn ?_
  refine K.cond rfl (fun ht13 => ?_) (fun ht13 => ?_)
  · try replace ht13 := of_decide_eq_true ht13
    cases ht13
  try replace ht13 := of_decide_eq_false ht13
  refine K.skip ?_
  refine K.norm_then ?_
  refine K.seq ?_
  refine sr ?_
  iterate 2 refine qm ?_
  refine qp (K.lss rfl rfl) ?_
  refine sn ?_
  refine K.cond rfl (fun ht16 => ?_) (fun ht16 => ?_)
  · try replace ht16 := of_decide_eq_true ht16
    refine sr ?_
    refine qa ?_
    refine sn ?_
    refine K.ret ?_
    refine K.ret_then ?_
    refine K.end_ret (fun w _ => K.res_tmp rfl w) ?_
    exact K.gives_i rfl (by unfold cmpS; rw [if_pos ht16])
  try replace ht16 := of_decide_eq_false ht16
  refine K.skip ?_
  refine K.norm_then ?_
  refine K.seq ?_
  refine sr ?_
  iterate 2 refine qm ?_
  refine qp (K.gtr rfl rfl) ?_
  refine sn ?_
  refine K.cond rfl (fun ht19 => ?_) (fun ht19 => ?_)
  · try replace ht19 := of_decide_eq_true ht19
    refine sr ?_
    refine qa ?_
    refine sn ?_
    refine K.ret ?_
    refine K.ret_then ?_
    refine K.end_ret (fun w _ => K.res_tmp rfl w) ?_
    exact K.gives_i rfl (by unfold cmpS; rw [if_neg ht16, if_pos ht19])
  try replace ht19 := of_decide_eq_false ht19
  refine K.skip ?_
  refine K.norm_then ?_
  refine sr ?_
  refine qa ?_
  refine sn ?_
  refine K.ret ?_
  refine K.end_ret (fun w _ => K.res_tmp rfl w) ?_
  exact K.gives_i rfl (by unfold cmpS; rw [if_neg ht16, if_neg ht19])

set_option maxRecDepth 100000 in
theorem c105 {A B : Option Addr} {c d : Nat} {xs ys : List Int} {w : World} (hX : K.Rd w A 1 K.eI xs) (hY : K.Rd w B 1 K.eI ys) (hn : xs.length ≤ 4611686018427387904) (hm : ys.length ≤ 4611686018427387904) :
    Calls Tryd.prog 105 [.slice A xs.length c, .slice B ys.length d].toArray w (K.Gives (.int .i64 (cmpL xs ys)) w) := by
  refine K.enter (args := [.slice A xs.length c, .slice B ys.length d]) Tryd.func105 rfl (n := 34) rfl ?_
  simp only [List.replicate, List.cons_append, List.nil_append]
  refine sr ?_
  refine qa ?_
  refine sn ?_
  refine K.seq ?_
  refine sr ?_
  refine qm ?_
  refine qp (K.len_sl sl_22 rfl) ?_
  refine qm ?_
  refine sn ?_
  refine K.block ?_
  refine K.loopW [11] [4, 5, 6, 7, 8, 12, 13, 14, 15, 16, 17, 18, 19, 20, 21, 22, 23, 24, 25, 26, 27, 28, 29, 30] (fun vi L => ∃ k : Nat, vi = [.int .i64 (k : Int)] ∧ L = [] ∧ k ≤ xs.length ∧ k ≤ ys.length ∧ ∀ j, j < k → xs.getD j default = ys.getD j default) (fun vi => xs.length - (intOf (K.nth vi 0)).toNat) ?_ ?_
  · exact ⟨0, rfl, rfl, Nat.zero_le _, Nat.zero_le _, fun j hj => absurd hj (Nat.not_lt_zero j)⟩
  intro vi vr L hJ
  obtain ⟨k, rfl, rfl, hkn, hkm, hall⟩ := hJ
  try dsimp only [setd, setn, ev, nth, over, cl, eI, eP, eT, eN, eS, setM, setF, List.map, List.append, List.drop, List.take]
  refine sr ?_
  refine qp (K.lss rfl rfl) ?_
  refine sn ?_
  refine K.seq ?_
  refine K.cond rfl (fun ht12 => ?_) (fun ht12 => ?_)
  · try replace ht12 := of_decide_eq_true ht12
    have hk : k < xs.length := by omega
    refine K.skip ?_
    refine K.norm_then ?_
    refine K.seq ?_
    refine K.block ?_
    refine sr ?_
    refine qm ?_
    refine K.seq_ix (M := []) _ hX.sl sl_22 rfl rfl rfl (by omega) rfl ?_
    intro p14 hp14
    refine zN ?_
    refine K.seq_sil (K.load1 one_3 rfl (hp14.any)) rfl ?_
    refine zN ?_
    iterate 2 refine qa ?_
    refine sn ?_
    refine K.seq ?_
    refine sr ?_
    iterate 2 refine qm ?_
    refine qp (K.len_sl sl_22 rfl) ?_
    refine qp (K.geq rfl rfl) ?_
    refine sn ?_
    refine K.cond rfl (fun ht19 => ?_) (fun ht19 => ?_)
    · try replace ht19 := of_decide_eq_true ht19
      refine sr ?_
      refine qa ?_
      refine sn ?_
      refine K.ret ?_
      refine K.ret_then ?_
      refine K.ret_block ?_
      refine K.ret_then ?_
      refine K.ret_then ?_
      refine K.ret_block ?_
      refine K.ret_then ?_
      refine K.end_ret (fun w _ => K.res_tmp rfl w) ?_
      exact K.gives_i rfl (cmpL_long hall hk (by omega)).symm
    try replace ht19 := of_decide_eq_false ht19
    have hk2 : k < ys.length := by omega
    refine K.skip ?_
    refine K.norm_then ?_
    refine sr ?_
    iterate 2 refine qm ?_
    refine K.seq_ix (M := []) _ hY.sl sl_22 rfl rfl rfl (by omega) rfl ?_
    intro p22 hp22
    refine zN ?_
    refine K.seq_sil (K.load1 one_3 rfl (hp22.any)) rfl ?_
    refine zN ?_
    refine qa ?_
    refine sn ?_
    refine sr ?_
    iterate 2 refine qm ?_
    refine K.seq_call (K.call_g cal_110 (fun F w hF hw => c110 w)) rfl ?_
    refine zN ?_
    refine qa ?_
    refine sn ?_
    refine sr ?_
    refine qm ?_
    refine qp (K.neq rfl rfl) ?_
    refine sn ?_
    refine K.cond rfl (fun ht28 => ?_) (fun ht28 => ?_)
    · try replace ht28 := of_decide_eq_true ht28
      refine sr ?_
      refine qm ?_
      refine qa ?_
      refine sn ?_
      refine K.ret ?_
      refine K.ret_block ?_
      refine K.ret_then ?_
      refine K.ret_then ?_
      refine K.ret_block ?_
      refine K.ret_then ?_
      refine K.end_ret (fun w _ => K.res_tmp rfl w) ?_
      exact K.gives_i rfl (cmpL_diff hall hk hk2 (by omega)).symm
    try replace ht28 := of_decide_eq_false ht28
    refine K.skip ?_
    refine K.norm_block ?_
    refine K.norm_then ?_
    refine K.region_lit ?_
    refine qp (K.add_i64 rfl rfl (by omega)) ?_
    refine qm ?_
    refine K.seq_nil ?_
    exact K.round_endW [.int .i64 ((k : Int) + 1)] ⟨k + 1, rfl, rfl, by omega, by omega, K.lt_succ_case hall (cmp0 (by omega))⟩ (by simp [K.nth, intOf]; omega) (List.Sublist.refl _) (by kernel_rfl)
  try replace ht12 := of_decide_eq_false ht12
  refine K.exit ?_
  refine K.exit_then ?_
  refine K.exit_then ?_
  refine K.exit_here ?_
  refine K.norm_then ?_
  refine K.seq ?_
  refine sr ?_
  refine qm ?_
  refine qp (K.len_sl sl_22 rfl) ?_
  refine qm ?_
  refine qp (K.len_sl sl_22 rfl) ?_
  refine qp (K.lss rfl rfl) ?_
  refine sn ?_
  refine K.cond rfl (fun ht35 => ?_) (fun ht35 => ?_)
  · try replace ht35 := of_decide_eq_true ht35
    refine sr ?_
    refine qa ?_
    refine sn ?_
    refine K.ret ?_
    refine K.ret_then ?_
    refine K.end_ret (fun w _ => K.res_tmp rfl w) ?_
    exact K.gives_i rfl (cmpL_short hall (by omega) (by omega)).symm
  try replace ht35 := of_decide_eq_false ht35
  refine K.skip ?_
  refine K.norm_then ?_
  refine sr ?_
  refine qa ?_
  refine sn ?_
  refine K.ret ?_
  refine K.end_ret (fun w _ => K.res_tmp rfl w) ?_
  exact K.gives_i rfl (cmpL_same hall (by omega) (by omega)).symm

theorem few_skip {p : Nat → Bool} {n s : Nat} (h1 : (fewF p n s).isSome = true) (h : (ptsS n s).length > ((fewF p n s).getD []).length ∨ ((ptsS n s).length = ((fewF p n s).getD []).length ∧ cmpL (ptsS n s) ((fewF p n s).getD []) > 0)) : fewF p n (s + 1) = fewF p n s := by
  rw [fewF]
  cases e : fewF p n s with
  | none => rw [e] at h1; cases h1
  | some l =>
    rw [e] at h
    simp only [Option.getD_some] at h
    simp only
    rw [if_pos h]
theorem few_yes {p : Nat → Bool} {n s : Nat} (h1 : (fewF p n s).isSome = true → ¬ ((ptsS n s).length > ((fewF p n s).getD []).length ∨ ((ptsS n s).length = ((fewF p n s).getD []).length ∧ cmpL (ptsS n s) ((fewF p n s).getD []) > 0))) (h : p s = true) : fewF p n (s + 1) = some (ptsS n s) := by
  rw [fewF]
  cases e : fewF p n s with
  | none => simp only; rw [if_pos h]
  | some l =>
    rw [e] at h1
    have h2 := h1 rfl
    simp only [Option.getD_some] at h2
    simp only
    rw [if_neg h2, if_pos h]
theorem few_no {p : Nat → Bool} {n s : Nat} (h : p s = false) : fewF p n (s + 1) = fewF p n s := by
  rw [fewF]
  cases e : fewF p n s with
  | none => simp only; rw [if_neg (by simp [h])]
  | some l =>
    simp only
    split
    · rfl
    · rw [if_neg (by simp [h])]
theorem few_len {p : Nat → Bool} {n : Nat} : ∀ s, ((fewF p n s).getD []).length ≤ n
  | 0 => Nat.zero_le _
  | s + 1 => by
    have ih := few_len (p := p) (n := n) s
    rw [fewF]
    cases e : fewF p n s with
    | none =>
      simp only
      split
      · exact pts_len
      · exact Nat.zero_le _
    | some l =>
      rw [e] at ih
      simp only
      split
      · exact ih
      · split
        · exact pts_len
        · exact ih


set_option maxRecDepth 100000 in
theorem c82 {gf n : Nat} {cap : List Value} {p : Nat → Bool} {w : World} (hT : Tab w) (hn6 : n ≤ 6) (hcal : K.callable Tryd.prog gf = true) (hf : ∀ s : Nat, s < 2 ^ n → ∀ w1, Below w.heap.size w w1 → Calls Tryd.prog gf ([Value.int .i64 (s : Int)] ++ cap).toArray w1 (K.Gives (.bool (p s)) w1)) :
    Calls Tryd.prog 82 [.int .i64 (n : Int), .func (.func gf) #[] cap.toArray].toArray w (K.Ret (fun r : Option Addr × Nat => ((fewS p n).getD []).length = 0 ∨ ∃ b, r.1 = some ⟨b, 0, none⟩) (fun r => .tuple #[.slice r.1 ((fewS p n).getD []).length r.2, .bool (fewS p n).isSome]) (fun r => [K.row (.slice r.1 ((fewS p n).getD []).length r.2) 3 1 ((fewS p n).getD []).length (((fewS p n).getD []).flatMap K.eI)]) w) := by
  have hpb := pow_bd hn6
  obtain ⟨_, hin, _⟩ := lst_spec hn6
  refine K.enter (args := [.int .i64 (n : Int), .func (.func gf) #[] cap.toArray]) Tryd.func82 rfl (n := 42) rfl ?_
  simp only [List.replicate, List.cons_append, List.nil_append]
  refine sr ?_
  iterate 2 refine qa ?_
  refine sn ?_
  refine K.seq ?_
  refine sr ?_
  refine K.nil_row (e := 3) (size := 1) ?_
  iterate 2 refine qm ?_
  refine qp (K.Pure.eq (K.shl_int rfl rfl (by omega)) (show _ = Value.int .i64 ((2 ^ n : Nat) : Int) from by rw [shl_val hn6])) ?_
  refine qm ?_
  refine sn ?_
  refine K.block ?_
  refine K.loopW [4, 5, 11] [6, 7, 12, 13, 14, 15, 16, 17, 18, 19, 20, 21, 22, 23, 24, 25, 26, 27, 28, 29, 30, 31, 32, 33, 34, 35, 36, 37, 38, 39, 40, 41] (fun vi L => ∃ (s : Nat) (Q1 : Option Addr) (q1 : Nat), vi = [.slice Q1 ((fewF p n s).getD []).length q1, .bool (fewF p n s).isSome, .int .i64 (s : Int)] ∧ L = [K.row (.slice Q1 ((fewF p n s).getD []).length q1) 3 1 ((fewF p n s).getD []).length (((fewF p n s).getD []).flatMap K.eI)] ∧ s ≤ 2 ^ n) (fun vi => 2 ^ n - (intOf (K.nth vi 2)).toNat) ?_ ?_
  · exact ⟨0, none, 0, rfl, rfl, Nat.zero_le _⟩
  intro vi vr L hJ
  obtain ⟨s, Q1, q1, rfl, rfl, hsn⟩ := hJ
  try dsimp only [setd, setn, ev, nth, over, cl, eI, eP, eT, eN, eS, setM, setF, List.map, List.append, List.drop, List.take]
  refine sr ?_
  refine qp (K.lss rfl rfl) ?_
  refine sn ?_
  refine K.seq ?_
  refine K.cond rfl (fun ht12 => ?_) (fun ht12 => ?_)
  · try replace ht12 := of_decide_eq_true ht12
    have hs : s < 2 ^ n := by omega
    have hfl := few_len (p := p) (n := n) s
    have hpl := pts_len (n := n) (s := s)
    refine K.skip ?_
    refine K.norm_then ?_
    refine K.seq ?_
    refine K.block ?_
    refine sr ?_
    refine qm ?_
    refine qa ?_
    refine sn ?_
    refine sr ?_
    refine qm ?_
    refine K.seq_loud (K.call_f cal_68 (fun F w hF hw => (by have hh := c68 (hT.pass hw) (s := (s : Int)) (by omega); rw [(hin s hs).2.2] at hh; exact hh))) rfl ?_
    rintro ⟨Q2, q2⟩ hq2
    refine zN ?_
    refine qa ?_
    refine sn ?_
    refine K.seq ?_
    refine K.seq ?_
    refine K.use_row K.m1 (fun hQ => ?_)
    refine K.region_lit ?_
    iterate 2 refine qm ?_
    refine K.split 17 rfl (fun hg17 => ?_) (fun hg17 => ?_)
    · try replace hg17 := of_decide_eq_true hg17
      refine qm ?_
      refine qp (K.len_sl sl_22 rfl) ?_
      refine qm ?_
      refine qp (K.len_sl sl_22 rfl) ?_
      refine qp (K.gtr rfl rfl) ?_
      refine qm ?_
      refine K.split 23 rfl (fun hg23 => ?_) (fun hg23 => ?_)
      · try replace hg23 := of_decide_eq_true hg23
        iterate 11 refine qs ?_
        refine qp (K.pick_t rfl) ?_
        refine qp (K.pick_t rfl) ?_
        refine sn ?_
        refine K.cond_true rfl ?_
        refine K.exit ?_
        refine K.exit_then ?_
        refine K.exit_here ?_
        refine K.norm_then ?_
        refine K.region_lit ?_
        refine qp (K.add_i64 rfl rfl (by omega)) ?_
        refine qm ?_
        refine K.seq_nil ?_
        have hfe : fewF p n (s + 1) = fewF p n s := by
          first
            | exact few_skip hg17 (.inl (by omega))
            | exact few_skip hg17 (.inr ⟨by omega, by omega⟩)
        exact K.round_endW (L'' := [K.row (.slice Q1 ((fewF p n s).getD []).length q1) 3 1 ((fewF p n s).getD []).length (((fewF p n s).getD []).flatMap K.eI)]) [.slice Q1 ((fewF p n s).getD []).length q1, .bool (fewF p n s).isSome, .int .i64 ((s : Int) + 1)] ⟨s + 1, Q1, q1, by rw [hfe]; rfl, by rw [hfe], by omega⟩ (by simp [K.nth, intOf]; omega) (by repeat (first | exact List.Sublist.refl _ | apply List.Sublist.cons)) (by kernel_rfl)
      try replace hg23 := of_decide_eq_false hg23
      refine qm ?_
      refine qp (K.len_sl sl_22 rfl) ?_
      refine qm ?_
      refine qp (K.len_sl sl_22 rfl) ?_
      refine qp (K.eql rfl rfl) ?_
      refine qm ?_
      refine K.split 29 rfl (fun hg29 => ?_) (fun hg29 => ?_)
      · try replace hg29 := of_decide_eq_true hg29
        iterate 2 refine qm ?_
        refine K.seq_call (K.call_g cal_105 (fun F w hF hw => (by have h1 := K.Rd.own (e := K.eI) hw (hF _ (K.m0)) hq2 (fun _ => rfl) (by decide); have h2 := K.Rd.own (e := K.eI) hw (hF _ (K.m1)) hQ (fun _ => rfl) (by decide); exact c105 h1 h2 (by omega) (by omega)))) rfl ?_
        refine zN ?_
        refine qp (K.gtr rfl rfl) ?_
        refine qp (K.pick_t rfl) ?_
        refine qp (K.pick_f rfl) ?_
        refine qp (K.pick_t rfl) ?_
        refine sn ?_
        refine K.cond rfl (fun ht36 => ?_) (fun ht36 => ?_)
        · try replace ht36 := of_decide_eq_true ht36
          refine K.exit ?_
          refine K.exit_then ?_
          refine K.exit_here ?_
          refine K.norm_then ?_
          refine K.region_lit ?_
          refine qp (K.add_i64 rfl rfl (by omega)) ?_
          refine qm ?_
          refine K.seq_nil ?_
          have hfe : fewF p n (s + 1) = fewF p n s := by
            first
              | exact few_skip hg17 (.inl (by omega))
              | exact few_skip hg17 (.inr ⟨by omega, by omega⟩)
          exact K.round_endW (L'' := [K.row (.slice Q1 ((fewF p n s).getD []).length q1) 3 1 ((fewF p n s).getD []).length (((fewF p n s).getD []).flatMap K.eI)]) [.slice Q1 ((fewF p n s).getD []).length q1, .bool (fewF p n s).isSome, .int .i64 ((s : Int) + 1)] ⟨s + 1, Q1, q1, by rw [hfe]; rfl, by rw [hfe], by omega⟩ (by simp [K.nth, intOf]; omega) (by repeat (first | exact List.Sublist.refl _ | apply List.Sublist.cons)) (by kernel_rfl)
        try replace ht36 := of_decide_eq_false ht36
        refine K.skip ?_
        refine K.norm_then ?_
        refine sr ?_
        iterate 2 refine qm ?_
        refine K.seq_call (K.callv_g (first := []) (cap := cap) rfl hcal (fun F w1 _ hw => hf s hs w1 hw.1)) rfl ?_
        refine zN ?_
        refine sn ?_
        refine K.cond rfl (fun ht39 => ?_) (fun ht39 => ?_)
        · try replace ht39 := of_decide_eq_true ht39
          refine K.region_lit ?_
          refine qm ?_
          iterate 2 refine qa ?_
          refine K.seq_nil ?_
          refine K.norm_block ?_
          refine K.norm_then ?_
          refine K.region_lit ?_
          refine qp (K.add_i64 rfl rfl (by omega)) ?_
          refine qm ?_
          refine K.seq_nil ?_
          have hfe : fewF p n (s + 1) = some (ptsS n s) := few_yes (fun h0 => by first | omega | (rw [h0] at hg17; cases hg17)) ht39
          exact K.round_endW (L'' := [K.row (.slice Q2 (ptsS n s).length q2) 3 1 (ptsS n s).length ((ptsS n s).flatMap K.eI)]) [.slice Q2 (ptsS n s).length q2, .bool true, .int .i64 ((s : Int) + 1)] ⟨s + 1, Q2, q2, by rw [hfe]; rfl, by rw [hfe]; rfl, by omega⟩ (by simp [K.nth, intOf]; omega) (List.Sublist.cons_cons _ (List.nil_sublist _)) (by kernel_rfl)
        try replace ht39 := of_decide_eq_false ht39
        refine K.skip ?_
        refine K.norm_block ?_
        refine K.norm_then ?_
        refine K.region_lit ?_
        refine qp (K.add_i64 rfl rfl (by omega)) ?_
        refine qm ?_
        refine K.seq_nil ?_
        have hfe : fewF p n (s + 1) = fewF p n s := few_no ht39
        exact K.round_endW (L'' := [K.row (.slice Q1 ((fewF p n s).getD []).length q1) 3 1 ((fewF p n s).getD []).length (((fewF p n s).getD []).flatMap K.eI)]) [.slice Q1 ((fewF p n s).getD []).length q1, .bool (fewF p n s).isSome, .int .i64 ((s : Int) + 1)] ⟨s + 1, Q1, q1, by rw [hfe]; rfl, by rw [hfe], by omega⟩ (by simp [K.nth, intOf]; omega) (by repeat (first | exact List.Sublist.refl _ | apply List.Sublist.cons)) (by kernel_rfl)
      try replace hg29 := of_decide_eq_false hg29
      iterate 4 refine qs ?_
      refine qp (K.pick_f rfl) ?_
      refine qp (K.pick_f rfl) ?_
      refine qp (K.pick_t rfl) ?_
      refine sn ?_
      refine K.cond_false rfl ?_
      refine K.skip ?_
      refine K.norm_then ?_
      refine sr ?_
      iterate 2 refine qm ?_
      refine K.seq_call (K.callv_g (first := []) (cap := cap) rfl hcal (fun F w1 _ hw => hf s hs w1 hw.1)) rfl ?_
      refine zN ?_
      refine sn ?_
      refine K.cond rfl (fun ht39 => ?_) (fun ht39 => ?_)
      · try replace ht39 := of_decide_eq_true ht39
        refine K.region_lit ?_
        refine qm ?_
        iterate 2 refine qa ?_
        refine K.seq_nil ?_
        refine K.norm_block ?_
        refine K.norm_then ?_
        refine K.region_lit ?_
        refine qp (K.add_i64 rfl rfl (by omega)) ?_
        refine qm ?_
        refine K.seq_nil ?_
        have hfe : fewF p n (s + 1) = some (ptsS n s) := few_yes (fun h0 => by first | omega | (rw [h0] at hg17; cases hg17)) ht39
        exact K.round_endW (L'' := [K.row (.slice Q2 (ptsS n s).length q2) 3 1 (ptsS n s).length ((ptsS n s).flatMap K.eI)]) [.slice Q2 (ptsS n s).length q2, .bool true, .int .i64 ((s : Int) + 1)] ⟨s + 1, Q2, q2, by rw [hfe]; rfl, by rw [hfe]; rfl, by omega⟩ (by simp [K.nth, intOf]; omega) (List.Sublist.cons_cons _ (List.nil_sublist _)) (by kernel_rfl)
      try replace ht39 := of_decide_eq_false ht39
      refine K.skip ?_
      refine K.norm_block ?_
      refine K.norm_then ?_
      refine K.region_lit ?_
      refine qp (K.add_i64 rfl rfl (by omega)) ?_
      refine qm ?_
      refine K.seq_nil ?_
      have hfe : fewF p n (s + 1) = fewF p n s := few_no ht39
      exact K.round_endW (L'' := [K.row (.slice Q1 ((fewF p n s).getD []).length q1) 3 1 ((fewF p n s).getD []).length (((fewF p n s).getD []).flatMap K.eI)]) [.slice Q1 ((fewF p n s).getD []).length q1, .bool (fewF p n s).isSome, .int .i64 ((s : Int) + 1)] ⟨s + 1, Q1, q1, by rw [hfe]; rfl, by rw [hfe], by omega⟩ (by simp [K.nth, intOf]; omega) (by repeat (first | exact List.Sublist.refl _ | apply List.Sublist.cons)) (by kernel_rfl)
    try replace hg17 := of_decide_eq_false hg17
    iterate 18 refine qs ?_
    refine qp (K.pick_f rfl) ?_
    refine sn ?_
    refine K.cond_false rfl ?_
    refine K.skip ?_
    refine K.norm_then ?_
    refine sr ?_
    iterate 2 refine qm ?_
    refine K.seq_call (K.callv_g (first := []) (cap := cap) rfl hcal (fun F w1 _ hw => hf s hs w1 hw.1)) rfl ?_
    refine zN ?_
    refine sn ?_
    refine K.cond rfl (fun ht39 => ?_) (fun ht39 => ?_)
    · try replace ht39 := of_decide_eq_true ht39
      refine K.region_lit ?_
      refine qm ?_
      iterate 2 refine qa ?_
      refine K.seq_nil ?_
      refine K.norm_block ?_
      refine K.norm_then ?_
      refine K.region_lit ?_
      refine qp (K.add_i64 rfl rfl (by omega)) ?_
      refine qm ?_
      refine K.seq_nil ?_
      have hfe : fewF p n (s + 1) = some (ptsS n s) := few_yes (fun h0 => by first | omega | (rw [h0] at hg17; cases hg17)) ht39
      exact K.round_endW (L'' := [K.row (.slice Q2 (ptsS n s).length q2) 3 1 (ptsS n s).length ((ptsS n s).flatMap K.eI)]) [.slice Q2 (ptsS n s).length q2, .bool true, .int .i64 ((s : Int) + 1)] ⟨s + 1, Q2, q2, by rw [hfe]; rfl, by rw [hfe]; rfl, by omega⟩ (by simp [K.nth, intOf]; omega) (List.Sublist.cons_cons _ (List.nil_sublist _)) (by kernel_rfl)
    try replace ht39 := of_decide_eq_false ht39
    refine K.skip ?_
    refine K.norm_block ?_
    refine K.norm_then ?_
    refine K.region_lit ?_
    refine qp (K.add_i64 rfl rfl (by omega)) ?_
    refine qm ?_
    refine K.seq_nil ?_
    have hfe : fewF p n (s + 1) = fewF p n s := few_no ht39
    exact K.round_endW (L'' := [K.row (.slice Q1 ((fewF p n s).getD []).length q1) 3 1 ((fewF p n s).getD []).length (((fewF p n s).getD []).flatMap K.eI)]) [.slice Q1 ((fewF p n s).getD []).length q1, .bool (fewF p n s).isSome, .int .i64 ((s : Int) + 1)] ⟨s + 1, Q1, q1, by rw [hfe]; rfl, by rw [hfe], by omega⟩ (by simp [K.nth, intOf]; omega) (by repeat (first | exact List.Sublist.refl _ | apply List.Sublist.cons)) (by kernel_rfl)
  try replace ht12 := of_decide_eq_false ht12
  refine K.exit ?_
  refine K.exit_then ?_
  refine K.exit_then ?_
  refine K.exit_here ?_
  refine K.norm_then ?_
  refine sr ?_
  iterate 2 refine qm ?_
  iterate 2 refine qa ?_
  refine sn ?_
  refine K.ret ?_
  refine K.end_ret (fun w _ => K.res_tmp2 rfl w) ?_
  have e0 : s = 2 ^ n := by omega
  subst e0
  exact K.use_row K.m0 (fun hQ => K.rets_v (Q1, q1) hQ rfl rfl (List.Sublist.refl _))

end Go.Proofs.YthkgnhcknkjgdaaDoor
