/-
  Walks of the program's functions, printed by program: what each returns.
  Conditions stand in each theorem.
-/
import Derived.WalkArith
import Derived.Laws.Closers25b
import Derived.Test.YtoemnobfnnjopaaDoorWb
set_option linter.unusedSimpArgs false
set_option linter.unusedVariables false
namespace Go.Proofs.YtoemnobfnnjopaaDoor
open Go.RowKit Go
open Go.K (setd setn ev nth over cl eI eP eT setM setF)
attribute [local irreducible] K.blk K.row
def eB (s : ByteArray) : List Value := [.string s]
theorem bs62 (s : ByteArray) : K.Bs Tryd.prog 62 1 [(0, .string s)] 9 [.string s] := fun w => by kernel_rfl

set_option maxRecDepth 100000 in
theorem c82 {s : ByteArray} (w : World) :
    Calls Tryd.prog 82 [.string s].toArray w (K.Gives (.bool (nameB s)) w) := by
  refine K.enter (args := [.string s]) Tryd.func82 rfl (n := 51) rfl ?_
  simp only [List.replicate, List.cons_append, List.nil_append]
  refine sr ?_
  refine qa ?_
  refine sn ?_
  refine K.seq ?_
  refine sr ?_
  refine qm ?_
  refine qp (K.len_s sT_9 rfl) ?_
  refine K.seq_call (K.call_g cal_96 (fun F w hF hw => c96 w)) rfl ?_
  refine zN ?_
  refine qp (K.not_d rfl) ?_
  refine qm ?_
  refine K.split 8 rfl (fun hg8 => ?_) (fun hg8 => ?_)
  · try replace hg8 := of_decide_eq_true hg8
    iterate 3 refine qs ?_
    refine qp (K.pick_t rfl) ?_
    refine qm ?_
    iterate 3 refine qs ?_
    refine qp (K.pick_t rfl) ?_
    refine sn ?_
    refine K.cond_true rfl ?_
    refine sr ?_
    refine qa ?_
    refine sn ?_
    refine K.ret ?_
    refine K.ret_then ?_
    refine K.end_ret (fun w _ => K.res_tmp rfl w) ?_
    first
      | exact absurd ht17 (by decide)
      | exact K.gives_b rfl (name_f1 (by omega)).symm
      | exact K.gives_b rfl (name_f2 (i := 0) (by omega) (ok_f (by omega))).symm
  try replace hg8 := of_decide_eq_false hg8
  refine qm ?_
  refine K.seq_pure (K.index_s (m := 0) sT_9 rfl rfl rfl (by omega)) rfl ?_
  refine zN ?_
  refine qp (K.lss rfl rfl) ?_
  refine qp (K.pick_f rfl) ?_
  refine qm ?_
  refine K.split 13 rfl (fun hg13 => ?_) (fun hg13 => ?_)
  · try replace hg13 := of_decide_eq_true hg13
    iterate 3 refine qs ?_
    refine qp (K.pick_t rfl) ?_
    refine sn ?_
    refine K.cond_true rfl ?_
    refine sr ?_
    refine qa ?_
    refine sn ?_
    refine K.ret ?_
    refine K.ret_then ?_
    refine K.end_ret (fun w _ => K.res_tmp rfl w) ?_
    first
      | exact absurd ht17 (by decide)
      | exact K.gives_b rfl (name_f1 (by omega)).symm
      | exact K.gives_b rfl (name_f2 (i := 0) (by omega) (ok_f (by omega))).symm
  try replace hg13 := of_decide_eq_false hg13
  refine qm ?_
  refine K.seq_pure (K.index_s (m := 0) sT_9 rfl rfl rfl (by omega)) rfl ?_
  refine zN ?_
  refine qp (K.gtr rfl rfl) ?_
  refine qp (K.pick_f rfl) ?_
  refine sn ?_
  refine K.cond rfl (fun ht17 => ?_) (fun ht17 => ?_)
  · try replace ht17 := of_decide_eq_true ht17
    refine sr ?_
    refine qa ?_
    refine sn ?_
    refine K.ret ?_
    refine K.ret_then ?_
    refine K.end_ret (fun w _ => K.res_tmp rfl w) ?_
    first
      | exact absurd ht17 (by decide)
      | exact K.gives_b rfl (name_f1 (by omega)).symm
      | exact K.gives_b rfl (name_f2 (i := 0) (by omega) (ok_f (by omega))).symm
  try replace ht17 := of_decide_eq_false ht17
  refine K.skip ?_
  refine K.norm_then ?_
  refine K.seq ?_
  refine sr ?_
  refine qa ?_
  refine sn ?_
  refine K.block ?_
  refine K.loopW [3] [2, 18, 19, 20, 21, 22, 23, 24, 25, 26, 27, 28, 29, 30, 31, 32, 33, 34, 35, 36, 37, 38, 39, 40, 41, 42, 43, 44, 45, 46, 47, 48, 49, 50, 51] (fun vi L => ∃ i : Nat, vi = [.int .i64 (i : Int)] ∧ L = [] ∧ i ≤ s.size ∧ ∀ j, j < i → okC j (K.bt s j) = true) (fun vi => s.size - (intOf (K.nth vi 0)).toNat) ?_ ?_
  · exact ⟨0, rfl, rfl, Nat.zero_le _, fun j hj => absurd hj (Nat.not_lt_zero j)⟩
  intro vi vr L hJ
  obtain ⟨i, rfl, rfl, hil, hall⟩ := hJ
  try dsimp only [setd, setn, ev, nth, over, cl, eI, eP, eT, eR, setM, setF, List.map, List.append, List.drop, List.take]
  refine K.seq ?_
  refine sr ?_
  iterate 2 refine qm ?_
  refine qp (K.len_s sT_9 rfl) ?_
  refine qp (K.lss rfl rfl) ?_
  refine sn ?_
  refine K.cond rfl (fun ht21 => ?_) (fun ht21 => ?_)
  · try replace ht21 := of_decide_eq_true ht21
    have hi : i < s.size := by omega
    refine K.skip ?_
    refine K.norm_then ?_
    refine K.seq ?_
    refine K.block ?_
    refine sr ?_
    iterate 2 refine qm ?_
    refine K.seq_pure (K.index_s (m := _) sT_9 rfl rfl rfl (by omega)) rfl ?_
    refine zN ?_
    refine qp (K.lss rfl rfl) ?_
    refine qm ?_
    refine K.split 28 rfl (fun hg28 => ?_) (fun hg28 => ?_)
    · try replace hg28 := of_decide_eq_true hg28
      iterate 4 refine qs ?_
      refine qp (K.pick_t rfl) ?_
      iterate 3 refine qm ?_
      refine K.seq_pure (K.index_s (m := _) sT_9 rfl rfl rfl (by omega)) rfl ?_
      refine zN ?_
      refine qp (K.lss rfl rfl) ?_
      refine qm ?_
      refine K.split 39 rfl (fun hg39 => ?_) (fun hg39 => ?_)
      · try replace hg39 := of_decide_eq_true hg39
        iterate 4 refine qs ?_
        refine qp (K.pick_t rfl) ?_
        refine qp (K.pick_t rfl) ?_
        iterate 3 refine qm ?_
        refine K.seq_pure (K.index_s (m := _) sT_9 rfl rfl rfl (by omega)) rfl ?_
        refine zN ?_
        refine qp (K.neq rfl rfl) ?_
        refine qp (K.pick_t rfl) ?_
        refine sn ?_
        refine K.cond rfl (fun ht51 => ?_) (fun ht51 => ?_)
        · try replace ht51 := of_decide_eq_true ht51
          refine sr ?_
          refine qa ?_
          refine sn ?_
          refine K.ret ?_
          refine K.ret_block ?_
          refine K.ret_then ?_
          refine K.ret_then ?_
          refine K.ret_block ?_
          refine K.ret_then ?_
          refine K.end_ret (fun w _ => K.res_tmp rfl w) ?_
          first
            | exact absurd ht51 (by decide)
            | exact K.gives_b rfl (name_f2 hi (ok_f (by omega))).symm
        try replace ht51 := of_decide_eq_false ht51
        refine K.skip ?_
        refine K.norm_block ?_
        refine K.norm_then ?_
        refine K.region_lit ?_
        refine qm ?_
        refine qp (K.add_i64 rfl rfl (by omega)) ?_
        refine qa ?_
        refine K.seq_nil ?_
        have hc : okC i (K.bt s i) = true := by
          first
            | exact absurd ht51 (by decide)
            | (rcases Nat.eq_zero_or_pos i with h0 | h0 <;> first | exact ok_t (by omega) | (subst h0; exact ok_t (by omega)))
        exact K.round_endW (L'' := []) [.int .i64 ((i : Int) + 1)] ⟨i + 1, rfl, rfl, by omega, K.lt_succ_case hall hc⟩ (by simp [K.nth, intOf]; omega) (List.Sublist.refl _) (by kernel_rfl)
      try replace hg39 := of_decide_eq_false hg39
      iterate 2 refine qm ?_
      refine K.seq_pure (K.index_s (m := _) sT_9 rfl rfl rfl (by omega)) rfl ?_
      refine zN ?_
      refine qp (K.gtr rfl rfl) ?_
      refine qp (K.pick_f rfl) ?_
      refine qp (K.pick_t rfl) ?_
      refine qm ?_
      refine K.split 46 rfl (fun hg46 => ?_) (fun hg46 => ?_)
      · try replace hg46 := of_decide_eq_true hg46
        iterate 2 refine qm ?_
        refine K.seq_pure (K.index_s (m := _) sT_9 rfl rfl rfl (by omega)) rfl ?_
        refine zN ?_
        refine qp (K.neq rfl rfl) ?_
        refine qp (K.pick_t rfl) ?_
        refine sn ?_
        refine K.cond rfl (fun ht51 => ?_) (fun ht51 => ?_)
        · try replace ht51 := of_decide_eq_true ht51
          refine sr ?_
          refine qa ?_
          refine sn ?_
          refine K.ret ?_
          refine K.ret_block ?_
          refine K.ret_then ?_
          refine K.ret_then ?_
          refine K.ret_block ?_
          refine K.ret_then ?_
          refine K.end_ret (fun w _ => K.res_tmp rfl w) ?_
          first
            | exact absurd ht51 (by decide)
            | exact K.gives_b rfl (name_f2 hi (ok_f (by omega))).symm
        try replace ht51 := of_decide_eq_false ht51
        refine K.skip ?_
        refine K.norm_block ?_
        refine K.norm_then ?_
        refine K.region_lit ?_
        refine qm ?_
        refine qp (K.add_i64 rfl rfl (by omega)) ?_
        refine qa ?_
        refine K.seq_nil ?_
        have hc : okC i (K.bt s i) = true := by
          first
            | exact absurd ht51 (by decide)
            | (rcases Nat.eq_zero_or_pos i with h0 | h0 <;> first | exact ok_t (by omega) | (subst h0; exact ok_t (by omega)))
        exact K.round_endW (L'' := []) [.int .i64 ((i : Int) + 1)] ⟨i + 1, rfl, rfl, by omega, K.lt_succ_case hall hc⟩ (by simp [K.nth, intOf]; omega) (List.Sublist.refl _) (by kernel_rfl)
      try replace hg46 := of_decide_eq_false hg46
      iterate 4 refine qs ?_
      refine qp (K.pick_f rfl) ?_
      refine sn ?_
      refine K.cond_false rfl ?_
      refine K.skip ?_
      refine K.norm_block ?_
      refine K.norm_then ?_
      refine K.region_lit ?_
      refine qm ?_
      refine qp (K.add_i64 rfl rfl (by omega)) ?_
      refine qa ?_
      refine K.seq_nil ?_
      have hc : okC i (K.bt s i) = true := by
        first
          | exact absurd ht51 (by decide)
          | (rcases Nat.eq_zero_or_pos i with h0 | h0 <;> first | exact ok_t (by omega) | (subst h0; exact ok_t (by omega)))
      exact K.round_endW (L'' := []) [.int .i64 ((i : Int) + 1)] ⟨i + 1, rfl, rfl, by omega, K.lt_succ_case hall hc⟩ (by simp [K.nth, intOf]; omega) (List.Sublist.refl _) (by kernel_rfl)
    try replace hg28 := of_decide_eq_false hg28
    iterate 2 refine qm ?_
    refine K.seq_pure (K.index_s (m := _) sT_9 rfl rfl rfl (by omega)) rfl ?_
    refine zN ?_
    refine qp (K.gtr rfl rfl) ?_
    refine qp (K.pick_f rfl) ?_
    refine qm ?_
    refine K.split 34 rfl (fun hg34 => ?_) (fun hg34 => ?_)
    · try replace hg34 := of_decide_eq_true hg34
      iterate 2 refine qm ?_
      refine K.seq_pure (K.index_s (m := _) sT_9 rfl rfl rfl (by omega)) rfl ?_
      refine zN ?_
      refine qp (K.lss rfl rfl) ?_
      refine qm ?_
      refine K.split 39 rfl (fun hg39 => ?_) (fun hg39 => ?_)
      · try replace hg39 := of_decide_eq_true hg39
        iterate 4 refine qs ?_
        refine qp (K.pick_t rfl) ?_
        refine qp (K.pick_t rfl) ?_
        iterate 3 refine qm ?_
        refine K.seq_pure (K.index_s (m := _) sT_9 rfl rfl rfl (by omega)) rfl ?_
        refine zN ?_
        refine qp (K.neq rfl rfl) ?_
        refine qp (K.pick_t rfl) ?_
        refine sn ?_
        refine K.cond rfl (fun ht51 => ?_) (fun ht51 => ?_)
        · try replace ht51 := of_decide_eq_true ht51
          refine sr ?_
          refine qa ?_
          refine sn ?_
          refine K.ret ?_
          refine K.ret_block ?_
          refine K.ret_then ?_
          refine K.ret_then ?_
          refine K.ret_block ?_
          refine K.ret_then ?_
          refine K.end_ret (fun w _ => K.res_tmp rfl w) ?_
          first
            | exact absurd ht51 (by decide)
            | exact K.gives_b rfl (name_f2 hi (ok_f (by omega))).symm
        try replace ht51 := of_decide_eq_false ht51
        refine K.skip ?_
        refine K.norm_block ?_
        refine K.norm_then ?_
        refine K.region_lit ?_
        refine qm ?_
        refine qp (K.add_i64 rfl rfl (by omega)) ?_
        refine qa ?_
        refine K.seq_nil ?_
        have hc : okC i (K.bt s i) = true := by
          first
            | exact absurd ht51 (by decide)
            | (rcases Nat.eq_zero_or_pos i with h0 | h0 <;> first | exact ok_t (by omega) | (subst h0; exact ok_t (by omega)))
        exact K.round_endW (L'' := []) [.int .i64 ((i : Int) + 1)] ⟨i + 1, rfl, rfl, by omega, K.lt_succ_case hall hc⟩ (by simp [K.nth, intOf]; omega) (List.Sublist.refl _) (by kernel_rfl)
      try replace hg39 := of_decide_eq_false hg39
      iterate 2 refine qm ?_
      refine K.seq_pure (K.index_s (m := _) sT_9 rfl rfl rfl (by omega)) rfl ?_
      refine zN ?_
      refine qp (K.gtr rfl rfl) ?_
      refine qp (K.pick_f rfl) ?_
      refine qp (K.pick_t rfl) ?_
      refine qm ?_
      refine K.split 46 rfl (fun hg46 => ?_) (fun hg46 => ?_)
      · try replace hg46 := of_decide_eq_true hg46
        iterate 2 refine qm ?_
        refine K.seq_pure (K.index_s (m := _) sT_9 rfl rfl rfl (by omega)) rfl ?_
        refine zN ?_
        refine qp (K.neq rfl rfl) ?_
        refine qp (K.pick_t rfl) ?_
        refine sn ?_
        refine K.cond rfl (fun ht51 => ?_) (fun ht51 => ?_)
        · try replace ht51 := of_decide_eq_true ht51
          refine sr ?_
          refine qa ?_
          refine sn ?_
          refine K.ret ?_
          refine K.ret_block ?_
          refine K.ret_then ?_
          refine K.ret_then ?_
          refine K.ret_block ?_
          refine K.ret_then ?_
          refine K.end_ret (fun w _ => K.res_tmp rfl w) ?_
          first
            | exact absurd ht51 (by decide)
            | exact K.gives_b rfl (name_f2 hi (ok_f (by omega))).symm
        try replace ht51 := of_decide_eq_false ht51
        refine K.skip ?_
        refine K.norm_block ?_
        refine K.norm_then ?_
        refine K.region_lit ?_
        refine qm ?_
        refine qp (K.add_i64 rfl rfl (by omega)) ?_
        refine qa ?_
        refine K.seq_nil ?_
        have hc : okC i (K.bt s i) = true := by
          first
            | exact absurd ht51 (by decide)
            | (rcases Nat.eq_zero_or_pos i with h0 | h0 <;> first | exact ok_t (by omega) | (subst h0; exact ok_t (by omega)))
        exact K.round_endW (L'' := []) [.int .i64 ((i : Int) + 1)] ⟨i + 1, rfl, rfl, by omega, K.lt_succ_case hall hc⟩ (by simp [K.nth, intOf]; omega) (List.Sublist.refl _) (by kernel_rfl)
      try replace hg46 := of_decide_eq_false hg46
      iterate 4 refine qs ?_
      refine qp (K.pick_f rfl) ?_
      refine sn ?_
      refine K.cond_false rfl ?_
      refine K.skip ?_
      refine K.norm_block ?_
      refine K.norm_then ?_
      refine K.region_lit ?_
      refine qm ?_
      refine qp (K.add_i64 rfl rfl (by omega)) ?_
      refine qa ?_
      refine K.seq_nil ?_
      have hc : okC i (K.bt s i) = true := by
        first
          | exact absurd ht51 (by decide)
          | (rcases Nat.eq_zero_or_pos i with h0 | h0 <;> first | exact ok_t (by omega) | (subst h0; exact ok_t (by omega)))
      exact K.round_endW (L'' := []) [.int .i64 ((i : Int) + 1)] ⟨i + 1, rfl, rfl, by omega, K.lt_succ_case hall hc⟩ (by simp [K.nth, intOf]; omega) (List.Sublist.refl _) (by kernel_rfl)
    try replace hg34 := of_decide_eq_false hg34
    iterate 10 refine qs ?_
    refine qp (K.pick_f rfl) ?_
    refine qm ?_
    iterate 4 refine qs ?_
    refine qp (K.pick_f rfl) ?_
    refine sn ?_
    refine K.cond_false rfl ?_
    refine K.skip ?_
    refine K.norm_block ?_
    refine K.norm_then ?_
    refine K.region_lit ?_
    refine qm ?_
    refine qp (K.add_i64 rfl rfl (by omega)) ?_
    refine qa ?_
    refine K.seq_nil ?_
    have hc : okC i (K.bt s i) = true := by
      first
        | exact absurd ht51 (by decide)
        | (rcases Nat.eq_zero_or_pos i with h0 | h0 <;> first | exact ok_t (by omega) | (subst h0; exact ok_t (by omega)))
    exact K.round_endW (L'' := []) [.int .i64 ((i : Int) + 1)] ⟨i + 1, rfl, rfl, by omega, K.lt_succ_case hall hc⟩ (by simp [K.nth, intOf]; omega) (List.Sublist.refl _) (by kernel_rfl)
  try replace ht21 := of_decide_eq_false ht21
  refine K.exit ?_
  refine K.exit_then ?_
  refine K.exit_then ?_
  refine K.exit_here ?_
  refine K.norm_then ?_
  refine sr ?_
  refine qa ?_
  refine sn ?_
  refine K.ret ?_
  refine K.end_ret (fun w _ => K.res_tmp rfl w) ?_
  exact K.gives_b rfl (name_t (by omega) (fun i hi => hall i (by omega))).symm

set_option maxRecDepth 100000 in
theorem c83 {A : Option Addr} {c : Nat} {l : List ByteArray} {s : ByteArray} {w : World} (hX : K.Rd w A 1 eB l) (hn : l.length ≤ 4611686018427387904) :
    Calls Tryd.prog 83 [.slice A l.length c, .string s].toArray w (K.Gives (.int .i64 (K.idx (fun q => nmEq q s) l)) w) := by
  refine K.enter (args := [.slice A l.length c, .string s]) Tryd.func83 rfl (n := 17) rfl ?_
  simp only [List.replicate, List.cons_append, List.nil_append]
  refine sr ?_
  refine qa ?_
  refine sn ?_
  refine K.seq ?_
  refine sr ?_
  refine qa ?_
  refine sn ?_
  refine K.block ?_
  refine K.loopW [5] [4, 6, 7, 8, 9, 10, 11, 12, 13, 14, 15, 16, 17, 18] (fun vi L => ∃ k : Nat, vi = [.int .i64 (k : Int)] ∧ L = [] ∧ k ≤ l.length ∧ ∀ j, j < k → (fun q => nmEq q s) (l.getD j default) = false) (fun vi => l.length - (intOf (K.nth vi 0)).toNat) ?_ ?_
  · exact ⟨0, rfl, rfl, Nat.zero_le _, fun j hj => absurd hj (Nat.not_lt_zero j)⟩
  intro vi vr L hJ
  obtain ⟨k, rfl, rfl, hkn, hall⟩ := hJ
  try dsimp only [setd, setn, ev, nth, over, cl, eI, eP, eT, eR, setM, setF, List.map, List.append, List.drop, List.take]
  refine K.seq ?_
  refine sr ?_
  iterate 2 refine qm ?_
  refine qp (K.len_sl sl_62 rfl) ?_
  refine qp (K.lss rfl rfl) ?_
  refine sn ?_
  refine K.cond rfl (fun ht9 => ?_) (fun ht9 => ?_)
  · try replace ht9 := of_decide_eq_true ht9
    have hk : k < l.length := by omega
    refine K.skip ?_
    refine K.norm_then ?_
    refine K.seq ?_
    refine K.block ?_
    refine sr ?_
    iterate 2 refine qm ?_
    refine K.seq_ix (M := []) _ hX.sl sl_62 rfl rfl rfl (by omega) rfl ?_
    intro p14 hp14
    refine zN ?_
    refine K.seq_sil (K.load1 one_9 rfl (hp14.any)) rfl ?_
    refine zN ?_
    refine qm ?_
    refine qp (K.eql_s rfl rfl) ?_
    refine sn ?_
    refine K.cond rfl (fun ht17 => ?_) (fun ht17 => ?_)
    · try replace ht17 := of_decide_eq_true ht17
      refine sr ?_
      refine qm ?_
      refine qa ?_
      refine sn ?_
      refine K.ret ?_
      refine K.ret_block ?_
      refine K.ret_then ?_
      refine K.ret_then ?_
      refine K.ret_block ?_
      refine K.ret_then ?_
      refine K.end_ret (fun w _ => K.res_tmp rfl w) ?_
      exact K.gives_i rfl (K.idx_found (p := fun q => nmEq q s) hk hall ht17).symm
    try replace ht17 := of_decide_eq_false ht17
    refine K.skip ?_
    refine K.norm_block ?_
    refine K.norm_then ?_
    refine K.region_lit ?_
    refine qm ?_
    refine qp (K.add_i64 rfl rfl (by omega)) ?_
    refine qa ?_
    refine K.seq_nil ?_
    exact K.round_endW [.int .i64 ((k : Int) + 1)] ⟨k + 1, rfl, rfl, by omega, K.lt_succ_case hall ht17⟩ (by simp [K.nth, intOf]; omega) (List.Sublist.refl _) (by kernel_rfl)
  try replace ht9 := of_decide_eq_false ht9
  refine K.exit ?_
  refine K.exit_then ?_
  refine K.exit_then ?_
  refine K.exit_here ?_
  refine K.norm_then ?_
  refine sr ?_
  refine qa ?_
  refine sn ?_
  refine K.ret ?_
  refine K.end_ret (fun w _ => K.res_tmp rfl w) ?_
  exact K.gives_i rfl (K.idx_none (fun j hj => hall j (by omega))).symm

set_option maxRecDepth 100000 in
theorem c50 {A : Option Addr} {c : Nat} {l : List ByteArray} {s : ByteArray} {w : World} (hX : K.Rd w A 1 eB l) (hn : l.length ≤ 4611686018427387904) :
    Calls Tryd.prog 50 [.string s, .slice A l.length c].toArray w (K.Gives (.int .i64 (freshE s l)) w) := by
  refine K.enter (args := [.string s, .slice A l.length c]) Tryd.func50 rfl (n := 10) rfl ?_
  simp only [List.replicate, List.cons_append, List.nil_append]
  refine sr ?_
  refine qa ?_
  refine sn ?_
  refine K.seq ?_
  refine sr ?_
  refine qm ?_
  refine K.seq_call (K.call_g cal_82 (fun F w hF hw => c82 w)) rfl ?_
  refine zN ?_
  first | refine K.seq_pure (K.not_d rfl) rfl ?_ | refine K.seq_pure (K.not_ rfl) rfl ?_
  refine zN ?_
  refine sn ?_
  refine K.cond rfl (fun ht7 => ?_) (fun ht7 => ?_)
  · try replace ht7 := of_decide_eq_true ht7
    refine sr ?_
    refine qa ?_
    refine sn ?_
    refine K.ret ?_
    refine K.ret_then ?_
    refine K.end_ret (fun w _ => K.res_tmp rfl w) ?_
    exact K.gives_i rfl (by unfold freshE; rw [if_pos (by simpa using ht7)])
  try replace ht7 := of_decide_eq_false ht7
  refine K.skip ?_
  refine K.norm_then ?_
  refine K.seq ?_
  refine sr ?_
  iterate 2 refine qm ?_
  refine K.seq_call (K.call_g cal_83 (fun F w hF hw => c83 (hX.pass hw) hn)) rfl ?_
  refine zN ?_
  refine qp (K.Pure.eq (K.geq rfl rfl) (show _ = Value.bool (l.any fun q => nmEq q s) from by rw [K.idx_ge])) ?_
  refine sn ?_
  refine K.cond rfl (fun ht11 => ?_) (fun ht11 => ?_)
  · try replace ht11 := of_decide_eq_true ht11
    refine sr ?_
    refine qa ?_
    refine sn ?_
    refine K.ret ?_
    refine K.ret_then ?_
    refine K.end_ret (fun w _ => K.res_tmp rfl w) ?_
    exact K.gives_i rfl (by unfold freshE; rw [if_neg (by simpa using ht7), if_pos ht11])
  try replace ht11 := of_decide_eq_false ht11
  refine K.skip ?_
  refine K.norm_then ?_
  refine sr ?_
  refine qa ?_
  refine sn ?_
  refine K.ret ?_
  refine K.end_ret (fun w _ => K.res_tmp rfl w) ?_
  exact K.gives_i rfl (by unfold freshE; rw [if_neg (by simpa using ht7), if_neg (by simpa using ht11)])

end Go.Proofs.YtoemnobfnnjopaaDoor
