/-
  Walks of the program's functions, printed by program: what each returns.
  Conditions stand in each theorem.
-/
import Derived.WalkArith
import Derived.Laws.Closers25b
import Derived.Test.YthkgnhcknkjgdaaDoorWb
set_option linter.unusedSimpArgs false
set_option linter.unusedVariables false
namespace Go.Proofs.YthkgnhcknkjgdaaDoor
open Go.RowKit Go
open Go.K (setd setn ev nth over cl eI eP eT setM setF)
attribute [local irreducible] K.blk K.row
def eB (s : ByteArray) : List Value := [.string s]
theorem bs61 (a b : Int) : K.Bs Tryd.prog 148 1 [(0, .agg #[.int .i64 a, .int .i64 b])] 61 [.int .i64 a, .int .i64 b] := fun w => by kernel_rfl
theorem bs86 (s : ByteArray) : K.Bs Tryd.prog 86 1 [(0, .string s)] 9 [.string s] := fun w => by kernel_rfl
theorem sp_7 {low high : Int} {p : Int × Int} (h : ¬ ((low ≤ p.1 ∧ p.1 ≤ high) ∧ (low ≤ p.2 ∧ p.2 ≤ high))) : spreadE low high [p] = 7 := by simp only [spreadE, List.any_cons, List.any_nil, Bool.or_false]; rw [if_pos (decide_eq_true h)]
theorem sp_2 {low high : Int} {p : Int × Int} (h : (low ≤ p.1 ∧ p.1 ≤ high) ∧ (low ≤ p.2 ∧ p.2 ≤ high)) (h2 : p.1 > p.2) : spreadE low high [p] = 2 := by simp only [spreadE, List.any_cons, List.any_nil, Bool.or_false]; rw [if_neg (by simp; omega), if_pos (decide_eq_true h2)]
theorem sp_0 {low high : Int} {p : Int × Int} (h : (low ≤ p.1 ∧ p.1 ≤ high) ∧ (low ≤ p.2 ∧ p.2 ≤ high)) (h2 : ¬ p.1 > p.2) : spreadE low high [p] = 0 := by simp only [spreadE, List.any_cons, List.any_nil, Bool.or_false]; rw [if_neg (by simp; omega), if_neg (by simpa using h2)]
theorem st_7a {W D : Int} {s : StT} (h : spreadE 0 2000 [(s.lo, s.hi)] = 7) : stE W D s = 7 := by
  unfold stE
  by_cases h1 : (0 ≤ s.lo ∧ s.lo ≤ 2000) ∧ (0 ≤ s.hi ∧ s.hi ≤ 2000)
  · by_cases h2 : s.lo > s.hi
    · rw [sp_2 h1 h2] at h; cases h
    · rw [sp_0 h1 h2] at h; cases h
  · rw [if_pos (by omega)]
theorem st_rest {W D : Int} {s : StT} (h : spreadE 0 2000 [(s.lo, s.hi)] ≠ 7) (hx : (-20 ≤ s.x ∧ s.x ≤ 20) ∧ (-20 ≤ s.y ∧ s.y ≤ 20)) : stE W D s = if onF W D s.x s.y then 4 else spreadE 0 2000 [(s.lo, s.hi)] := by
  unfold stE
  by_cases h1 : (0 ≤ s.lo ∧ s.lo ≤ 2000) ∧ (0 ≤ s.hi ∧ s.hi ≤ 2000)
  · rw [if_neg (by omega)]
    by_cases h2 : s.lo > s.hi
    · rw [sp_2 h1 h2, if_pos h2]
    · rw [sp_0 h1 h2, if_neg h2]
  · exact absurd (sp_7 h1) h

set_option maxRecDepth 100000 in
theorem c92 {s : ByteArray} (w : World) :
    Calls Tryd.prog 92 [.string s].toArray w (K.Gives (.bool (nameB s)) w) := by
  refine K.enter (args := [.string s]) Tryd.func92 rfl (n := 51) rfl ?_
  simp only [List.replicate, List.cons_append, List.nil_append]
  refine sr ?_
  refine qa ?_
  refine sn ?_
  refine K.seq ?_
  refine sr ?_
  refine qm ?_
  refine qp (K.len_s sT_9 rfl) ?_
  refine K.seq_call (K.call_g cal_106 (fun F w hF hw => c106 w)) rfl ?_
  refine zN ?_
  refine qp (K.not_d rfl) ?_
  refine qm ?_
  refine K.split 8 rfl (fun hg8 => ?_) (fun hg8 => ?_)
  · try replace hg8 := of_decide_eq_true hg8
    iterate 3 refine qs ?_
    refine qp (K.pick_t rfl) ?_
    refine qm ?_
    iterate 3 refine qs ?_
    refine qp (K.pick_t rfl) ?_
    refine sn ?_
    refine K.cond_true rfl ?_
    refine sr ?_
    refine qa ?_
    refine sn ?_
    refine K.ret ?_
    refine K.ret_then ?_
    refine K.end_ret (fun w _ => K.res_tmp rfl w) ?_
    first
      | exact absurd ht17 (by decide)
      | exact K.gives_b rfl (name_f1 (by omega)).symm
      | exact K.gives_b rfl (name_f2 (i := 0) (by omega) (ok_f (by omega))).symm
  try replace hg8 := of_decide_eq_false hg8
  refine qm ?_
  refine K.seq_pure (K.index_s (m := 0) sT_9 rfl rfl rfl (by omega)) rfl ?_
  refine zN ?_
  refine qp (K.lss rfl rfl) ?_
  refine qp (K.pick_f rfl) ?_
  refine qm ?_
  refine K.split 13 rfl (fun hg13 => ?_) (fun hg13 => ?_)
  · try replace hg13 := of_decide_eq_true hg13
    iterate 3 refine qs ?_
    refine qp (K.pick_t rfl) ?_
    refine sn ?_
    refine K.cond_true rfl ?_
    refine sr ?_
    refine qa ?_
    refine sn ?_
    refine K.ret ?_
    refine K.ret_then ?_
    refine K.end_ret (fun w _ => K.res_tmp rfl w) ?_
    first
      | exact absurd ht17 (by decide)
      | exact K.gives_b rfl (name_f1 (by omega)).symm
      | exact K.gives_b rfl (name_f2 (i := 0) (by omega) (ok_f (by omega))).symm
  try replace hg13 := of_decide_eq_false hg13
  refine qm ?_
  refine K.seq_pure (K.index_s (m := 0) sT_9 rfl rfl rfl (by omega)) rfl ?_
  refine zN ?_
  refine qp (K.gtr rfl rfl) ?_
  refine qp (K.pick_f rfl) ?_
  refine sn ?_
  refine K.cond rfl (fun ht17 => ?_) (fun ht17 => ?_)
  · try replace ht17 := of_decide_eq_true ht17
    refine sr ?_
    refine qa ?_
    refine sn ?_
    refine K.ret ?_
    refine K.ret_then ?_
    refine K.end_ret (fun w _ => K.res_tmp rfl w) ?_
    first
      | exact absurd ht17 (by decide)
      | exact K.gives_b rfl (name_f1 (by omega)).symm
      | exact K.gives_b rfl (name_f2 (i := 0) (by omega) (ok_f (by omega))).symm
  try replace ht17 := of_decide_eq_false ht17
  refine K.skip ?_
  refine K.norm_then ?_
  refine K.seq ?_
  refine sr ?_
  refine qa ?_
  refine sn ?_
  refine K.block ?_
  refine K.loopW [3] [2, 18, 19, 20, 21, 22, 23, 24, 25, 26, 27, 28, 29, 30, 31, 32, 33, 34, 35, 36, 37, 38, 39, 40, 41, 42, 43, 44, 45, 46, 47, 48, 49, 50, 51] (fun vi L => ∃ i : Nat, vi = [.int .i64 (i : Int)] ∧ L = [] ∧ i ≤ s.size ∧ ∀ j, j < i → okC j (K.bt s j) = true) (fun vi => s.size - (intOf (K.nth vi 0)).toNat) ?_ ?_
  · exact ⟨0, rfl, rfl, Nat.zero_le _, fun j hj => absurd hj (Nat.not_lt_zero j)⟩
  intro vi vr L hJ
  obtain ⟨i, rfl, rfl, hil, hall⟩ := hJ
  try dsimp only [setd, setn, ev, nth, over, cl, eI, eP, eT, eN, eS, setM, setF, List.map, List.append, List.drop, List.take]
  refine K.seq ?_
  refine sr ?_
  iterate 2 refine qm ?_
  refine qp (K.len_s sT_9 rfl) ?_
  refine qp (K.lss rfl rfl) ?_
  refine sn ?_
  refine K.cond rfl (fun ht21 => ?_) (fun ht21 => ?_)
  · try replace ht21 := of_decide_eq_true ht21
    have hi : i < s.size := by omega
    refine K.skip ?_
    refine K.norm_then ?_
    refine K.seq ?_
    refine K.block ?_
    refine sr ?_
    iterate 2 refine qm ?_
    refine K.seq_pure (K.index_s (m := _) sT_9 rfl rfl rfl (by omega)) rfl ?_
    refine zN ?_
    refine qp (K.lss rfl rfl) ?_
    refine qm ?_
    refine K.split 28 rfl (fun hg28 => ?_) (fun hg28 => ?_)
    · try replace hg28 := of_decide_eq_true hg28
      iterate 4 refine qs ?_
      refine qp (K.pick_t rfl) ?_
      iterate 3 refine qm ?_
      refine K.seq_pure (K.index_s (m := _) sT_9 rfl rfl rfl (by omega)) rfl ?_
      refine zN ?_
      refine qp (K.lss rfl rfl) ?_
      refine qm ?_
      refine K.split 39 rfl (fun hg39 => ?_) (fun hg39 => ?_)
      · try replace hg39 := of_decide_eq_true hg39
        iterate 4 refine qs ?_
        refine qp (K.pick_t rfl) ?_
        refine qp (K.pick_t rfl) ?_
        iterate 3 refine qm ?_
        refine K.seq_pure (K.index_s (m := _) sT_9 rfl rfl rfl (by omega)) rfl ?_
        refine zN ?_
        refine qp (K.neq rfl rfl) ?_
        refine qp (K.pick_t rfl) ?_
        refine sn ?_
        refine K.cond rfl (fun ht51 => ?_) (fun ht51 => ?_)
        · try replace ht51 := of_decide_eq_true ht51
          refine sr ?_
          refine qa ?_
          refine sn ?_
          refine K.ret ?_
          refine K.ret_block ?_
          refine K.ret_then ?_
          refine K.ret_then ?_
          refine K.ret_block ?_
          refine K.ret_then ?_
          refine K.end_ret (fun w _ => K.res_tmp rfl w) ?_
          first
            | exact absurd ht51 (by decide)
            | exact K.gives_b rfl (name_f2 hi (ok_f (by omega))).symm
        try replace ht51 := of_decide_eq_false ht51
        refine K.skip ?_
        refine K.norm_block ?_
        refine K.norm_then ?_
        refine K.region_lit ?_
        refine qm ?_
        refine qp (K.add_i64 rfl rfl (by omega)) ?_
        refine qa ?_
        refine K.seq_nil ?_
        have hc : okC i (K.bt s i) = true := by
          first
            | exact absurd ht51 (by decide)
            | (rcases Nat.eq_zero_or_pos i with h0 | h0 <;> first | exact ok_t (by omega) | (subst h0; exact ok_t (by omega)))
        exact K.round_endW (L'' := []) [.int .i64 ((i : Int) + 1)] ⟨i + 1, rfl, rfl, by omega, K.lt_succ_case hall hc⟩ (by simp [K.nth, intOf]; omega) (List.Sublist.refl _) (by kernel_rfl)
      try replace hg39 := of_decide_eq_false hg39
      iterate 2 refine qm ?_
      refine K.seq_pure (K.index_s (m := _) sT_9 rfl rfl rfl (by omega)) rfl ?_
      refine zN ?_
      refine qp (K.gtr rfl rfl) ?_
      refine qp (K.pick_f rfl) ?_
      refine qp (K.pick_t rfl) ?_
      refine qm ?_
      refine K.split 46 rfl (fun hg46 => ?_) (fun hg46 => ?_)
      · try replace hg46 := of_decide_eq_true hg46
        iterate 2 refine qm ?_
        refine K.seq_pure (K.index_s (m := _) sT_9 rfl rfl rfl (by omega)) rfl ?_
        refine zN ?_
        refine qp (K.neq rfl rfl) ?_
        refine qp (K.pick_t rfl) ?_
        refine sn ?_
        refine K.cond rfl (fun ht51 => ?_) (fun ht51 => ?_)
        · try replace ht51 := of_decide_eq_true ht51
          refine sr ?_
          refine qa ?_
          refine sn ?_
          refine K.ret ?_
          refine K.ret_block ?_
          refine K.ret_then ?_
          refine K.ret_then ?_
          refine K.ret_block ?_
          refine K.ret_then ?_
          refine K.end_ret (fun w _ => K.res_tmp rfl w) ?_
          first
            | exact absurd ht51 (by decide)
            | exact K.gives_b rfl (name_f2 hi (ok_f (by omega))).symm
        try replace ht51 := of_decide_eq_false ht51
        refine K.skip ?_
        refine K.norm_block ?_
        refine K.norm_then ?_
        refine K.region_lit ?_
        refine qm ?_
        refine qp (K.add_i64 rfl rfl (by omega)) ?_
        refine qa ?_
        refine K.seq_nil ?_
        have hc : okC i (K.bt s i) = true := by
          first
            | exact absurd ht51 (by decide)
            | (rcases Nat.eq_zero_or_pos i with h0 | h0 <;> first | exact ok_t (by omega) | (subst h0; exact ok_t (by omega)))
        exact K.round_endW (L'' := []) [.int .i64 ((i : Int) + 1)] ⟨i + 1, rfl, rfl, by omega, K.lt_succ_case hall hc⟩ (by simp [K.nth, intOf]; omega) (List.Sublist.refl _) (by kernel_rfl)
      try replace hg46 := of_decide_eq_false hg46
      iterate 4 refine qs ?_
      refine qp (K.pick_f rfl) ?_
      refine sn ?_
      refine K.cond_false rfl ?_
      refine K.skip ?_
      refine K.norm_block ?_
      refine K.norm_then ?_
      refine K.region_lit ?_
      refine qm ?_
      refine qp (K.add_i64 rfl rfl (by omega)) ?_
      refine qa ?_
      refine K.seq_nil ?_
      have hc : okC i (K.bt s i) = true := by
        first
          | exact absurd ht51 (by decide)
          | (rcases Nat.eq_zero_or_pos i with h0 | h0 <;> first | exact ok_t (by omega) | (subst h0; exact ok_t (by omega)))
      exact K.round_endW (L'' := []) [.int .i64 ((i : Int) + 1)] ⟨i + 1, rfl, rfl, by omega, K.lt_succ_case hall hc⟩ (by simp [K.nth, intOf]; omega) (List.Sublist.refl _) (by kernel_rfl)
    try replace hg28 := of_decide_eq_false hg28
    iterate 2 refine qm ?_
    refine K.seq_pure (K.index_s (m := _) sT_9 rfl rfl rfl (by omega)) rfl ?_
    refine zN ?_
    refine qp (K.gtr rfl rfl) ?_
    refine qp (K.pick_f rfl) ?_
    refine qm ?_
    refine K.split 34 rfl (fun hg34 => ?_) (fun hg34 => ?_)
    · try replace hg34 := of_decide_eq_true hg34
      iterate 2 refine qm ?_
      refine K.seq_pure (K.index_s (m := _) sT_9 rfl rfl rfl (by omega)) rfl ?_
      refine zN ?_
      refine qp (K.lss rfl rfl) ?_
      refine qm ?_
      refine K.split 39 rfl (fun hg39 => ?_) (fun hg39 => ?_)
      · try replace hg39 := of_decide_eq_true hg39
        iterate 4 refine qs ?_
        refine qp (K.pick_t rfl) ?_
        refine qp (K.pick_t rfl) ?_
        iterate 3 refine qm ?_
        refine K.seq_pure (K.index_s (m := _) sT_9 rfl rfl rfl (by omega)) rfl ?_
        refine zN ?_
        refine qp (K.neq rfl rfl) ?_
        refine qp (K.pick_t rfl) ?_
        refine sn ?_
        refine K.cond rfl (fun ht51 => ?_) (fun ht51 => ?_)
        · try replace ht51 := of_decide_eq_true ht51
          refine sr ?_
          refine qa ?_
          refine sn ?_
          refine K.ret ?_
          refine K.ret_block ?_
          refine K.ret_then ?_
          refine K.ret_then ?_
          refine K.ret_block ?_
          refine K.ret_then ?_
          refine K.end_ret (fun w _ => K.res_tmp rfl w) ?_
          first
            | exact absurd ht51 (by decide)
            | exact K.gives_b rfl (name_f2 hi (ok_f (by omega))).symm
        try replace ht51 := of_decide_eq_false ht51
        refine K.skip ?_
        refine K.norm_block ?_
        refine K.norm_then ?_
        refine K.region_lit ?_
        refine qm ?_
        refine qp (K.add_i64 rfl rfl (by omega)) ?_
        refine qa ?_
        refine K.seq_nil ?_
        have hc : okC i (K.bt s i) = true := by
          first
            | exact absurd ht51 (by decide)
            | (rcases Nat.eq_zero_or_pos i with h0 | h0 <;> first | exact ok_t (by omega) | (subst h0; exact ok_t (by omega)))
        exact K.round_endW (L'' := []) [.int .i64 ((i : Int) + 1)] ⟨i + 1, rfl, rfl, by omega, K.lt_succ_case hall hc⟩ (by simp [K.nth, intOf]; omega) (List.Sublist.refl _) (by kernel_rfl)
      try replace hg39 := of_decide_eq_false hg39
      iterate 2 refine qm ?_
      refine K.seq_pure (K.index_s (m := _) sT_9 rfl rfl rfl (by omega)) rfl ?_
      refine zN ?_
      refine qp (K.gtr rfl rfl) ?_
      refine qp (K.pick_f rfl) ?_
      refine qp (K.pick_t rfl) ?_
      refine qm ?_
      refine K.split 46 rfl (fun hg46 => ?_) (fun hg46 => ?_)
      · try replace hg46 := of_decide_eq_true hg46
        iterate 2 refine qm ?_
        refine K.seq_pure (K.index_s (m := _) sT_9 rfl rfl rfl (by omega)) rfl ?_
        refine zN ?_
        refine qp (K.neq rfl rfl) ?_
        refine qp (K.pick_t rfl) ?_
        refine sn ?_
        refine K.cond rfl (fun ht51 => ?_) (fun ht51 => ?_)
        · try replace ht51 := of_decide_eq_true ht51
          refine sr ?_
          refine qa ?_
          refine sn ?_
          refine K.ret ?_
          refine K.ret_block ?_
          refine K.ret_then ?_
          refine K.ret_then ?_
          refine K.ret_block ?_
          refine K.ret_then ?_
          refine K.end_ret (fun w _ => K.res_tmp rfl w) ?_
          first
            | exact absurd ht51 (by decide)
            | exact K.gives_b rfl (name_f2 hi (ok_f (by omega))).symm
        try replace ht51 := of_decide_eq_false ht51
        refine K.skip ?_
        refine K.norm_block ?_
        refine K.norm_then ?_
        refine K.region_lit ?_
        refine qm ?_
        refine qp (K.add_i64 rfl rfl (by omega)) ?_
        refine qa ?_
        refine K.seq_nil ?_
        have hc : okC i (K.bt s i) = true := by
          first
            | exact absurd ht51 (by decide)
            | (rcases Nat.eq_zero_or_pos i with h0 | h0 <;> first | exact ok_t (by omega) | (subst h0; exact ok_t (by omega)))
        exact K.round_endW (L'' := []) [.int .i64 ((i : Int) + 1)] ⟨i + 1, rfl, rfl, by omega, K.lt_succ_case hall hc⟩ (by simp [K.nth, intOf]; omega) (List.Sublist.refl _) (by kernel_rfl)
      try replace hg46 := of_decide_eq_false hg46
      iterate 4 refine qs ?_
      refine qp (K.pick_f rfl) ?_
      refine sn ?_
      refine K.cond_false rfl ?_
      refine K.skip ?_
      refine K.norm_block ?_
      refine K.norm_then ?_
      refine K.region_lit ?_
      refine qm ?_
      refine qp (K.add_i64 rfl rfl (by omega)) ?_
      refine qa ?_
      refine K.seq_nil ?_
      have hc : okC i (K.bt s i) = true := by
        first
          | exact absurd ht51 (by decide)
          | (rcases Nat.eq_zero_or_pos i with h0 | h0 <;> first | exact ok_t (by omega) | (subst h0; exact ok_t (by omega)))
      exact K.round_endW (L'' := []) [.int .i64 ((i : Int) + 1)] ⟨i + 1, rfl, rfl, by omega, K.lt_succ_case hall hc⟩ (by simp [K.nth, intOf]; omega) (List.Sublist.refl _) (by kernel_rfl)
    try replace hg34 := of_decide_eq_false hg34
    iterate 10 refine qs ?_
    refine qp (K.pick_f rfl) ?_
    refine qm ?_
    iterate 4 refine qs ?_
    refine qp (K.pick_f rfl) ?_
    refine sn ?_
    refine K.cond_false rfl ?_
    refine K.skip ?_
    refine K.norm_block ?_
    refine K.norm_then ?_
    refine K.region_lit ?_
    refine qm ?_
    refine qp (K.add_i64 rfl rfl (by omega)) ?_
    refine qa ?_
    refine K.seq_nil ?_
    have hc : okC i (K.bt s i) = true := by
      first
        | exact absurd ht51 (by decide)
        | (rcases Nat.eq_zero_or_pos i with h0 | h0 <;> first | exact ok_t (by omega) | (subst h0; exact ok_t (by omega)))
    exact K.round_endW (L'' := []) [.int .i64 ((i : Int) + 1)] ⟨i + 1, rfl, rfl, by omega, K.lt_succ_case hall hc⟩ (by simp [K.nth, intOf]; omega) (List.Sublist.refl _) (by kernel_rfl)
  try replace ht21 := of_decide_eq_false ht21
  refine K.exit ?_
  refine K.exit_then ?_
  refine K.exit_then ?_
  refine K.exit_here ?_
  refine K.norm_then ?_
  refine sr ?_
  refine qa ?_
  refine sn ?_
  refine K.ret ?_
  refine K.end_ret (fun w _ => K.res_tmp rfl w) ?_
  exact K.gives_b rfl (name_t (by omega) (fun i hi => hall i (by omega))).symm

set_option maxRecDepth 100000 in
theorem c93 {A : Option Addr} {c : Nat} {l : List ByteArray} {s : ByteArray} {w : World} (hX : K.Rd w A 1 eB l) (hn : l.length ≤ 4611686018427387904) :
    Calls Tryd.prog 93 [.slice A l.length c, .string s].toArray w (K.Gives (.int .i64 (K.idx (fun q => nmEq q s) l)) w) := by
  refine K.enter (args := [.slice A l.length c, .string s]) Tryd.func93 rfl (n := 17) rfl ?_
  simp only [List.replicate, List.cons_append, List.nil_append]
  refine sr ?_
  refine qa ?_
  refine sn ?_
  refine K.seq ?_
  refine sr ?_
  refine qa ?_
  refine sn ?_
  refine K.block ?_
  refine K.loopW [5] [4, 6, 7, 8, 9, 10, 11, 12, 13, 14, 15, 16, 17, 18] (fun vi L => ∃ k : Nat, vi = [.int .i64 (k : Int)] ∧ L = [] ∧ k ≤ l.length ∧ ∀ j, j < k → (fun q => nmEq q s) (l.getD j default) = false) (fun vi => l.length - (intOf (K.nth vi 0)).toNat) ?_ ?_
  · exact ⟨0, rfl, rfl, Nat.zero_le _, fun j hj => absurd hj (Nat.not_lt_zero j)⟩
  intro vi vr L hJ
  obtain ⟨k, rfl, rfl, hkn, hall⟩ := hJ
  try dsimp only [setd, setn, ev, nth, over, cl, eI, eP, eT, eN, eS, setM, setF, List.map, List.append, List.drop, List.take]
  refine K.seq ?_
  refine sr ?_
  iterate 2 refine qm ?_
  refine qp (K.len_sl sl_86 rfl) ?_
  refine qp (K.lss rfl rfl) ?_
  refine sn ?_
  refine K.cond rfl (fun ht9 => ?_) (fun ht9 => ?_)
  · try replace ht9 := of_decide_eq_true ht9
    have hk : k < l.length := by omega
    refine K.skip ?_
    refine K.norm_then ?_
    refine K.seq ?_
    refine K.block ?_
    refine sr ?_
    iterate 2 refine qm ?_
    refine K.seq_ix (M := []) _ hX.sl sl_86 rfl rfl rfl (by omega) rfl ?_
    intro p14 hp14
    refine zN ?_
    refine K.seq_sil (K.load1 one_9 rfl (hp14.any)) rfl ?_
    refine zN ?_
    refine qm ?_
    refine qp (K.eql_s rfl rfl) ?_
    refine sn ?_
    refine K.cond rfl (fun ht17 => ?_) (fun ht17 => ?_)
    · try replace ht17 := of_decide_eq_true ht17
      refine sr ?_
      refine qm ?_
      refine qa ?_
      refine sn ?_
      refine K.ret ?_
      refine K.ret_block ?_
      refine K.ret_then ?_
      refine K.ret_then ?_
      refine K.ret_block ?_
      refine K.ret_then ?_
      refine K.end_ret (fun w _ => K.res_tmp rfl w) ?_
      exact K.gives_i rfl (K.idx_found (p := fun q => nmEq q s) hk hall ht17).symm
    try replace ht17 := of_decide_eq_false ht17
    refine K.skip ?_
    refine K.norm_block ?_
    refine K.norm_then ?_
    refine K.region_lit ?_
    refine qm ?_
    refine qp (K.add_i64 rfl rfl (by omega)) ?_
    refine qa ?_
    refine K.seq_nil ?_
    exact K.round_endW [.int .i64 ((k : Int) + 1)] ⟨k + 1, rfl, rfl, by omega, K.lt_succ_case hall ht17⟩ (by simp [K.nth, intOf]; omega) (List.Sublist.refl _) (by kernel_rfl)
  try replace ht9 := of_decide_eq_false ht9
  refine K.exit ?_
  refine K.exit_then ?_
  refine K.exit_then ?_
  refine K.exit_here ?_
  refine K.norm_then ?_
  refine sr ?_
  refine qa ?_
  refine sn ?_
  refine K.ret ?_
  refine K.end_ret (fun w _ => K.res_tmp rfl w) ?_
  exact K.gives_i rfl (K.idx_none (fun j hj => hall j (by omega))).symm

set_option maxRecDepth 100000 in
theorem c58 {A : Option Addr} {c : Nat} {l : List ByteArray} {s : ByteArray} {w : World} (hX : K.Rd w A 1 eB l) (hn : l.length ≤ 4611686018427387904) :
    Calls Tryd.prog 58 [.string s, .slice A l.length c].toArray w (K.Gives (.int .i64 (freshE s l)) w) := by
  refine K.enter (args := [.string s, .slice A l.length c]) Tryd.func58 rfl (n := 10) rfl ?_
  simp only [List.replicate, List.cons_append, List.nil_append]
  refine sr ?_
  refine qa ?_
  refine sn ?_
  refine K.seq ?_
  refine sr ?_
  refine qm ?_
  refine K.seq_call (K.call_g cal_92 (fun F w hF hw => c92 w)) rfl ?_
  refine zN ?_
  first | refine K.seq_pure (K.not_d rfl) rfl ?_ | refine K.seq_pure (K.not_ rfl) rfl ?_
  refine zN ?_
  refine sn ?_
  refine K.cond rfl (fun ht7 => ?_) (fun ht7 => ?_)
  · try replace ht7 := of_decide_eq_true ht7
    refine sr ?_
    refine qa ?_
    refine sn ?_
    refine K.ret ?_
    refine K.ret_then ?_
    refine K.end_ret (fun w _ => K.res_tmp rfl w) ?_
    exact K.gives_i rfl (by unfold freshE; rw [if_pos (by simpa using ht7)])
  try replace ht7 := of_decide_eq_false ht7
  refine K.skip ?_
  refine K.norm_then ?_
  refine K.seq ?_
  refine sr ?_
  iterate 2 refine qm ?_
  refine K.seq_call (K.call_g cal_93 (fun F w hF hw => c93 (hX.pass hw) hn)) rfl ?_
  refine zN ?_
  refine qp (K.Pure.eq (K.geq rfl rfl) (show _ = Value.bool (l.any fun q => nmEq q s) from by rw [K.idx_ge])) ?_
  refine sn ?_
  refine K.cond rfl (fun ht11 => ?_) (fun ht11 => ?_)
  · try replace ht11 := of_decide_eq_true ht11
    refine sr ?_
    refine qa ?_
    refine sn ?_
    refine K.ret ?_
    refine K.ret_then ?_
    refine K.end_ret (fun w _ => K.res_tmp rfl w) ?_
    exact K.gives_i rfl (by unfold freshE; rw [if_neg (by simpa using ht7), if_pos ht11])
  try replace ht11 := of_decide_eq_false ht11
  refine K.skip ?_
  refine K.norm_then ?_
  refine sr ?_
  refine qa ?_
  refine sn ?_
  refine K.ret ?_
  refine K.end_ret (fun w _ => K.res_tmp rfl w) ?_
  exact K.gives_i rfl (by unfold freshE; rw [if_neg (by simpa using ht7), if_neg (by simpa using ht11)])

set_option maxRecDepth 100000 in
theorem c107 {low high : Int} {A : Option Addr} {c : Nat} {xs : List (Int × Int)} {w : World} (hX : K.Rd w A 2 K.eP xs) (hn : xs.length ≤ 4611686018427387904) :
    Calls Tryd.prog 107 [.slice A xs.length c, .int .i64 low, .int .i64 high].toArray w (K.Gives (.int .i64 (spreadE low high xs)) w) := by
  refine K.enter (args := [.slice A xs.length c, .int .i64 low, .int .i64 high]) Tryd.func107 rfl (n := 44) rfl ?_
  simp only [List.replicate, List.cons_append, List.nil_append]
  refine sr ?_
  refine qa ?_
  refine sn ?_
  refine sr ?_
  refine qa ?_
  refine sn ?_
  refine K.seq ?_
  refine sr ?_
  refine qa ?_
  refine sn ?_
  refine K.block ?_
  refine K.loopW [7, 8] [6, 9, 10, 11, 12, 13, 14, 15, 16, 17, 18, 19, 20, 21, 22, 23, 24, 25, 26, 27, 28, 29, 30, 31, 32, 33, 34, 35, 36, 37, 38, 39, 40, 41, 42, 43, 44, 45] (fun vi L => ∃ (j : Nat) (e : Int), vi = [.int .i64 e, .int .i64 (j : Int)] ∧ L = [] ∧ j ≤ xs.length ∧ (∀ i, i < j → (fun s : Int × Int => decide (¬ ((low ≤ s.1 ∧ s.1 ≤ high) ∧ (low ≤ s.2 ∧ s.2 ≤ high)))) (xs.getD i default) = false) ∧ e = if (xs.take j).any (fun s => decide (s.1 > s.2)) then 2 else 0) (fun vi => xs.length - (intOf (K.nth vi 1)).toNat) ?_ ?_
  · exact ⟨0, 0, rfl, rfl, Nat.zero_le _, fun i hi => absurd hi (Nat.not_lt_zero i), rfl⟩
  intro vi vr L hJ
  obtain ⟨j, e, rfl, rfl, hjn, hall, he⟩ := hJ
  try dsimp only [setd, setn, ev, nth, over, cl, eI, eP, eT, eN, eS, setM, setF, List.map, List.append, List.drop, List.take]
  refine K.seq ?_
  refine sr ?_
  iterate 2 refine qm ?_
  refine qp (K.len_sl sl_148 rfl) ?_
  refine qp (K.lss rfl rfl) ?_
  refine sn ?_
  refine K.cond rfl (fun ht12 => ?_) (fun ht12 => ?_)
  · try replace ht12 := of_decide_eq_true ht12
    have hj : j < xs.length := by omega
    refine K.skip ?_
    refine K.norm_then ?_
    refine K.seq ?_
    refine K.block ?_
    refine K.seq ?_
    refine sr ?_
    iterate 2 refine qm ?_
    refine K.seq_ix (M := []) _ hX.sl sl_148 rfl rfl rfl (by omega) rfl ?_
    intro p17 hp17
    refine zN ?_
    refine qp (K.fieldAddr fo_61_0 rfl) ?_
    refine K.seq_sil (K.load1 one_3 rfl ((K.PtrL.fld hp17 (k := 0)).any)) rfl ?_
    refine zN ?_
    iterate 2 refine qm ?_
    refine K.seq_call (K.call_g cal_106 (fun F w hF hw => c106 w)) rfl ?_
    refine zN ?_
    first | refine K.seq_pure (K.not_d rfl) rfl ?_ | refine K.seq_pure (K.not_ rfl) rfl ?_
    refine zN ?_
    refine qm ?_
    refine K.split 24 rfl (fun hg24 => ?_) (fun hg24 => ?_)
    · try replace hg24 := of_decide_eq_true hg24
      iterate 9 refine qs ?_
      refine qp (K.pick_t rfl) ?_
      refine sn ?_
      refine K.cond_true rfl ?_
      refine sr ?_
      refine qa ?_
      refine sn ?_
      refine K.ret ?_
      refine K.ret_then ?_
      refine K.ret_block ?_
      refine K.ret_then ?_
      refine K.ret_then ?_
      refine K.ret_block ?_
      refine K.ret_then ?_
      refine K.end_ret (fun w _ => K.res_tmp rfl w) ?_
      exact K.gives_i rfl (by unfold spreadE; rw [if_pos (any_t hj (decide_eq_true (by omega)))])
    try replace hg24 := of_decide_eq_false hg24
    iterate 2 refine qm ?_
    refine K.seq_ix (M := []) _ hX.sl sl_148 rfl rfl rfl (by omega) rfl ?_
    intro p27 hp27
    refine zN ?_
    refine qp (K.fieldAddr fo_61_1 rfl) ?_
    refine K.seq_sil (K.load1 one_3 rfl ((K.PtrL.fld hp27 (k := 1)).any)) rfl ?_
    refine zN ?_
    iterate 2 refine qm ?_
    refine K.seq_call (K.call_g cal_106 (fun F w hF hw => c106 w)) rfl ?_
    refine zN ?_
    first | refine K.seq_pure (K.not_d rfl) rfl ?_ | refine K.seq_pure (K.not_ rfl) rfl ?_
    refine zN ?_
    refine qp (K.pick_f rfl) ?_
    refine sn ?_
    refine K.cond rfl (fun ht34 => ?_) (fun ht34 => ?_)
    · try replace ht34 := of_decide_eq_true ht34
      refine sr ?_
      refine qa ?_
      refine sn ?_
      refine K.ret ?_
      refine K.ret_then ?_
      refine K.ret_block ?_
      refine K.ret_then ?_
      refine K.ret_then ?_
      refine K.ret_block ?_
      refine K.ret_then ?_
      refine K.end_ret (fun w _ => K.res_tmp rfl w) ?_
      exact K.gives_i rfl (by unfold spreadE; rw [if_pos (any_t hj (decide_eq_true (by omega)))])
    try replace ht34 := of_decide_eq_false ht34
    refine K.skip ?_
    refine K.norm_then ?_
    refine K.seq ?_
    refine K.draw_L [] Tryd_mixed ?_
    refine K.d_pure 0 rfl (K.move) (by kernel_rfl) rfl ?_
    refine zn ?_
    refine K.d_pure 1 rfl (K.move) (by kernel_rfl) rfl ?_
    refine zn ?_
    refine K.d_ix (M := []) 2 _ rfl hX.sl sl_148 rfl rfl rfl (by omega) (by kernel_rfl) rfl ?_
    intro p37 hp37
    refine zN ?_
    refine K.d_pure 3 rfl (K.fieldAddr fo_61_0 rfl) (by kernel_rfl) rfl ?_
    refine zn ?_
    refine K.d_mem 4 rfl (K.load1 one_3 rfl ((K.PtrL.fld hp37 (k := 0)).any)) (fun _ h => h) (by kernel_rfl) (by kernel_rfl) rfl ?_
    refine zN ?_
    refine K.d_pure 5 rfl (K.move) (by kernel_rfl) rfl ?_
    refine zn ?_
    refine K.d_pure 6 rfl (K.move) (by kernel_rfl) rfl ?_
    refine zn ?_
    refine K.d_ix (M := []) 7 _ rfl hX.sl sl_148 rfl rfl rfl (by omega) (by kernel_rfl) rfl ?_
    intro p42 hp42
    refine zN ?_
    refine K.d_pure 8 rfl (K.fieldAddr fo_61_1 rfl) (by kernel_rfl) rfl ?_
    refine zn ?_
    refine K.d_mem 9 rfl (K.load1 one_3 rfl ((K.PtrL.fld hp42 (k := 1)).any)) (fun _ h => h) (by kernel_rfl) (by kernel_rfl) rfl ?_
    refine zN ?_
    refine K.d_pure 10 rfl (K.gtr rfl rfl) (by kernel_rfl) rfl ?_
    refine zn ?_
    refine K.d_done (by kernel_rfl) ?_
    refine K.norm_then ?_
    refine K.cond rfl (fun ht45 => ?_) (fun ht45 => ?_)
    · try replace ht45 := of_decide_eq_true ht45
      refine K.region_lit ?_
      refine qa ?_
      refine K.seq_nil ?_
      refine K.norm_block ?_
      refine K.norm_then ?_
      refine K.region_lit ?_
      refine qm ?_
      refine qp (K.add_i64 rfl rfl (by omega)) ?_
      refine qa ?_
      refine K.seq_nil ?_
      first | exact K.round_endW (L'' := []) [.int .i64 2, .int .i64 ((j : Int) + 1)] ⟨j + 1, 2, rfl, rfl, by omega, K.lt_succ_case hall (decide_eq_false (by omega)), by rw [any_take hj, decide_eq_true ht45, Bool.or_true]; rfl⟩ (by simp [K.nth, intOf]; omega) (List.nil_sublist _) (by kernel_rfl) | exact K.round_endW (L'' := []) [.int .i64 e, .int .i64 ((j : Int) + 1)] ⟨j + 1, e, rfl, rfl, by omega, K.lt_succ_case hall (decide_eq_false (by omega)), by rw [any_take hj, decide_eq_false ht45, Bool.or_false, ← he]⟩ (by simp [K.nth, intOf]; omega) (List.nil_sublist _) (by kernel_rfl)
    try replace ht45 := of_decide_eq_false ht45
    refine K.skip ?_
    refine K.norm_block ?_
    refine K.norm_then ?_
    refine K.region_lit ?_
    refine qm ?_
    refine qp (K.add_i64 rfl rfl (by omega)) ?_
    refine qa ?_
    refine K.seq_nil ?_
    first | exact K.round_endW (L'' := []) [.int .i64 2, .int .i64 ((j : Int) + 1)] ⟨j + 1, 2, rfl, rfl, by omega, K.lt_succ_case hall (decide_eq_false (by omega)), by rw [any_take hj, decide_eq_true ht45, Bool.or_true]; rfl⟩ (by simp [K.nth, intOf]; omega) (List.nil_sublist _) (by kernel_rfl) | exact K.round_endW (L'' := []) [.int .i64 e, .int .i64 ((j : Int) + 1)] ⟨j + 1, e, rfl, rfl, by omega, K.lt_succ_case hall (decide_eq_false (by omega)), by rw [any_take hj, decide_eq_false ht45, Bool.or_false, ← he]⟩ (by simp [K.nth, intOf]; omega) (List.nil_sublist _) (by kernel_rfl)
  try replace ht12 := of_decide_eq_false ht12
  refine K.exit ?_
  refine K.exit_then ?_
  refine K.exit_then ?_
  refine K.exit_here ?_
  refine K.norm_then ?_
  refine sr ?_
  refine qm ?_
  refine qa ?_
  refine sn ?_
  refine K.ret ?_
  refine K.end_ret (fun w _ => K.res_tmp rfl w) ?_
  exact K.gives_i rfl (by unfold spreadE; rw [if_neg (by rw [any_f (fun i hi => hall i (by omega))]; decide), he, take_all (by omega)])

set_option maxRecDepth 100000 in
theorem c94 {a b low high : Int} (w : World) :
    Calls Tryd.prog 94 [.agg #[.int .i64 a, .int .i64 b], .int .i64 low, .int .i64 high].toArray w (K.Gives (.int .i64 (spreadE low high [(a, b)])) w) := by
  refine K.enter (args := [.agg #[.int .i64 a, .int .i64 b], .int .i64 low, .int .i64 high]) Tryd.func94 rfl (n := 9) rfl ?_
  simp only [List.replicate, List.cons_append, List.nil_append]
  refine sr ?_
  refine K.seq_new (K.box) rfl ?_
  intro b3
  refine zN ?_
  refine qa ?_
  refine sn ?_
  refine sr ?_
  refine K.seq_sil (K.loadA_own ag_61 rfl (K.m0) rfl) rfl ?_
  refine zN ?_
  refine K.seq_new (K.buildSlice (bs61 _ _)) rfl ?_
  intro b8
  refine zN ?_
  iterate 2 refine qm ?_
  refine K.seq_call (K.call_g cal_107 (fun F w hF hw => c107 (xs := [(a, b)]) (K.Rd.lit hw (hF _ (K.m0)) (fun _ => rfl) (by decide) rfl) (by simp))) rfl ?_
  refine zN ?_
  refine qa ?_
  refine sn ?_
  refine K.ret ?_
  refine K.end_ret (fun w _ => K.res_tmp rfl w) ?_
  exact K.gives rfl

set_option maxRecDepth 100000 in
theorem c60 {m : Mod} {A B C : Option Addr} {c d e : Nat} {s : StT} {w : World} (hW : 1 ≤ m.W ∧ m.W ≤ 8) (hD : 1 ≤ m.D ∧ m.D ≤ 8) :
    Calls Tryd.prog 60 [.agg #[.int .i64 m.W, .int .i64 m.D, .slice A m.hs.length c, .slice B m.ps.length d, .slice C m.ss.length e], .agg #[.int .i64 s.x, .int .i64 s.y, .int .i64 s.lo, .int .i64 s.hi]].toArray w (K.Gives (.int .i64 (stE m.W m.D s)) w) := by
  refine K.enter (args := [.agg #[.int .i64 m.W, .int .i64 m.D, .slice A m.hs.length c, .slice B m.ps.length d, .slice C m.ss.length e], .agg #[.int .i64 s.x, .int .i64 s.y, .int .i64 s.lo, .int .i64 s.hi]]) Tryd.func60 rfl (n := 28) rfl ?_
  simp only [List.replicate, List.cons_append, List.nil_append]
  refine sr ?_
  refine K.seq_new (K.box) rfl ?_
  intro b2
  refine zN ?_
  refine K.seq_new (K.box) rfl ?_
  intro b3
  refine zN ?_
  refine qa ?_
  refine sn ?_
  refine sr ?_
  refine qp (K.fieldAddr_lit fo_63_2 rfl) ?_
  refine K.seq_sil (K.loadA_own ag_61 rfl (K.m0) rfl) rfl ?_
  refine zN ?_
  refine K.seq_call (K.call_g cal_94 (fun F w hF hw => c94 w)) rfl ?_
  refine zN ?_
  refine qa ?_
  refine sn ?_
  refine K.seq ?_
  refine sr ?_
  refine qm ?_
  refine qp (K.eql rfl rfl) ?_
  refine qm ?_
  refine K.split 11 rfl (fun hg11 => ?_) (fun hg11 => ?_)
  · try replace hg11 := of_decide_eq_true hg11
    iterate 4 refine qs ?_
    refine qp (K.pick_t rfl) ?_
    refine qm ?_
    iterate 4 refine qs ?_
    refine qp (K.pick_t rfl) ?_
    refine sn ?_
    refine K.cond_true rfl ?_
    refine sr ?_
    refine qa ?_
    refine sn ?_
    refine K.ret ?_
    refine K.ret_then ?_
    refine K.end_ret (fun w _ => K.res_tmp rfl w) ?_
    exact K.gives_i rfl (by first | exact (st_7a hg11).symm | (unfold stE; rw [if_pos (by omega)]))
  try replace hg11 := of_decide_eq_false hg11
  refine qp (K.fieldAddr_lit fo_63_0 rfl) ?_
  refine K.seq_sil (K.load1_own one_3 rfl (K.m0) rfl) rfl ?_
  refine zN ?_
  refine K.seq_call (K.call_g cal_57 (fun F w hF hw => c57 w)) rfl ?_
  refine zN ?_
  first | refine K.seq_pure (K.not_d rfl) rfl ?_ | refine K.seq_pure (K.not_ rfl) rfl ?_
  refine zN ?_
  refine qp (K.pick_f rfl) ?_
  refine qm ?_
  refine K.split 17 rfl (fun hg17 => ?_) (fun hg17 => ?_)
  · try replace hg17 := of_decide_eq_true hg17
    iterate 4 refine qs ?_
    refine qp (K.pick_t rfl) ?_
    refine sn ?_
    refine K.cond_true rfl ?_
    refine sr ?_
    refine qa ?_
    refine sn ?_
    refine K.ret ?_
    refine K.ret_then ?_
    refine K.end_ret (fun w _ => K.res_tmp rfl w) ?_
    exact K.gives_i rfl (by first | exact (st_7a hg11).symm | (unfold stE; rw [if_pos (by omega)]))
  try replace hg17 := of_decide_eq_false hg17
  refine qp (K.fieldAddr_lit fo_63_1 rfl) ?_
  refine K.seq_sil (K.load1_own one_3 rfl (K.m0) rfl) rfl ?_
  refine zN ?_
  refine K.seq_call (K.call_g cal_57 (fun F w hF hw => c57 w)) rfl ?_
  refine zN ?_
  first | refine K.seq_pure (K.not_d rfl) rfl ?_ | refine K.seq_pure (K.not_ rfl) rfl ?_
  refine zN ?_
  refine qp (K.pick_f rfl) ?_
  refine sn ?_
  refine K.cond rfl (fun ht22 => ?_) (fun ht22 => ?_)
  · try replace ht22 := of_decide_eq_true ht22
    refine sr ?_
    refine qa ?_
    refine sn ?_
    refine K.ret ?_
    refine K.ret_then ?_
    refine K.end_ret (fun w _ => K.res_tmp rfl w) ?_
    exact K.gives_i rfl (by first | exact (st_7a hg11).symm | (unfold stE; rw [if_pos (by omega)]))
  try replace ht22 := of_decide_eq_false ht22
  refine K.skip ?_
  refine K.norm_then ?_
  refine K.seq ?_
  refine sr ?_
  refine K.seq_sil (K.loadA_own ag_26 rfl (K.m1) rfl) rfl ?_
  refine zN ?_
  refine qp (K.fieldAddr_lit fo_63_0 rfl) ?_
  refine K.seq_sil (K.load1_own one_3 rfl (K.m0) rfl) rfl ?_
  refine zN ?_
  refine qp (K.fieldAddr_lit fo_63_1 rfl) ?_
  refine K.seq_sil (K.load1_own one_3 rfl (K.m0) rfl) rfl ?_
  refine zN ?_
  refine K.seq_call (K.call_g cal_81 (fun F w hF hw => c81 hW hD)) rfl ?_
  refine zN ?_
  refine sn ?_
  refine K.cond rfl (fun ht28 => ?_) (fun ht28 => ?_)
  · try replace ht28 := of_decide_eq_true ht28
    refine sr ?_
    refine qa ?_
    refine sn ?_
    refine K.ret ?_
    refine K.ret_then ?_
    refine K.end_ret (fun w _ => K.res_tmp rfl w) ?_
    exact K.gives_i rfl (by rw [st_rest hg11 (by omega), if_pos ht28])
  try replace ht28 := of_decide_eq_false ht28
  refine K.skip ?_
  refine K.norm_then ?_
  refine sr ?_
  refine qm ?_
  refine qa ?_
  refine sn ?_
  refine K.ret ?_
  refine K.end_ret (fun w _ => K.res_tmp rfl w) ?_
  exact K.gives_i rfl (by rw [st_rest hg11 (by omega), if_neg ht28])

end Go.Proofs.YthkgnhcknkjgdaaDoor
