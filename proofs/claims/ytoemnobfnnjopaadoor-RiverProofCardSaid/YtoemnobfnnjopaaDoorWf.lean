/-
  Walks of the program's functions, printed by program: what each returns.
  Conditions stand in each theorem.
-/
import Derived.WalkArith
import Derived.Laws.Closers25b
import Derived.Test.YtoemnobfnnjopaaDoorWe
set_option linter.unusedSimpArgs false
set_option linter.unusedVariables false
namespace Go.Proofs.YtoemnobfnnjopaaDoor
open Go.RowKit Go
open Go.K (setd setn ev nth over cl eI eP eT setM setF)
attribute [local irreducible] K.blk K.row
theorem rv_fresh {r : List RvT} {i : Nat} : rvE r i = if freshE (r.getD i default).nm ((r.take i).map (·.nm)) = 0 then posE r.length i (r.getD i default) else freshE (r.getD i default).nm ((r.take i).map (·.nm)) := by
  have e : (((r.take i).map (·.nm)).any fun q => nmEq q (r.getD i default).nm) = (r.take i).any fun q => nmEq q.nm (r.getD i default).nm := by rw [List.any_map]; rfl
  unfold rvE freshE
  rw [e]
  split
  · simp
  · split
    · simp
    · simp

set_option maxRecDepth 100000 in
set_option maxHeartbeats 1000000 in
theorem c15 {r : List RvT} {A : Option Addr} {c : Nat} {w : World} (hR : K.Rd w A 4 eR r) (hn : r.length ≤ 4611686018427387904) :
    Calls Tryd.prog 15 [.slice A r.length c].toArray w (K.Gives (K.tup3 (chk r)) w) := by
  refine K.enter (args := [.slice A r.length c]) Tryd.func15 rfl (n := 98) rfl ?_
  simp only [List.replicate, List.cons_append, List.nil_append]
  refine sr ?_
  iterate 3 refine qa ?_
  refine sn ?_
  refine K.seq ?_
  refine sr ?_
  refine qm ?_
  refine qp (K.len_sl sl_22 rfl) ?_
  refine K.seq_call (K.call_g cal_49 (fun F w hF hw => c49 w)) rfl ?_
  refine zN ?_
  first | refine K.seq_pure (K.not_d rfl) rfl ?_ | refine K.seq_pure (K.not_ rfl) rfl ?_
  refine zN ?_
  refine sn ?_
  refine K.cond rfl (fun ht16 => ?_) (fun ht16 => ?_)
  · try replace ht16 := of_decide_eq_true ht16
    refine sr ?_
    iterate 3 refine qa ?_
    refine sn ?_
    refine K.ret ?_
    refine K.ret_then ?_
    refine K.end_ret (fun w _ => K.res_ttt rfl w) ?_
    exact K.gives (by rw [chk_1 (by omega)]; rfl)
  try replace ht16 := of_decide_eq_false ht16
  refine K.skip ?_
  refine K.norm_then ?_
  refine sr ?_
  refine qa ?_
  refine sn ?_
  refine K.seq ?_
  refine sr ?_
  refine K.nil_row (e := 9) (size := 1) ?_
  refine qa ?_
  refine sn ?_
  refine K.block ?_
  refine K.loopW [5, 6] [2, 3, 4, 7, 17, 18, 19, 20, 21, 22, 23, 24, 25, 26, 27, 28, 29, 30, 31, 32, 33, 34, 35, 36, 37, 38, 39, 40, 41, 42, 43, 44, 45, 46] (fun vi L => ∃ (k : Nat) (Q1 : Option Addr) (q1 : Nat), vi = [.slice Q1 ((r.take k).map (·.nm)).length q1, .int .i64 (k : Int)] ∧ L = [K.row (.slice Q1 ((r.take k).map (·.nm)).length q1) 9 1 ((r.take k).map (·.nm)).length (((r.take k).map (·.nm)).flatMap eB)] ∧ k ≤ r.length ∧ ∀ j, j < k → rvE r j = 0) (fun vi => r.length - (intOf (K.nth vi 1)).toNat) ?_ ?_
  · exact ⟨0, none, 0, rfl, rfl, Nat.zero_le _, fun j hj => absurd hj (Nat.not_lt_zero j)⟩
  intro vi vr L hJ
  obtain ⟨k, Q1, q1, rfl, rfl, hkn, hall⟩ := hJ
  have hnl : ((r.take k).map (·.nm)).length = k := by rw [List.length_map, List.length_take]; omega
  have hnl2 : ((r.take k).map (·.nm)).length ≤ 4611686018427387904 := by rw [hnl]; omega
  try dsimp only [setd, setn, ev, nth, over, cl, eI, eP, eT, eR, setM, setF, List.map, List.append, List.drop, List.take]
  refine K.seq ?_
  refine sr ?_
  iterate 2 refine qm ?_
  refine qp (K.len_sl sl_22 rfl) ?_
  refine qp (K.lss rfl rfl) ?_
  refine sn ?_
  refine K.cond rfl (fun ht20 => ?_) (fun ht20 => ?_)
  · try replace ht20 := of_decide_eq_true ht20
    have hk : k < r.length := by omega
    refine K.skip ?_
    refine K.norm_then ?_
    refine K.seq ?_
    refine K.block ?_
    refine K.seq ?_
    refine K.use_row K.m0 (fun hQ => ?_)
    refine K.region_lit ?_
    iterate 2 refine qm ?_
    refine K.seq_ix (M := []) _ hR.sl sl_22 rfl rfl rfl (by omega) rfl ?_
    intro p25 hp25
    refine zN ?_
    refine qp (K.fieldAddr fo_44_0 rfl) ?_
    refine K.seq_sil (K.load1 one_9 rfl ((K.PtrL.fld hp25 (k := 0)).any)) rfl ?_
    refine zN ?_
    refine qm ?_
    refine K.seq_call (K.call_g cal_50 (fun F w hF hw => (by have hh := K.Rd.own hw (hF _ (K.m0)) hQ (e := eB) (fun _ => rfl) (by decide); exact c50 (l := ((r.take k).map (·.nm))) hh hnl2))) rfl ?_
    refine zN ?_
    refine qa ?_
    refine sn ?_
    refine sr ?_
    iterate 3 refine qm ?_
    refine K.seq_ix (M := []) _ hR.sl sl_22 rfl rfl rfl (by omega) rfl ?_
    intro p33 hp33
    refine zN ?_
    refine qp (K.fieldAddr fo_44_0 rfl) ?_
    refine K.seq_sil (K.load1 one_9 rfl ((K.PtrL.fld hp33 (k := 0)).any)) rfl ?_
    refine zN ?_
    refine K.seq_new (K.buildSlice (bs62 _)) rfl ?_
    intro b36
    refine zN ?_
    refine K.seq_upd (K.append el_62 rfl rfl (K.PtrL.own' (K.m0)) rfl rfl (by decide) (by omega) (by omega) (fun _ _ => K.rp1)) rfl ?_
    rintro ⟨g37, c37⟩ _
    refine zN ?_
    refine qa ?_
    refine sn ?_
    refine K.seq ?_
    refine sr ?_
    refine qm ?_
    refine qp (K.eql rfl rfl) ?_
    refine sn ?_
    refine K.cond rfl (fun ht39 => ?_) (fun ht39 => ?_)
    · try replace ht39 := of_decide_eq_true ht39
      refine K.region_lit ?_
      iterate 2 refine qm ?_
      refine K.seq_call (K.call_g cal_51 (fun F w hF hw => c51 (hR.pass hw) hn hk)) rfl ?_
      refine zN ?_
      refine qa ?_
      refine sn ?_
      refine sr ?_
      refine qm ?_
      refine qp (K.neq rfl rfl) ?_
      refine sn ?_
      refine K.cond rfl (fun ht44 => ?_) (fun ht44 => ?_)
      · try replace ht44 := of_decide_eq_true ht44
        refine sr ?_
        iterate 2 refine qm ?_
        iterate 3 refine qa ?_
        refine sn ?_
        refine K.ret ?_
        refine K.ret_block ?_
        refine K.ret_then ?_
        refine K.ret_then ?_
        refine K.ret_block ?_
        refine K.ret_then ?_
        refine K.end_ret (fun w _ => K.res_ttt rfl w) ?_
        have hne : rvE r k ≠ 0 := by rw [rv_fresh, if_pos ht39]; exact ht44
        exact K.gives (by rw [chk_at (by omega) hk hall hne, rv_fresh, if_pos ht39]; rfl)
      try replace ht44 := of_decide_eq_false ht44
      refine K.skip ?_
      refine K.norm_block ?_
      refine K.norm_then ?_
      refine K.region_lit ?_
      refine qm ?_
      refine qp (K.add_i64 rfl rfl (by omega)) ?_
      refine qa ?_
      refine K.seq_nil ?_
      have hrv : rvE r k = 0 := by
        rw [rv_fresh]
        first
          | (rw [if_pos ht39]; omega)
          | (rw [if_neg ht39]; omega)
      exact K.round_endW (L'' := [K.row (.slice (some ⟨g37, 0, none⟩) (((r.take k).map (·.nm)).length + 1) c37) 9 1 (((r.take k).map (·.nm)).length + 1) (((r.take k).map (·.nm)).flatMap eB ++ [.string (r.getD k default).nm])]) [.slice (some ⟨g37, 0, none⟩) (((r.take k).map (·.nm)).length + 1) c37, .int .i64 ((k : Int) + 1)] ⟨k + 1, some ⟨g37, 0, none⟩, c37, by rw [take_succ_map _ hk, List.length_append]; rfl, by rw [take_succ_map _ hk, List.length_append, List.flatMap_append]; rfl, by omega, K.lt_succ_case hall hrv⟩ (by simp [K.nth, intOf]; omega) (List.Sublist.cons _ (List.Sublist.refl _)) (by kernel_rfl)
    try replace ht39 := of_decide_eq_false ht39
    refine K.skip ?_
    refine K.norm_then ?_
    refine sr ?_
    refine qm ?_
    refine qp (K.neq rfl rfl) ?_
    refine sn ?_
    refine K.cond rfl (fun ht44 => ?_) (fun ht44 => ?_)
    · try replace ht44 := of_decide_eq_true ht44
      refine sr ?_
      iterate 2 refine qm ?_
      iterate 3 refine qa ?_
      refine sn ?_
      refine K.ret ?_
      refine K.ret_block ?_
      refine K.ret_then ?_
      refine K.ret_then ?_
      refine K.ret_block ?_
      refine K.ret_then ?_
      refine K.end_ret (fun w _ => K.res_ttt rfl w) ?_
      have hne : rvE r k ≠ 0 := by rw [rv_fresh, if_neg ht39]; exact ht44
      exact K.gives (by rw [chk_at (by omega) hk hall hne, rv_fresh, if_neg ht39]; rfl)
    try replace ht44 := of_decide_eq_false ht44
    refine K.skip ?_
    refine K.norm_block ?_
    refine K.norm_then ?_
    refine K.region_lit ?_
    refine qm ?_
    refine qp (K.add_i64 rfl rfl (by omega)) ?_
    refine qa ?_
    refine K.seq_nil ?_
    have hrv : rvE r k = 0 := by
      rw [rv_fresh]
      first
        | (rw [if_pos ht39]; omega)
        | (rw [if_neg ht39]; omega)
    exact K.round_endW (L'' := [K.row (.slice (some ⟨g37, 0, none⟩) (((r.take k).map (·.nm)).length + 1) c37) 9 1 (((r.take k).map (·.nm)).length + 1) (((r.take k).map (·.nm)).flatMap eB ++ [.string (r.getD k default).nm])]) [.slice (some ⟨g37, 0, none⟩) (((r.take k).map (·.nm)).length + 1) c37, .int .i64 ((k : Int) + 1)] ⟨k + 1, some ⟨g37, 0, none⟩, c37, by rw [take_succ_map _ hk, List.length_append]; rfl, by rw [take_succ_map _ hk, List.length_append, List.flatMap_append]; rfl, by omega, K.lt_succ_case hall hrv⟩ (by simp [K.nth, intOf]; omega) (List.Sublist.cons _ (List.Sublist.refl _)) (by kernel_rfl)
  try replace ht20 := of_decide_eq_false ht20
  refine K.exit ?_
  refine K.exit_then ?_
  refine K.exit_then ?_
  refine K.exit_here ?_
  refine K.norm_then ?_
  refine K.seq ?_
  have hln : 1 ≤ r.length ∧ r.length ≤ 9 := by omega
  have hf0 : (K.fst (rvE r) (List.range r.length)).2 = 0 := fst_0 (fun j hj => hall j (by omega))
  have hdn : ∀ i, i < r.length → -1 ≤ (r.getD i default).dn ∧ (r.getD i default).dn ≤ (r.length : Int) - 1 := fun i hi => (pos_ok (rv_ok (hall i (by omega))).2.2).2.1
  refine K.region_lit ?_
  refine qa ?_
  refine sn ?_
  refine K.seq ?_
  refine sr ?_
  refine qa ?_
  refine sn ?_
  refine K.block ?_
  refine K.loopW [8, 9] [2, 3, 4, 47, 48, 49, 50, 51, 52, 53, 54, 55, 56, 57, 58, 59, 60, 61, 62, 63] (fun vi L => ∃ j : Nat, vi = [.int .i64 ((mouS r j).length : Int), .int .i64 ((j : Nat) : Int)] ∧ L = [K.row (.slice Q1 ((r.take k).map (·.nm)).length q1) 9 1 ((r.take k).map (·.nm)).length (((r.take k).map (·.nm)).flatMap eB)] ∧ j ≤ r.length ∧ (mouS r j).length ≤ 1) (fun vi => r.length - (intOf (K.nth vi 1)).toNat) ?_ ?_
  · exact ⟨0, rfl, rfl, Nat.zero_le _, Nat.zero_le _⟩
  intro vi vr L hJ
  obtain ⟨j, rfl, rfl, hjn, hm1⟩ := hJ
  try dsimp only [setd, setn, ev, nth, over, cl, eI, eP, eT, eR, setM, setF, List.map, List.append, List.drop, List.take]
  refine K.seq ?_
  refine sr ?_
  iterate 2 refine qm ?_
  refine qp (K.len_sl sl_22 rfl) ?_
  refine qp (K.lss rfl rfl) ?_
  refine sn ?_
  refine K.cond rfl (fun ht50 => ?_) (fun ht50 => ?_)
  · try replace ht50 := of_decide_eq_true ht50
    have hj : j < r.length := by omega
    have hml := @mou_len r j
    refine K.skip ?_
    refine K.norm_then ?_
    refine K.seq ?_
    refine K.block ?_
    refine sr ?_
    iterate 2 refine qm ?_
    refine K.seq_ix (M := []) _ hR.sl sl_22 rfl rfl rfl (by omega) rfl ?_
    intro p55 hp55
    refine zN ?_
    refine qp (K.fieldAddr fo_44_1 rfl) ?_
    refine K.seq_sil (K.load1 one_3 rfl ((K.PtrL.fld hp55 (k := 1)).any)) rfl ?_
    refine zN ?_
    refine qp (K.eql rfl rfl) ?_
    refine sn ?_
    refine K.cond rfl (fun ht58 => ?_) (fun ht58 => ?_)
    · try replace ht58 := of_decide_eq_true ht58
      refine sr ?_
      refine qm ?_
      refine qp (K.add_i64 rfl rfl (by omega)) ?_
      refine qa ?_
      refine sn ?_
      refine sr ?_
      refine qm ?_
      refine qp (K.eql rfl rfl) ?_
      refine sn ?_
      refine K.cond rfl (fun ht62 => ?_) (fun ht62 => ?_)
      · try replace ht62 := of_decide_eq_true ht62
        refine sr ?_
        refine qm ?_
        iterate 3 refine qa ?_
        refine sn ?_
        refine K.ret ?_
        refine K.ret_block ?_
        refine K.ret_then ?_
        refine K.ret_then ?_
        refine K.ret_block ?_
        refine K.ret_then ?_
        refine K.end_ret (fun w _ => K.res_ttt rfl w) ?_
        obtain ⟨hm2, hm3⟩ := mou_two (by omega) ht58 hj
        exact K.gives (by rw [chk_4 hln hf0 hm2, hm3]; rfl)
      try replace ht62 := of_decide_eq_false ht62
      refine K.skip ?_
      refine K.norm_block ?_
      refine K.norm_then ?_
      refine K.region_lit ?_
      refine qm ?_
      refine qp (K.add_i64 rfl rfl (by omega)) ?_
      refine qa ?_
      refine K.seq_nil ?_
      have hm1 : (mouS r (j + 1)).length = (mouS r j).length + 1 := by rw [mou_s ht58, List.length_append]; rfl
      exact K.round_endW (L'' := [K.row (.slice Q1 ((r.take k).map (·.nm)).length q1) 9 1 ((r.take k).map (·.nm)).length (((r.take k).map (·.nm)).flatMap eB)]) [.int .i64 (((mouS r j).length : Int) + 1), .int .i64 ((j : Int) + 1)] ⟨j + 1, by rw [hm1]; rfl, rfl, by omega, by omega⟩ (by simp [K.nth, intOf]; omega) (List.Sublist.refl _) (by kernel_rfl)
    try replace ht58 := of_decide_eq_false ht58
    refine K.skip ?_
    refine K.norm_block ?_
    refine K.norm_then ?_
    refine K.region_lit ?_
    refine qm ?_
    refine qp (K.add_i64 rfl rfl (by omega)) ?_
    refine qa ?_
    refine K.seq_nil ?_
    have hm1 : (mouS r (j + 1)).length = (mouS r j).length := by rw [mou_n ht58]
    exact K.round_endW (L'' := [K.row (.slice Q1 ((r.take k).map (·.nm)).length q1) 9 1 ((r.take k).map (·.nm)).length (((r.take k).map (·.nm)).flatMap eB)]) [.int .i64 ((mouS r j).length : Int), .int .i64 ((j : Int) + 1)] ⟨j + 1, by rw [hm1]; rfl, rfl, by omega, by omega⟩ (by simp [K.nth, intOf]; omega) (List.Sublist.refl _) (by kernel_rfl)
  try replace ht50 := of_decide_eq_false ht50
  refine K.exit ?_
  refine K.exit_then ?_
  refine K.exit_then ?_
  refine K.exit_here ?_
  refine K.norm_then ?_
  refine K.seq ?_
  refine sr ?_
  refine qm ?_
  refine qp (K.eql rfl rfl) ?_
  refine sn ?_
  refine K.cond rfl (fun ht65 => ?_) (fun ht65 => ?_)
  · try replace ht65 := of_decide_eq_true ht65
    refine sr ?_
    iterate 3 refine qa ?_
    refine sn ?_
    refine K.ret ?_
    refine K.ret_then ?_
    refine K.end_ret (fun w _ => K.res_ttt rfl w) ?_
    obtain rfl : j = r.length := by omega
    exact K.gives (by rw [chk_3 hln hf0 (by omega)]; rfl)
  try replace ht65 := of_decide_eq_false ht65
  refine K.skip ?_
  refine K.norm_then ?_
  refine K.seq ?_
  refine sr ?_
  refine qa ?_
  refine sn ?_
  refine K.block ?_
  refine K.loopW [10] [2, 3, 4, 11, 12, 66, 67, 68, 69, 70, 71, 72, 73, 74, 75, 76, 77, 78, 79, 80, 81, 82, 83, 84, 85, 86, 87, 88, 89, 90, 91, 92, 93, 94, 95, 96, 97, 98] (fun vi L => ∃ i : Nat, vi = [.int .i64 (i : Int)] ∧ L = [K.row (.slice Q1 ((r.take k).map (·.nm)).length q1) 9 1 ((r.take k).map (·.nm)).length (((r.take k).map (·.nm)).flatMap eB)] ∧ i ≤ r.length ∧ ∀ j, j < i → reaB r j = true) (fun vi => r.length - (intOf (K.nth vi 0)).toNat) ?_ ?_
  · exact ⟨0, rfl, rfl, Nat.zero_le _, fun j hj => absurd hj (Nat.not_lt_zero j)⟩
  intro vi vr L hJ
  obtain ⟨i, rfl, rfl, hin, hrea⟩ := hJ
  try dsimp only [setd, setn, ev, nth, over, cl, eI, eP, eT, eR, setM, setF, List.map, List.append, List.drop, List.take]
  refine K.seq ?_
  refine sr ?_
  iterate 2 refine qm ?_
  refine qp (K.len_sl sl_22 rfl) ?_
  refine qp (K.lss rfl rfl) ?_
  refine sn ?_
  refine K.cond rfl (fun ht69 => ?_) (fun ht69 => ?_)
  · try replace ht69 := of_decide_eq_true ht69
    have hi : i < r.length := by omega
    refine K.skip ?_
    refine K.norm_then ?_
    refine K.seq ?_
    refine K.block ?_
    refine sr ?_
    refine qm ?_
    refine qa ?_
    refine sn ?_
    refine K.seq ?_
    refine sr ?_
    refine qa ?_
    refine sn ?_
    refine K.block ?_
    refine K.loopW [11, 12] [73, 74, 75, 76, 77, 78, 79, 80, 81, 82, 83, 84, 85, 86, 87, 88, 89, 90, 91] (fun vi L => ∃ a : Nat, vi = [.int .i64 ((stps r a i : Nat) : Int), .int .i64 (a : Int)] ∧ L = [K.row (.slice Q1 ((r.take k).map (·.nm)).length q1) 9 1 ((r.take k).map (·.nm)).length (((r.take k).map (·.nm)).flatMap eB)] ∧ a ≤ r.length) (fun vi => r.length - (intOf (K.nth vi 1)).toNat) ?_ ?_
    · exact ⟨0, rfl, rfl, Nat.zero_le _⟩
    intro vi vr L hJ
    obtain ⟨a, rfl, rfl, han⟩ := hJ
    try dsimp only [setd, setn, ev, nth, over, cl, eI, eP, eT, eR, setM, setF, List.map, List.append, List.drop, List.take]
    refine K.seq ?_
    refine sr ?_
    iterate 2 refine qm ?_
    refine qp (K.len_sl sl_22 rfl) ?_
    refine qp (K.lss rfl rfl) ?_
    refine qm ?_
    refine K.split 77 rfl (fun hg77 => ?_) (fun hg77 => ?_)
    · try replace hg77 := of_decide_eq_true hg77
      have hal : a < r.length := by omega
      have hsl := stps_in hdn hi a
      have hsd := hdn _ hsl
      iterate 2 refine qm ?_
      refine K.seq_ix (M := []) (stps r a i) hR.sl sl_22 rfl rfl (by omega) (by omega) rfl ?_
      intro p80 hp80
      refine zN ?_
      refine qp (K.fieldAddr fo_44_1 rfl) ?_
      refine K.seq_sil (K.load1 one_3 rfl ((K.PtrL.fld hp80 (k := 1)).any)) rfl ?_
      refine zN ?_
      refine qp (K.neq rfl rfl) ?_
      refine qp (K.pick_t rfl) ?_
      refine sn ?_
      refine K.cond rfl (fun ht84 => ?_) (fun ht84 => ?_)
      · try replace ht84 := of_decide_eq_true ht84
        refine K.skip ?_
        refine K.norm_then ?_
        refine K.seq ?_
        refine K.block ?_
        refine K.region_lit ?_
        iterate 2 refine qm ?_
        refine K.seq_ix (M := []) (stps r a i) hR.sl sl_22 rfl rfl (by omega) (by omega) rfl ?_
        intro p89 hp89
        refine zN ?_
        refine qp (K.fieldAddr fo_44_1 rfl) ?_
        refine K.seq_sil (K.load1 one_3 rfl ((K.PtrL.fld hp89 (k := 1)).any)) rfl ?_
        refine zN ?_
        refine qa ?_
        refine K.seq_nil ?_
        refine K.norm_block ?_
        refine K.norm_then ?_
        refine K.region_lit ?_
        refine qm ?_
        refine qp (K.add_i64 rfl rfl (by omega)) ?_
        refine qa ?_
        refine K.seq_nil ?_
        have hst1 : ((stps r (a + 1) i : Nat) : Int) = (r.getD (stps r a i) default).dn := by rw [stps_up ht84]; omega
        exact K.round_endW (L'' := [K.row (.slice Q1 ((r.take k).map (·.nm)).length q1) 9 1 ((r.take k).map (·.nm)).length (((r.take k).map (·.nm)).flatMap eB)]) [.int .i64 (r.getD (stps r a i) default).dn, .int .i64 ((a : Int) + 1)] ⟨a + 1, by rw [hst1]; rfl, rfl, by omega⟩ (by simp [K.nth, intOf]; omega) (List.Sublist.refl _) (by kernel_rfl)
      try replace ht84 := of_decide_eq_false ht84
      refine K.exit ?_
      refine K.exit_then ?_
      refine K.exit_then ?_
      refine K.exit_here ?_
      refine K.norm_then ?_
      refine sr ?_
      iterate 2 refine qm ?_
      refine K.seq_ix (M := []) (stps r a i) hR.sl sl_22 rfl rfl (by omega) (by omega) rfl ?_
      intro p94 hp94
      refine zN ?_
      refine qp (K.fieldAddr fo_44_1 rfl) ?_
      refine K.seq_sil (K.load1 one_3 rfl ((K.PtrL.fld hp94 (k := 1)).any)) rfl ?_
      refine zN ?_
      refine qp (K.neq rfl rfl) ?_
      refine sn ?_
      refine K.cond rfl (fun ht97 => ?_) (fun ht97 => ?_)
      · try replace ht97 := of_decide_eq_true ht97
        refine sr ?_
        refine qm ?_
        iterate 3 refine qa ?_
        refine sn ?_
        refine K.ret ?_
        refine K.ret_block ?_
        refine K.ret_then ?_
        refine K.ret_then ?_
        refine K.ret_block ?_
        refine K.ret_then ?_
        refine K.end_ret (fun w _ => K.res_ttt rfl w) ?_
        obtain rfl : j = r.length := by omega
        first
          | (subst haa; have hre : reaB r i = false := decide_eq_false ht97
             exact K.gives (by rw [chk_5 hln hf0 (by omega) hi hrea hre]; rfl))
          | exact absurd (Decidable.not_not.1 ht84) ht97
      try replace ht97 := of_decide_eq_false ht97
      refine K.skip ?_
      refine K.norm_block ?_
      refine K.norm_then ?_
      refine K.region_lit ?_
      refine qm ?_
      refine qp (K.add_i64 rfl rfl (by omega)) ?_
      refine qa ?_
      refine K.seq_nil ?_
      have hre : reaB r i = true := by
        have hd : (r.getD (stps r a i) default).dn = -1 := Decidable.not_not.1 ht97
        exact decide_eq_true (by rw [stps_rest hd han]; exact hd)
      exact K.round_endW (L'' := [K.row (.slice Q1 ((r.take k).map (·.nm)).length q1) 9 1 ((r.take k).map (·.nm)).length (((r.take k).map (·.nm)).flatMap eB)]) [.int .i64 ((i : Int) + 1)] ⟨i + 1, rfl, rfl, by omega, K.lt_succ_case hrea hre⟩ (by simp [K.nth, intOf]; omega) (List.Sublist.refl _) (by kernel_rfl)
    try replace hg77 := of_decide_eq_false hg77
    have haa : a = r.length := by omega
    have hsl := stps_in hdn hi a
    iterate 6 refine qs ?_
    refine qp (K.pick_f rfl) ?_
    refine sn ?_
    refine K.cond_false rfl ?_
    refine K.exit ?_
    refine K.exit_then ?_
    refine K.exit_then ?_
    refine K.exit_here ?_
    refine K.norm_then ?_
    refine sr ?_
    iterate 2 refine qm ?_
    refine K.seq_ix (M := []) (stps r a i) hR.sl sl_22 rfl rfl (by omega) (by omega) rfl ?_
    intro p94 hp94
    refine zN ?_
    refine qp (K.fieldAddr fo_44_1 rfl) ?_
    refine K.seq_sil (K.load1 one_3 rfl ((K.PtrL.fld hp94 (k := 1)).any)) rfl ?_
    refine zN ?_
    refine qp (K.neq rfl rfl) ?_
    refine sn ?_
    refine K.cond rfl (fun ht97 => ?_) (fun ht97 => ?_)
    · try replace ht97 := of_decide_eq_true ht97
      refine sr ?_
      refine qm ?_
      iterate 3 refine qa ?_
      refine sn ?_
      refine K.ret ?_
      refine K.ret_block ?_
      refine K.ret_then ?_
      refine K.ret_then ?_
      refine K.ret_block ?_
      refine K.ret_then ?_
      refine K.end_ret (fun w _ => K.res_ttt rfl w) ?_
      obtain rfl : j = r.length := by omega
      first
        | (subst haa; have hre : reaB r i = false := decide_eq_false ht97
           exact K.gives (by rw [chk_5 hln hf0 (by omega) hi hrea hre]; rfl))
        | exact absurd (Decidable.not_not.1 ht84) ht97
    try replace ht97 := of_decide_eq_false ht97
    refine K.skip ?_
    refine K.norm_block ?_
    refine K.norm_then ?_
    refine K.region_lit ?_
    refine qm ?_
    refine qp (K.add_i64 rfl rfl (by omega)) ?_
    refine qa ?_
    refine K.seq_nil ?_
    have hre : reaB r i = true := by
      have hd : (r.getD (stps r a i) default).dn = -1 := Decidable.not_not.1 ht97
      exact decide_eq_true (by rw [stps_rest hd han]; exact hd)
    exact K.round_endW (L'' := [K.row (.slice Q1 ((r.take k).map (·.nm)).length q1) 9 1 ((r.take k).map (·.nm)).length (((r.take k).map (·.nm)).flatMap eB)]) [.int .i64 ((i : Int) + 1)] ⟨i + 1, rfl, rfl, by omega, K.lt_succ_case hrea hre⟩ (by simp [K.nth, intOf]; omega) (List.Sublist.refl _) (by kernel_rfl)
  try replace ht69 := of_decide_eq_false ht69
  refine K.exit ?_
  refine K.exit_then ?_
  refine K.exit_then ?_
  refine K.exit_here ?_
  refine K.norm_then ?_
  refine sr ?_
  iterate 3 refine qa ?_
  refine sn ?_
  refine K.ret ?_
  refine K.end_ret (fun w _ => K.res_ttt rfl w) ?_
  obtain rfl : j = r.length := by omega
  exact K.gives (by rw [chk_0 hln hf0 (by omega) (fun j hj => hrea j (by omega))]; rfl)

end Go.Proofs.YtoemnobfnnjopaaDoor
