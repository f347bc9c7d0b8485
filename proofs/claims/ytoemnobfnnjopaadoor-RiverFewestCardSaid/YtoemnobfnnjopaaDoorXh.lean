/-
  Walks of the program's functions, printed by program: what each returns.
  Conditions stand in each theorem.
-/
import Derived.WalkArith
import Derived.Laws.Closers25b
import Derived.Test.YtoemnobfnnjopaaDoorSV
import Derived.Test.YtoemnobfnnjopaaDoorWs
import Derived.Test.YtoemnobfnnjopaaDoorWt
import Derived.Test.YtoemnobfnnjopaaDoorXa
set_option linter.unusedSimpArgs false
set_option linter.unusedVariables false
namespace Go.Proofs.YtoemnobfnnjopaaDoor
open Go.RowKit Go
open Go.K (setd setn ev nth over cl eI eP eT setM setF)
attribute [local irreducible] K.blk K.row
theorem few_asc {r : List RvT} {p : Nat → Bool} {l : List Int} (e : l = selN p r.length) : ascB l r.length = true := by
  subst e
  refine asc_t fun i hi => ⟨sel_at hi, ?_⟩
  rcases Nat.eq_zero_or_pos i with h | h
  · exact .inl h
  · refine .inr ?_
    have := sel_up (p := p) (n := r.length) (i := i - 1) (by omega)
    rwa [show i - 1 + 1 = i by omega] at this

set_option maxRecDepth 100000 in
theorem e6 {r : List RvT} {A : Option Addr} {c : Nat} {Y : Option Addr} {cy : Nat} {ys : List Int} {kb : Nat} {w : World} (hR : K.Rd w A 4 eR r) (hn : r.length ≤ 17592186043904) (hT : Tab w) (hY : K.Rd w Y 1 eH ys) (hyb : ∀ x ∈ ys, 0 ≤ x ∧ x ≤ 65535) (hyl : ys.length ≤ 140737488351232) (hkb : kb ≤ 65535) (hc : (chk r).2.2 ≠ 0) :
    Calls Tryd.prog 6 [.slice A r.length c, .slice Y ys.length cy, .int .u16 (kb : Int)].toArray w (K.Gives (.bool true) w) := by
  have hn4 : r.length ≤ 4611686018427387904 := by omega
  have h1 : (fewL r).length = 0 := by unfold fewL; rw [if_pos hc]; rfl
  have h2 : (mustL r).length = 0 := by unfold mustL; rw [if_pos hc]; rfl
  have h3 : (mayL r).length = 0 := by unfold mayL; rw [if_pos hc]; rfl
  refine K.enter (args := [.slice A r.length c, .slice Y ys.length cy, .int .u16 (kb : Int)]) Tryd.func6 rfl (n := 239) rfl ?_
  simp only [List.replicate, List.cons_append, List.nil_append]
  refine sr ?_
  refine qa ?_
  refine sn ?_
  refine sr ?_
  refine qm ?_
  refine K.seq_loud (K.call_f cal_26 (fun F w hF hw => c26 (hR.pass hw) hn4 (hT.pass hw))) rfl ?_
  rintro ⟨Q1, q1⟩ hq1
  refine zN ?_
  refine qm ?_
  refine qx ?_
  refine qx ?_
  iterate 2 refine qa ?_
  refine sn ?_
  refine sr ?_
  refine qm ?_
  refine K.seq_loud (K.call_f cal_28 (fun F w hF hw => c28 (hR.pass hw) hn4 (hT.pass hw))) rfl ?_
  rintro ⟨⟨Q2, q2⟩, ⟨Q3, q3⟩⟩ ⟨hq2, hq3⟩
  refine zN ?_
  refine qm ?_
  refine qx ?_
  refine qx ?_
  refine qx ?_
  iterate 3 refine qa ?_
  refine sn ?_
  refine K.seq ?_
  refine sr ?_
  refine qm ?_
  refine K.seq_call (K.call_g cal_35 (fun F w hF hw => c35 (hR.pass hw) hn4)) rfl ?_
  refine zN ?_
  first | refine K.seq_pure (K.Pure.eq (K.not_d rfl) (show _ = Value.bool true from by rw [decide_eq_false hc]; rfl)) rfl ?_ | refine K.seq_pure (K.Pure.eq (K.not_ rfl) (show _ = Value.bool true from by rw [decide_eq_false hc]; rfl)) rfl ?_
  refine zN ?_
  refine sn ?_
  refine K.cond_true rfl ?_
  refine sr ?_
  refine qm ?_
  refine qp (K.Pure.eq (K.neq rfl rfl) (show _ = Value.bool true from congrArg Value.bool (decide_eq_true hc))) ?_
  iterate 3 refine qm ?_
  refine qp (K.Pure.eq (K.eql rfl rfl) (show _ = Value.bool true from congrArg Value.bool (decide_eq_true rfl))) ?_
  refine qp (K.pick_t rfl) ?_
  iterate 2 refine qm ?_
  refine qp (K.len_sl sl_26 rfl) ?_
  refine qp (K.Pure.eq (K.eql rfl rfl) (show _ = Value.bool true from congrArg Value.bool (decide_eq_true (by omega)))) ?_
  refine qp (K.pick_t rfl) ?_
  iterate 2 refine qm ?_
  refine qp (K.len_sl sl_26 rfl) ?_
  refine qm ?_
  refine qp (K.len_sl sl_26 rfl) ?_
  refine qp (K.add_i64 rfl rfl (by omega)) ?_
  refine qp (K.Pure.eq (K.eql rfl rfl) (show _ = Value.bool true from congrArg Value.bool (decide_eq_true (by omega)))) ?_
  refine qp (K.pick_t rfl) ?_
  refine qm ?_
  refine K.seq_call (K.call_g cal_25 (fun F w hF hw => c25 (hT.pass hw))) rfl ?_
  refine zN ?_
  refine qp (K.pick_t rfl) ?_
  refine qa ?_
  refine sn ?_
  refine K.ret ?_
  refine K.ret_then ?_
  refine K.end_ret (fun w _ => K.res_tmp rfl w) ?_
  exact K.gives rfl

set_option maxRecDepth 100000 in
set_option maxHeartbeats 8000000 in
theorem g6 {r : List RvT} {A : Option Addr} {c : Nat} {Y : Option Addr} {cy : Nat} {ys : List Int} {kb : Nat} {w : World} (hR : K.Rd w A 4 eR r) (hn : r.length ≤ 17592186043904) (hT : Tab w) (hY : K.Rd w Y 1 eH ys) (hyb : ∀ x ∈ ys, 0 ≤ x ∧ x ≤ 65535) (hyl : ys.length ≤ 140737488351232) (hkb : kb ≤ 65535) (hc : (chk r).2.2 = 0) :
    Calls Tryd.prog 6 [.slice A r.length c, .slice Y ys.length cy, .int .u16 (kb : Int)].toArray w (K.Gives (.bool true) w) := by
  have hn4 : r.length ≤ 4611686018427387904 := by omega
  have g : Good r := chk_good hc
  have hgn := g.n
  have hRn : Runs r (anyS r (turnS ys)) := any_runs g (fun i => (turn_bd hyb).1)
  have hal := hRn.l
  have hfl := few_lens hc
  obtain ⟨hRh, hkeep⟩ := few_runs hc
  have hrun := runs_iff.2 hRh
  have hhl := hP_len (r := r) (l := (fewL r)) (i := r.length) (k := 0)
  obtain ⟨hol, hoe⟩ := oth_cor (b := kb) hc hRn
  have l1 := few_9 (r := r)
  have l2 := must_9 (r := r)
  have lo : (selN (othB r (anyS r (turnS ys)) kb) r.length).length ≤ r.length := selN_len
  refine K.enter (args := [.slice A r.length c, .slice Y ys.length cy, .int .u16 (kb : Int)]) Tryd.func6 rfl (n := 239) rfl ?_
  simp only [List.replicate, List.cons_append, List.nil_append]
  refine sr ?_
  refine qa ?_
  refine sn ?_
  refine sr ?_
  refine qm ?_
  refine K.seq_loud (K.call_f cal_26 (fun F w hF hw => (by have hg := c26 (c := c) (hR.pass hw) hn4 (hT.pass hw); rw [hc] at hg; exact hg))) rfl ?_
  rintro ⟨Q1, q1⟩ hq1
  refine zN ?_
  refine qm ?_
  refine qx ?_
  refine qx ?_
  iterate 2 refine qa ?_
  refine sn ?_
  refine sr ?_
  refine qm ?_
  refine K.seq_loud (K.call_f cal_28 (fun F w hF hw => (by have hg := c28 (c := c) (hR.pass hw) hn4 (hT.pass hw); rw [hc] at hg; exact hg))) rfl ?_
  rintro ⟨⟨Q2, q2⟩, ⟨Q3, q3⟩⟩ ⟨hq2, hq3⟩
  refine zN ?_
  refine qm ?_
  refine qx ?_
  refine qx ?_
  refine qx ?_
  iterate 3 refine qa ?_
  refine sn ?_
  refine K.seq ?_
  refine sr ?_
  refine qm ?_
  refine K.seq_call (K.call_g cal_35 (fun F w hF hw => c35 (hR.pass hw) hn4)) rfl ?_
  refine zN ?_
  first | refine K.seq_pure (K.Pure.eq (K.not_d rfl) (show _ = Value.bool false from by rw [decide_eq_true hc]; rfl)) rfl ?_ | refine K.seq_pure (K.Pure.eq (K.not_ rfl) (show _ = Value.bool false from by rw [decide_eq_true hc]; rfl)) rfl ?_
  refine zN ?_
  refine sn ?_
  refine K.cond_false rfl ?_
  refine K.skip ?_
  refine K.norm_then ?_
  refine K.seq ?_
  refine sr ?_
  refine qm ?_
  refine qp (K.Pure.eq (K.neq rfl rfl) (show _ = Value.bool false from congrArg Value.bool (rfl))) ?_
  iterate 2 refine qm ?_
  refine qp (K.Pure.eq (K.neq rfl rfl) (show _ = Value.bool false from congrArg Value.bool (rfl))) ?_
  refine qp (K.pick_f rfl) ?_
  iterate 3 refine qm ?_
  refine qp (K.len_sl sl_22 rfl) ?_
  refine K.seq_call (K.call_g cal_36 (fun F w hF hw => (by have hX := (K.Rd.own (e := K.eI) (xs := (fewL r)) hw (hF _ (K.m2)) hq1 (fun _ => rfl) (by decide)); have hg := c36 (n := r.length) (q := q1) hX (by omega); rw [few_asc hfl.1] at hg; exact hg))) rfl ?_
  refine zN ?_
  first | refine K.seq_pure (K.Pure.eq (K.not_d rfl) (show _ = Value.bool false from rfl)) rfl ?_ | refine K.seq_pure (K.Pure.eq (K.not_ rfl) (show _ = Value.bool false from rfl)) rfl ?_
  refine zN ?_
  refine qp (K.pick_f rfl) ?_
  iterate 3 refine qm ?_
  refine qp (K.len_sl sl_22 rfl) ?_
  refine K.seq_call (K.call_g cal_36 (fun F w hF hw => (by have hX := (K.Rd.own (e := K.eI) (xs := (mustL r)) hw (hF _ (K.m1)) hq2 (fun _ => rfl) (by decide)); have hg := c36 (n := r.length) (q := q2) hX (by omega); rw [few_asc hfl.2.1] at hg; exact hg))) rfl ?_
  refine zN ?_
  first | refine K.seq_pure (K.Pure.eq (K.not_d rfl) (show _ = Value.bool false from rfl)) rfl ?_ | refine K.seq_pure (K.Pure.eq (K.not_ rfl) (show _ = Value.bool false from rfl)) rfl ?_
  refine zN ?_
  refine qp (K.pick_f rfl) ?_
  iterate 3 refine qm ?_
  refine qp (K.len_sl sl_22 rfl) ?_
  refine K.seq_call (K.call_g cal_36 (fun F w hF hw => (by have hX := (K.Rd.own (e := K.eI) (xs := (mayL r)) hw (hF _ (K.m0)) hq3 (fun _ => rfl) (by decide)); have hg := c36 (n := r.length) (q := q3) hX (by omega); rw [few_asc hfl.2.2] at hg; exact hg))) rfl ?_
  refine zN ?_
  first | refine K.seq_pure (K.Pure.eq (K.not_d rfl) (show _ = Value.bool false from rfl)) rfl ?_ | refine K.seq_pure (K.Pure.eq (K.not_ rfl) (show _ = Value.bool false from rfl)) rfl ?_
  refine zN ?_
  refine qp (K.pick_f rfl) ?_
  refine sn ?_
  refine K.cond_false rfl ?_
  refine K.skip ?_
  refine K.norm_then ?_
  refine sr ?_
  refine qm ?_
  refine qp (K.len_sl sl_22 rfl) ?_
  refine K.seq_new (K.mkSlice (n := r.length) mk1_26 rfl rfl (by omega) (by omega)) rfl ?_
  intro b88
  refine zN ?_
  rw [K.rep_int, ← hP_0 (r := r) (l := (fewL r))]
  refine zN ?_
  refine qa ?_
  refine sn ?_
  refine K.seq ?_
  refine sr ?_
  refine qa ?_
  refine sn ?_
  refine K.block ?_
  refine K.loopW [13] [6, 14, 15, 16, 89, 90, 91, 92, 93, 94, 95, 96, 97, 98, 99, 100, 101, 102, 103, 104, 105, 106, 107, 108, 109, 110, 111, 112, 113, 114, 115, 116, 117, 118, 119, 120, 121, 122, 123, 124, 125, 126, 127, 128, 129, 130, 131, 132, 133, 134, 135, 136, 137, 138, 139, 140, 141, 142] (fun vi L => ∃ i : Nat, vi = [.int .i64 (i : Int)] ∧ L = [K.blk b88 3 ((hP r (fewL r) i 0).flatMap K.eI), K.row (.slice Q3 (mayL r).length q3) 3 1 (mayL r).length ((mayL r).flatMap K.eI), K.row (.slice Q2 (mustL r).length q2) 3 1 (mustL r).length ((mustL r).flatMap K.eI), K.row (.slice Q1 (fewL r).length q1) 3 1 (fewL r).length ((fewL r).flatMap K.eI)] ∧ i ≤ r.length) (fun vi => r.length - (intOf (K.nth vi 0)).toNat) ?_ ?_
  · exact ⟨0, rfl, rfl, Nat.zero_le _⟩
  intro vi vr L hJ
  obtain ⟨i, rfl, rfl, hin⟩ := hJ
  try dsimp only [setd, setn, ev, nth, over, cl, eI, eP, eT, eR, setM, setF, List.map, List.append, List.drop, List.take]
  refine K.seq ?_
  refine sr ?_
  iterate 2 refine qm ?_
  refine qp (K.len_sl sl_22 rfl) ?_
  refine qp (K.lss rfl rfl) ?_
  refine sn ?_
  refine K.cond rfl (fun ht92 => ?_) (fun ht92 => ?_)
  · try replace ht92 := of_decide_eq_true ht92
    have hi : i < r.length := by omega
    have hpi := g.p i hi
    refine K.skip ?_
    refine K.norm_then ?_
    refine K.seq ?_
    refine K.block ?_
    refine K.seq ?_
    refine sr ?_
    refine qa ?_
    refine sn ?_
    refine K.block ?_
    refine K.loopW [14] [15, 16, 95, 96, 97, 98, 99, 100, 101, 102, 103, 104, 105, 106, 107, 108, 109, 110, 111, 112, 113, 114, 115, 116, 117, 118, 119, 120, 121, 122, 123, 124, 125, 126] (fun vi L => ∃ k : Nat, vi = [.int .i64 (k : Int)] ∧ L = [K.blk b88 3 ((hP r (fewL r) i k).flatMap K.eI), K.row (.slice Q3 (mayL r).length q3) 3 1 (mayL r).length ((mayL r).flatMap K.eI), K.row (.slice Q2 (mustL r).length q2) 3 1 (mustL r).length ((mustL r).flatMap K.eI), K.row (.slice Q1 (fewL r).length q1) 3 1 (fewL r).length ((fewL r).flatMap K.eI)] ∧ k ≤ r.length) (fun vi => r.length - (intOf (K.nth vi 0)).toNat) ?_ ?_
    · exact ⟨0, rfl, rfl, Nat.zero_le _⟩
    intro vi vr L hJ
    obtain ⟨k, rfl, rfl, hkn⟩ := hJ
    try dsimp only [setd, setn, ev, nth, over, cl, eI, eP, eT, eR, setM, setF, List.map, List.append, List.drop, List.take]
    refine K.seq ?_
    refine sr ?_
    iterate 2 refine qm ?_
    refine qp (K.len_sl sl_22 rfl) ?_
    refine qp (K.lss rfl rfl) ?_
    refine sn ?_
    refine K.cond rfl (fun ht98 => ?_) (fun ht98 => ?_)
    · try replace ht98 := of_decide_eq_true ht98
      have hk : k < r.length := by omega
      have hpk := g.p k hk
      have hdb := drp_bd (k := k) g hi
      have hfb := hF_bd (l := (fewL r)) g hi k hkn
      have hlk := hP_len (r := r) (l := (fewL r)) (i := i) (k := k)
      have hat : (hP r (fewL r) i k).getD i default = hF r (fewL r) i k := by rw [hP_at hi, if_neg (Nat.lt_irrefl i), if_pos rfl]
      have hfit : 0 + i * 1 + 1 ≤ ((hP r (fewL r) i k).flatMap K.eI).length := by rw [eI_len]; omega
      refine K.skip ?_
      refine K.norm_then ?_
      refine K.seq ?_
      refine K.block ?_
      refine sr ?_
      iterate 3 refine qm ?_
      refine K.seq_call (K.call_g cal_37 (fun F w hF hw => c37 (hR.pass hw) g hi)) rfl ?_
      refine zN ?_
      refine qa ?_
      refine sn ?_
      refine sr ?_
      refine qm ?_
      refine qp (K.geq rfl rfl) ?_
      refine sn ?_
      refine K.cond rfl (fun ht106 => ?_) (fun ht106 => ?_)
      · try replace ht106 := of_decide_eq_true ht106
        refine sr ?_
        refine qa ?_
        refine sn ?_
        refine K.seq ?_
        refine sr ?_
        iterate 2 refine qm ?_
        refine K.seq_call (K.call_g cal_38 (fun F w hF hw => (by have hX := (K.Rd.own (e := K.eI) (xs := (fewL r)) hw (hF _ (K.m3)) hq1 (fun _ => rfl) (by decide)); have hg := c38 (n := (k : Int)) (c := q1) hX (by omega); exact hg))) rfl ?_
        refine zN ?_
        first | refine K.seq_pure (K.not_d rfl) rfl ?_ | refine K.seq_pure (K.not_ rfl) rfl ?_
        refine zN ?_
        refine sn ?_
        refine K.cond rfl (fun ht110 => ?_) (fun ht110 => ?_)
        · try replace ht110 := of_decide_eq_true ht110
          have hnk : ¬ (k : Int) ∈ (fewL r) := by simpa using ht110
          have hsv : hF r (fewL r) i (k + 1) = max (hF r (fewL r) i k) ((r.getD k default).ht + drp r i k) := by rw [hF, if_pos (by omega), if_neg hnk]
          have hset : K.over ((hP r (fewL r) i k).flatMap K.eI) (0 + i * 1) (K.cl (.int .i64 (max ((hP r (fewL r) i k).getD i default) ((r.getD k default).ht + drp r i k)))) = (hP r (fewL r) i (k + 1)).flatMap K.eI := by
            rw [← hP_set hi, hsv, hat]
            exact K.set_cut0 (e := K.eI) (size := 1) (x := max (hF r (fewL r) i k) ((r.getD k default).ht + drp r i k)) (fun _ => rfl) (by omega)
          refine K.region_lit ?_
          iterate 2 refine qm ?_
          refine K.seq_ix (M := []) _ hR.sl sl_22 rfl rfl rfl (by omega) rfl ?_
          intro p113 hp113
          refine zN ?_
          refine qp (K.fieldAddr fo_44_3 rfl) ?_
          refine K.seq_sil (K.load1 one_3 rfl ((K.PtrL.fld hp113 (k := 3)).any)) rfl ?_
          refine zN ?_
          refine qa ?_
          refine sn ?_
          refine K.region_lit ?_
          iterate 4 refine qm ?_
          refine K.seq_pure (K.Pure.eq (K.indexAddr_sl sl_26 rfl rfl (by omega) (by omega)) (show _ = Value.pointer (some ⟨b88, 0 + i * 1, none⟩) from by rw [K.add_lit, Int.toNat_natCast])) rfl ?_
          refine zN ?_
          refine zN ?_
          refine K.seq_sil (K.load_at one_3 rfl (K.PtrL.own' ((K.m0))) (eI_at (by omega))) rfl ?_
          refine zN ?_
          iterate 2 refine qm ?_
          refine qp (K.add_i64 rfl rfl (by omega)) ?_
          refine qp (K.max_int rfl rfl) ?_
          refine K.seq_pure (K.Pure.eq (K.indexAddr_sl sl_26 rfl rfl (by omega) (by omega)) (show _ = Value.pointer (some ⟨b88, 0 + i * 1, none⟩) from by rw [K.add_lit, Int.toNat_natCast])) rfl ?_
          refine zN ?_
          refine zN ?_
          refine K.seq_st (K.store_ix (cs := (hP r (fewL r) i k).flatMap K.eI) sz_3 rfl rfl hfit rfl (K.rpe K.rp0 (congrArg (K.blk b88 3) hset.symm))) rfl ?_
          refine zN ?_
          refine zN ?_
          refine K.seq_nil ?_
          refine K.norm_block ?_
          refine K.norm_then ?_
          refine K.region_lit ?_
          refine qm ?_
          refine qp (K.add_i64 rfl rfl (by omega)) ?_
          refine qa ?_
          refine K.seq_nil ?_
          exact K.round_endW (L'' := [K.blk b88 3 ((hP r (fewL r) i (k + 1)).flatMap K.eI), K.row (.slice Q3 (mayL r).length q3) 3 1 (mayL r).length ((mayL r).flatMap K.eI), K.row (.slice Q2 (mustL r).length q2) 3 1 (mustL r).length ((mustL r).flatMap K.eI), K.row (.slice Q1 (fewL r).length q1) 3 1 (fewL r).length ((fewL r).flatMap K.eI)]) [.int .i64 ((k : Int) + 1)] ⟨k + 1, rfl, rfl, by omega⟩ (by simp [K.nth, intOf]; omega) (List.Sublist.refl _) (by kernel_rfl)
        try replace ht110 := of_decide_eq_false ht110
        have hnk : (k : Int) ∈ (fewL r) := by simpa using ht110
        have hsv : hF r (fewL r) i (k + 1) = max (hF r (fewL r) i k) (0 + drp r i k) := by rw [hF, if_pos (by omega), if_pos hnk]
        have hset : K.over ((hP r (fewL r) i k).flatMap K.eI) (0 + i * 1) (K.cl (.int .i64 (max ((hP r (fewL r) i k).getD i default) (0 + drp r i k)))) = (hP r (fewL r) i (k + 1)).flatMap K.eI := by
          rw [← hP_set hi, hsv, hat]
          exact K.set_cut0 (e := K.eI) (size := 1) (x := max (hF r (fewL r) i k) (0 + drp r i k)) (fun _ => rfl) (by omega)
        refine K.skip ?_
        refine K.norm_then ?_
        refine K.region_lit ?_
        iterate 4 refine qm ?_
        refine K.seq_pure (K.Pure.eq (K.indexAddr_sl sl_26 rfl rfl (by omega) (by omega)) (show _ = Value.pointer (some ⟨b88, 0 + i * 1, none⟩) from by rw [K.add_lit, Int.toNat_natCast])) rfl ?_
        refine zN ?_
        refine zN ?_
        refine K.seq_sil (K.load_at one_3 rfl (K.PtrL.own' ((K.m0))) (eI_at (by omega))) rfl ?_
        refine zN ?_
        iterate 2 refine qm ?_
        refine qp (K.add_i64 rfl rfl (by omega)) ?_
        refine qp (K.max_int rfl rfl) ?_
        refine K.seq_pure (K.Pure.eq (K.indexAddr_sl sl_26 rfl rfl (by omega) (by omega)) (show _ = Value.pointer (some ⟨b88, 0 + i * 1, none⟩) from by rw [K.add_lit, Int.toNat_natCast])) rfl ?_
        refine zN ?_
        refine zN ?_
        refine K.seq_st (K.store_ix (cs := (hP r (fewL r) i k).flatMap K.eI) sz_3 rfl rfl hfit rfl (K.rpe K.rp0 (congrArg (K.blk b88 3) hset.symm))) rfl ?_
        refine zN ?_
        refine zN ?_
        refine K.seq_nil ?_
        refine K.norm_block ?_
        refine K.norm_then ?_
        refine K.region_lit ?_
        refine qm ?_
        refine qp (K.add_i64 rfl rfl (by omega)) ?_
        refine qa ?_
        refine K.seq_nil ?_
        exact K.round_endW (L'' := [K.blk b88 3 ((hP r (fewL r) i (k + 1)).flatMap K.eI), K.row (.slice Q3 (mayL r).length q3) 3 1 (mayL r).length ((mayL r).flatMap K.eI), K.row (.slice Q2 (mustL r).length q2) 3 1 (mustL r).length ((mustL r).flatMap K.eI), K.row (.slice Q1 (fewL r).length q1) 3 1 (fewL r).length ((fewL r).flatMap K.eI)]) [.int .i64 ((k : Int) + 1)] ⟨k + 1, rfl, rfl, by omega⟩ (by simp [K.nth, intOf]; omega) (List.Sublist.refl _) (by kernel_rfl)
      try replace ht106 := of_decide_eq_false ht106
      refine K.skip ?_
      refine K.norm_block ?_
      refine K.norm_then ?_
      refine K.region_lit ?_
      refine qm ?_
      refine qp (K.add_i64 rfl rfl (by omega)) ?_
      refine qa ?_
      refine K.seq_nil ?_
      have hsm : (hP r (fewL r) i (k + 1)) = (hP r (fewL r) i k) := by unfold hP; rw [show hF r (fewL r) i (k + 1) = hF r (fewL r) i k from by rw [hF, if_neg (by omega)]]
      rw [← hsm]
      exact K.round_endW (L'' := [K.blk b88 3 ((hP r (fewL r) i (k + 1)).flatMap K.eI), K.row (.slice Q3 (mayL r).length q3) 3 1 (mayL r).length ((mayL r).flatMap K.eI), K.row (.slice Q2 (mustL r).length q2) 3 1 (mustL r).length ((mustL r).flatMap K.eI), K.row (.slice Q1 (fewL r).length q1) 3 1 (fewL r).length ((fewL r).flatMap K.eI)]) [.int .i64 ((k : Int) + 1)] ⟨k + 1, rfl, rfl, by omega⟩ (by simp [K.nth, intOf]; omega) (List.Sublist.refl _) (by kernel_rfl)
    try replace ht98 := of_decide_eq_false ht98
    have e0 : k = r.length := by omega
    subst e0
    have hlk := hP_len (r := r) (l := (fewL r)) (i := i) (k := r.length)
    have hat : (hP r (fewL r) i r.length).getD i default = hF r (fewL r) i r.length := by rw [hP_at hi, if_neg (Nat.lt_irrefl i), if_pos rfl]
    refine K.exit ?_
    refine K.exit_then ?_
    refine K.exit_then ?_
    refine K.exit_here ?_
    refine K.norm_then ?_
    refine K.seq ?_
    refine K.joinW [142] [127, 128, 129, 130, 131, 132, 133, 134, 135, 136, 137, 138, 139, 140, 141] (fun vi L => vi = [.bool false] ∧ L = [K.blk b88 3 ((hP r (fewL r) i r.length).flatMap K.eI), K.row (.slice Q3 (mayL r).length q3) 3 1 (mayL r).length ((mayL r).flatMap K.eI), K.row (.slice Q2 (mustL r).length q2) 3 1 (mustL r).length ((mustL r).flatMap K.eI), K.row (.slice Q1 (fewL r).length q1) 3 1 (fewL r).length ((fewL r).flatMap K.eI)]) ?_ ?_
    · refine K.draw_L [] Tryd_mixed ?_
      refine K.d_pure 0 rfl (K.move) (by kernel_rfl) rfl ?_
      refine zn ?_
      refine K.d_pure 1 rfl (K.move) (by kernel_rfl) rfl ?_
      refine zn ?_
      refine K.d_call 2 rfl (K.call_g cal_38 (fun F w hF hw => (by have hX := (K.Rd.own (e := K.eI) (xs := (fewL r)) hw (hF _ (K.m3)) hq1 (fun _ => rfl) (by decide)); have hg := c38 (n := (i : Int)) (c := q1) hX (by omega); exact hg))) (fun _ h => h) (by kernel_rfl) rfl ?_
      refine zN ?_
      first | refine K.d_pure 3 rfl (K.not_d rfl) (by kernel_rfl) rfl ?_ | refine K.d_pure 3 rfl (K.not_ rfl) (by kernel_rfl) rfl ?_
      refine zN ?_
      refine K.d_pure 4 rfl (K.move) (by kernel_rfl) rfl ?_
      refine zn ?_
      refine K.dsplit 131 rfl (fun hg131 => ?_) (fun hg131 => ?_)
      · try replace hg131 := of_decide_eq_true hg131
        have hkp := hkeep i hi (by simpa using hg131)
        refine K.d_pure 5 rfl (K.move) (by kernel_rfl) rfl ?_
        refine zn ?_
        refine K.d_pure 6 rfl (K.move) (by kernel_rfl) rfl ?_
        refine zn ?_
        refine K.d_pure 7 rfl (K.Pure.eq (K.indexAddr_sl sl_26 rfl rfl (by omega) (by omega)) (show _ = Value.pointer (some ⟨b88, 0 + i * 1, none⟩) from by rw [K.add_lit, Int.toNat_natCast])) (by kernel_rfl) rfl ?_
        refine zN ?_
        refine zN ?_
        refine K.d_mem 8 rfl (K.load_at one_3 rfl (K.PtrL.own' ((K.m0))) (eI_at (by omega))) (fun _ h => h) (by kernel_rfl) (by kernel_rfl) rfl ?_
        refine zN ?_
        refine K.d_pure 9 rfl (K.move) (by kernel_rfl) rfl ?_
        refine zn ?_
        refine K.d_pure 10 rfl (K.move) (by kernel_rfl) rfl ?_
        refine zn ?_
        refine K.d_ix (M := []) 11 _ rfl hR.sl sl_22 rfl rfl rfl (by omega) (by kernel_rfl) rfl ?_
        intro p138 hp138
        refine zN ?_
        refine K.d_pure 12 rfl (K.fieldAddr fo_44_3 rfl) (by kernel_rfl) rfl ?_
        refine zn ?_
        refine K.d_mem 13 rfl (K.load1 one_3 rfl ((K.PtrL.fld hp138 (k := 3)).any)) (fun _ h => h) (by kernel_rfl) (by kernel_rfl) rfl ?_
        refine zN ?_
        refine K.d_pure 14 rfl (K.Pure.eq (K.neq rfl rfl) (show _ = Value.bool false from congrArg Value.bool (decide_eq_false (by omega)))) (by kernel_rfl) rfl ?_
        refine zn ?_
        refine K.d_pure 15 rfl (K.pick_t rfl) (by kernel_rfl) rfl ?_
        refine zn ?_
        refine K.d_done (by kernel_rfl) ?_
        exact K.join_here (L' := [K.blk b88 3 ((hP r (fewL r) i r.length).flatMap K.eI), K.row (.slice Q3 (mayL r).length q3) 3 1 (mayL r).length ((mayL r).flatMap K.eI), K.row (.slice Q2 (mustL r).length q2) 3 1 (mustL r).length ((mustL r).flatMap K.eI), K.row (.slice Q1 (fewL r).length q1) 3 1 (fewL r).length ((fewL r).flatMap K.eI)]) [.bool false] ⟨rfl, rfl⟩ (fun w h => h) (by kernel_rfl)
      try replace hg131 := of_decide_eq_false hg131
      refine K.d_skip 5 rfl (by kernel_rfl) rfl ?_
      refine zN ?_
      refine K.d_skip 6 rfl (by kernel_rfl) rfl ?_
      refine zN ?_
      refine K.d_skip 7 rfl (by kernel_rfl) rfl ?_
      refine zN ?_
      refine K.d_skip 8 rfl (by kernel_rfl) rfl ?_
      refine zN ?_
      refine K.d_skip 9 rfl (by kernel_rfl) rfl ?_
      refine zN ?_
      refine K.d_skip 10 rfl (by kernel_rfl) rfl ?_
      refine zN ?_
      refine K.d_skip 11 rfl (by kernel_rfl) rfl ?_
      refine zN ?_
      refine K.d_skip 12 rfl (by kernel_rfl) rfl ?_
      refine zN ?_
      refine K.d_skip 13 rfl (by kernel_rfl) rfl ?_
      refine zN ?_
      refine K.d_skip 14 rfl (by kernel_rfl) rfl ?_
      refine zN ?_
      refine K.d_pure 15 rfl (K.pick_f rfl) (by kernel_rfl) rfl ?_
      refine zn ?_
      refine K.d_done (by kernel_rfl) ?_
      exact K.join_here (L' := [K.blk b88 3 ((hP r (fewL r) i r.length).flatMap K.eI), K.row (.slice Q3 (mayL r).length q3) 3 1 (mayL r).length ((mayL r).flatMap K.eI), K.row (.slice Q2 (mustL r).length q2) 3 1 (mustL r).length ((mustL r).flatMap K.eI), K.row (.slice Q1 (fewL r).length q1) 3 1 (fewL r).length ((fewL r).flatMap K.eI)]) [.bool false] ⟨rfl, rfl⟩ (fun w h => h) (by kernel_rfl)
    intro vi vr L hJ
    obtain ⟨rfl, rfl⟩ := hJ
    try dsimp only [setd, setn, ev, nth, over, cl, eI, eP, eT, eR, setM, setF, List.map, List.append, List.drop, List.take]
    refine K.norm_then ?_
    refine K.cond_false rfl ?_
    refine K.skip ?_
    refine K.norm_block ?_
    refine K.norm_then ?_
    refine K.region_lit ?_
    refine qm ?_
    refine qp (K.add_i64 rfl rfl (by omega)) ?_
    refine qa ?_
    refine K.seq_nil ?_
    rw [hP_next hi]
    exact K.round_endW (L'' := [K.blk b88 3 ((hP r (fewL r) (i + 1) 0).flatMap K.eI), K.row (.slice Q3 (mayL r).length q3) 3 1 (mayL r).length ((mayL r).flatMap K.eI), K.row (.slice Q2 (mustL r).length q2) 3 1 (mustL r).length ((mustL r).flatMap K.eI), K.row (.slice Q1 (fewL r).length q1) 3 1 (fewL r).length ((fewL r).flatMap K.eI)]) [.int .i64 ((i : Int) + 1)] ⟨i + 1, rfl, rfl, by omega⟩ (by simp [K.nth, intOf]; omega) (List.Sublist.refl _) (by kernel_rfl)
  try replace ht92 := of_decide_eq_false ht92
  have e0 : i = r.length := by omega
  subst e0
  refine K.exit ?_
  refine K.exit_then ?_
  refine K.exit_then ?_
  refine K.exit_here ?_
  refine K.norm_then ?_
  refine K.seq ?_
  refine sr ?_
  refine K.blk_row (size := 1) (n := r.length) (by rw [eI_len]; omega) (by simp only [maxLen]; omega) ?_
  iterate 2 refine qm ?_
  refine K.seq_call (K.call_g cal_39 (fun F w hF hw => (by have hX := K.Rd.own (t := 3) (c := r.length) (e := K.eI) (xs := (hP r (fewL r) r.length 0)) hw (by rw [hhl]; exact (hF _ (K.m0))) (.inr ⟨b88, rfl⟩) (fun _ => rfl) (by decide); have hg := c39 (c := c) (d := r.length) (hR.pass hw) hX g (by omega); rw [hhl, hrun] at hg; exact hg))) rfl ?_
  refine zN ?_
  first | refine K.seq_pure (K.Pure.eq (K.not_d rfl) (show _ = Value.bool false from rfl)) rfl ?_ | refine K.seq_pure (K.Pure.eq (K.not_ rfl) (show _ = Value.bool false from rfl)) rfl ?_
  refine zN ?_
  refine sn ?_
  refine K.cond_false rfl ?_
  refine K.skip ?_
  refine K.norm_then ?_
  refine sr ?_
  iterate 2 refine qm ?_
  refine K.seq_loud (K.call_f cal_40 (fun F w hF hw => c40 (hR.pass hw) (hY.pass hw) hyb hyl g)) rfl ?_
  rintro ⟨Q4, q4⟩ hq4
  refine zN ?_
  refine qa ?_
  refine sn ?_
  refine sr ?_
  refine K.nil_row (e := 3) (size := 1) ?_
  refine qa ?_
  refine sn ?_
  refine K.seq ?_
  refine sr ?_
  refine qa ?_
  refine sn ?_
  refine K.block ?_
  refine K.loopW [18, 19] [150, 151, 152, 153, 154, 155, 156, 157, 158, 159, 160, 161, 162, 163, 164, 165, 166, 167, 168, 169, 170, 171, 172, 173, 174, 175, 176, 177] (fun vi L => ∃ (i : Nat) (QO : Option Addr) (qo : Nat), vi = [.slice QO (selN (othB r (anyS r (turnS ys)) kb) i).length qo, .int .i64 (i : Int)] ∧ L = [K.row (.slice QO (selN (othB r (anyS r (turnS ys)) kb) i).length qo) 3 1 (selN (othB r (anyS r (turnS ys)) kb) i).length ((selN (othB r (anyS r (turnS ys)) kb) i).flatMap K.eI), K.row (.slice Q4 (anyS r (turnS ys)).length q4) 3 1 (anyS r (turnS ys)).length ((anyS r (turnS ys)).flatMap K.eI), K.row (.slice (some ⟨b88, 0, none⟩) r.length r.length) 3 1 r.length ((hP r (fewL r) r.length 0).flatMap K.eI), K.row (.slice Q3 (mayL r).length q3) 3 1 (mayL r).length ((mayL r).flatMap K.eI), K.row (.slice Q2 (mustL r).length q2) 3 1 (mustL r).length ((mustL r).flatMap K.eI), K.row (.slice Q1 (fewL r).length q1) 3 1 (fewL r).length ((fewL r).flatMap K.eI)] ∧ i ≤ r.length) (fun vi => r.length - (intOf (K.nth vi 1)).toNat) ?_ ?_
  · exact ⟨0, none, 0, rfl, rfl, Nat.zero_le _⟩
  intro vi vr L hJ
  obtain ⟨i, QO, qo, rfl, rfl, hin⟩ := hJ
  try dsimp only [setd, setn, ev, nth, over, cl, eI, eP, eT, eR, setM, setF, List.map, List.append, List.drop, List.take]
  refine K.seq ?_
  refine sr ?_
  iterate 2 refine qm ?_
  refine qp (K.len_sl sl_22 rfl) ?_
  refine qp (K.lss rfl rfl) ?_
  refine sn ?_
  refine K.cond rfl (fun ht153 => ?_) (fun ht153 => ?_)
  · try replace ht153 := of_decide_eq_true ht153
    have hi : i < r.length := by omega
    have los : (selN (othB r (anyS r (turnS ys)) kb) i).length ≤ i := selN_len
    refine K.skip ?_
    refine K.norm_then ?_
    refine K.seq ?_
    refine K.block ?_
    refine K.seq ?_
    refine K.joinW [173] [156, 157, 158, 159, 160, 161, 162, 163, 164, 165, 166, 167, 168, 169, 170, 171, 172] (fun vi L => vi = [.bool (othB r (anyS r (turnS ys)) kb i)] ∧ L = [K.row (.slice QO (selN (othB r (anyS r (turnS ys)) kb) i).length qo) 3 1 (selN (othB r (anyS r (turnS ys)) kb) i).length ((selN (othB r (anyS r (turnS ys)) kb) i).flatMap K.eI), K.row (.slice Q4 (anyS r (turnS ys)).length q4) 3 1 (anyS r (turnS ys)).length ((anyS r (turnS ys)).flatMap K.eI), K.row (.slice (some ⟨b88, 0, none⟩) r.length r.length) 3 1 r.length ((hP r (fewL r) r.length 0).flatMap K.eI), K.row (.slice Q3 (mayL r).length q3) 3 1 (mayL r).length ((mayL r).flatMap K.eI), K.row (.slice Q2 (mustL r).length q2) 3 1 (mustL r).length ((mustL r).flatMap K.eI), K.row (.slice Q1 (fewL r).length q1) 3 1 (fewL r).length ((fewL r).flatMap K.eI)]) ?_ ?_
    · refine K.draw_L [] Tryd_mixed ?_
      refine K.d_pure 0 rfl (K.move) (by kernel_rfl) rfl ?_
      refine zn ?_
      refine K.d_pure 1 rfl (K.Pure.eq (K.conv_int ik_40 ik_3 rfl) (show _ = Value.int .i64 (kb : Int) from by rw [IntWalk.i64_in _ (by omega)])) (by kernel_rfl) rfl ?_
      refine zN ?_
      refine K.d_pure 2 rfl (K.move) (by kernel_rfl) rfl ?_
      refine zn ?_
      refine K.d_pure 3 rfl (K.shr_int rfl rfl (by omega)) (by kernel_rfl) rfl ?_
      refine zn ?_
      refine K.d_pure 4 rfl (K.rem_i64 rfl rfl sh_nn (by decide)) (by kernel_rfl) rfl ?_
      refine zn ?_
      refine K.d_pure 5 rfl (K.Pure.eq (K.eql rfl rfl) (show _ = Value.bool (kb.testBit i) from congrArg Value.bool (sh_bit (by omega)))) (by kernel_rfl) rfl ?_
      refine zn ?_
      refine K.d_pure 6 rfl (K.move) (by kernel_rfl) rfl ?_
      refine zn ?_
      refine K.dsplit 162 rfl (fun hg162 => ?_) (fun hg162 => ?_)
      · try replace hg162 := of_decide_eq_true hg162
        refine K.d_skip 7 rfl (by kernel_rfl) rfl ?_
        refine zN ?_
        refine K.d_skip 8 rfl (by kernel_rfl) rfl ?_
        refine zN ?_
        refine K.d_skip 9 rfl (by kernel_rfl) rfl ?_
        refine zN ?_
        refine K.d_skip 10 rfl (by kernel_rfl) rfl ?_
        refine zN ?_
        refine K.d_skip 11 rfl (by kernel_rfl) rfl ?_
        refine zN ?_
        refine K.d_skip 12 rfl (by kernel_rfl) rfl ?_
        refine zN ?_
        refine K.d_skip 13 rfl (by kernel_rfl) rfl ?_
        refine zN ?_
        refine K.d_skip 14 rfl (by kernel_rfl) rfl ?_
        refine zN ?_
        refine K.d_skip 15 rfl (by kernel_rfl) rfl ?_
        refine zN ?_
        refine K.d_skip 16 rfl (by kernel_rfl) rfl ?_
        refine zN ?_
        refine K.d_pure 17 rfl (K.pick_t rfl) (by kernel_rfl) rfl ?_
        refine zn ?_
        refine K.d_done (by kernel_rfl) ?_
        have ev29 : true = othB r (anyS r (turnS ys)) kb i := by unfold othB; rw [hg162]; rfl
        exact K.join_here (L' := [K.row (.slice QO (selN (othB r (anyS r (turnS ys)) kb) i).length qo) 3 1 (selN (othB r (anyS r (turnS ys)) kb) i).length ((selN (othB r (anyS r (turnS ys)) kb) i).flatMap K.eI), K.row (.slice Q4 (anyS r (turnS ys)).length q4) 3 1 (anyS r (turnS ys)).length ((anyS r (turnS ys)).flatMap K.eI), K.row (.slice (some ⟨b88, 0, none⟩) r.length r.length) 3 1 r.length ((hP r (fewL r) r.length 0).flatMap K.eI), K.row (.slice Q3 (mayL r).length q3) 3 1 (mayL r).length ((mayL r).flatMap K.eI), K.row (.slice Q2 (mustL r).length q2) 3 1 (mustL r).length ((mustL r).flatMap K.eI), K.row (.slice Q1 (fewL r).length q1) 3 1 (fewL r).length ((fewL r).flatMap K.eI)]) [.bool true] ⟨by rw [← ev29], rfl⟩ (fun w h => h) (by kernel_rfl)
      try replace hg162 := of_decide_eq_false hg162
      refine K.d_pure 7 rfl (K.move) (by kernel_rfl) rfl ?_
      refine zn ?_
      refine K.d_pure 8 rfl (K.move) (by kernel_rfl) rfl ?_
      refine zn ?_
      refine K.d_ix (M := [K.row (.slice Q4 (anyS r (turnS ys)).length q4) 3 1 (anyS r (turnS ys)).length ((anyS r (turnS ys)).flatMap K.eI)]) 9 _ rfl (K.Sl.own (w0 := w) (t := 3) (c := q4) (e := K.eI) hq4 (fun _ => rfl)) sl_26 rfl rfl rfl (by omega) (by kernel_rfl) rfl ?_
      intro p165 hp165
      refine zN ?_
      refine K.d_mem 10 rfl (K.load1 one_3 rfl (hp165.at1 (K.m1))) (fun _ h => h) (by kernel_rfl) (by kernel_rfl) rfl ?_
      refine zN ?_
      refine K.d_pure 11 rfl (K.move) (by kernel_rfl) rfl ?_
      refine zn ?_
      refine K.d_pure 12 rfl (K.move) (by kernel_rfl) rfl ?_
      refine zn ?_
      refine K.d_ix (M := []) 13 _ rfl hR.sl sl_22 rfl rfl rfl (by omega) (by kernel_rfl) rfl ?_
      intro p169 hp169
      refine zN ?_
      refine K.d_pure 14 rfl (K.fieldAddr fo_44_3 rfl) (by kernel_rfl) rfl ?_
      refine zn ?_
      refine K.d_mem 15 rfl (K.load1 one_3 rfl ((K.PtrL.fld hp169 (k := 3)).any)) (fun _ h => h) (by kernel_rfl) (by kernel_rfl) rfl ?_
      refine zN ?_
      refine K.d_pure 16 rfl (K.neq rfl rfl) (by kernel_rfl) rfl ?_
      refine zn ?_
      refine K.d_pure 17 rfl (K.pick_f rfl) (by kernel_rfl) rfl ?_
      refine zn ?_
      refine K.d_done (by kernel_rfl) ?_
      have ev29 : decide ((anyS r (turnS ys)).getD i default ≠ (r.getD i default).ht) = othB r (anyS r (turnS ys)) kb i := by unfold othB; rw [hg162]; rfl
      exact K.join_here (L' := [K.row (.slice QO (selN (othB r (anyS r (turnS ys)) kb) i).length qo) 3 1 (selN (othB r (anyS r (turnS ys)) kb) i).length ((selN (othB r (anyS r (turnS ys)) kb) i).flatMap K.eI), K.row (.slice Q4 (anyS r (turnS ys)).length q4) 3 1 (anyS r (turnS ys)).length ((anyS r (turnS ys)).flatMap K.eI), K.row (.slice (some ⟨b88, 0, none⟩) r.length r.length) 3 1 r.length ((hP r (fewL r) r.length 0).flatMap K.eI), K.row (.slice Q3 (mayL r).length q3) 3 1 (mayL r).length ((mayL r).flatMap K.eI), K.row (.slice Q2 (mustL r).length q2) 3 1 (mustL r).length ((mustL r).flatMap K.eI), K.row (.slice Q1 (fewL r).length q1) 3 1 (fewL r).length ((fewL r).flatMap K.eI)]) [.bool (decide ((anyS r (turnS ys)).getD i default ≠ (r.getD i default).ht))] ⟨by rw [ev29], rfl⟩ (fun w h => h) (by kernel_rfl)
    intro vi vr L hJ
    obtain ⟨rfl, rfl⟩ := hJ
    try dsimp only [setd, setn, ev, nth, over, cl, eI, eP, eT, eR, setM, setF, List.map, List.append, List.drop, List.take]
    refine K.norm_then ?_
    refine K.cond rfl (fun ht173 => ?_) (fun ht173 => ?_)
    · try replace ht173 := of_decide_eq_true ht173
      refine K.region_lit ?_
      iterate 2 refine qm ?_
      refine K.seq_new (K.buildSlice (bs1 _)) rfl ?_
      intro b176
      refine zN ?_
      refine K.seq_upd (K.append el_26 rfl rfl (K.PtrL.own' (K.m0)) rfl rfl (by decide) (by omega) (by omega) (fun _ _ => K.rp1)) rfl ?_
      rintro ⟨g177, c177⟩ _
      refine zN ?_
      refine qa ?_
      refine K.seq_nil ?_
      refine K.norm_block ?_
      refine K.norm_then ?_
      refine K.region_lit ?_
      refine qm ?_
      refine qp (K.add_i64 rfl rfl (by omega)) ?_
      refine qa ?_
      refine K.seq_nil ?_
      have hb : othB r (anyS r (turnS ys)) kb i = true := by simpa using ht173
      have hsn := selN_yes hb
      exact K.round_endW (L'' := [K.row (.slice (some ⟨g177, 0, none⟩) ((selN (othB r (anyS r (turnS ys)) kb) i).length + 1) c177) 3 1 ((selN (othB r (anyS r (turnS ys)) kb) i).length + 1) ((selN (othB r (anyS r (turnS ys)) kb) i).flatMap K.eI ++ [.int .i64 (i : Int)]), K.row (.slice Q4 (anyS r (turnS ys)).length q4) 3 1 (anyS r (turnS ys)).length ((anyS r (turnS ys)).flatMap K.eI), K.row (.slice (some ⟨b88, 0, none⟩) r.length r.length) 3 1 r.length ((hP r (fewL r) r.length 0).flatMap K.eI), K.row (.slice Q3 (mayL r).length q3) 3 1 (mayL r).length ((mayL r).flatMap K.eI), K.row (.slice Q2 (mustL r).length q2) 3 1 (mustL r).length ((mustL r).flatMap K.eI), K.row (.slice Q1 (fewL r).length q1) 3 1 (fewL r).length ((fewL r).flatMap K.eI)]) [.slice (some ⟨g177, 0, none⟩) ((selN (othB r (anyS r (turnS ys)) kb) i).length + 1) c177, .int .i64 ((i : Int) + 1)] ⟨i + 1, some ⟨g177, 0, none⟩, c177, by rw [hsn, List.length_append]; rfl, by rw [hsn, List.length_append, List.flatMap_append]; rfl, by omega⟩ (by simp [K.nth, intOf]; omega) (List.Sublist.cons _ (List.Sublist.refl _)) (by kernel_rfl)
    try replace ht173 := of_decide_eq_false ht173
    refine K.skip ?_
    refine K.norm_block ?_
    refine K.norm_then ?_
    refine K.region_lit ?_
    refine qm ?_
    refine qp (K.add_i64 rfl rfl (by omega)) ?_
    refine qa ?_
    refine K.seq_nil ?_
    have hb : othB r (anyS r (turnS ys)) kb i = false := by simpa using ht173
    have hsn := selN_no hb
    exact K.round_endW (L'' := [K.row (.slice QO (selN (othB r (anyS r (turnS ys)) kb) i).length qo) 3 1 (selN (othB r (anyS r (turnS ys)) kb) i).length ((selN (othB r (anyS r (turnS ys)) kb) i).flatMap K.eI), K.row (.slice Q4 (anyS r (turnS ys)).length q4) 3 1 (anyS r (turnS ys)).length ((anyS r (turnS ys)).flatMap K.eI), K.row (.slice (some ⟨b88, 0, none⟩) r.length r.length) 3 1 r.length ((hP r (fewL r) r.length 0).flatMap K.eI), K.row (.slice Q3 (mayL r).length q3) 3 1 (mayL r).length ((mayL r).flatMap K.eI), K.row (.slice Q2 (mustL r).length q2) 3 1 (mustL r).length ((mustL r).flatMap K.eI), K.row (.slice Q1 (fewL r).length q1) 3 1 (fewL r).length ((fewL r).flatMap K.eI)]) [.slice QO (selN (othB r (anyS r (turnS ys)) kb) i).length qo, .int .i64 ((i : Int) + 1)] ⟨i + 1, QO, qo, by rw [hsn]; rfl, by rw [hsn], by omega⟩ (by simp [K.nth, intOf]; omega) (List.Sublist.refl _) (by kernel_rfl)
  try replace ht153 := of_decide_eq_false ht153
  have e0 : i = r.length := by omega
  subst e0
  refine K.exit ?_
  refine K.exit_then ?_
  refine K.exit_then ?_
  refine K.exit_here ?_
  refine K.norm_then ?_
  refine K.seq ?_
  refine K.seq ?_
  refine K.use_row K.m0 (fun hqo => ?_)
  refine K.region_lit ?_
  refine qa ?_
  refine sn ?_
  refine K.block ?_
  refine K.loopW [20] [6, 178, 179, 180, 181, 182, 183, 184, 185, 186, 187, 188, 189, 190, 191, 192, 193, 194, 195, 196, 197, 198, 199, 200, 201, 202, 203, 204, 205, 206, 207, 208, 209, 210, 211, 212, 213, 214, 215] (fun vi L => ∃ i : Nat, vi = [.int .i64 (i : Int)] ∧ L = [K.row (.slice QO (selN (othB r (anyS r (turnS ys)) kb) r.length).length qo) 3 1 (selN (othB r (anyS r (turnS ys)) kb) r.length).length ((selN (othB r (anyS r (turnS ys)) kb) r.length).flatMap K.eI), K.row (.slice Q4 (anyS r (turnS ys)).length q4) 3 1 (anyS r (turnS ys)).length ((anyS r (turnS ys)).flatMap K.eI), K.row (.slice (some ⟨b88, 0, none⟩) r.length r.length) 3 1 r.length ((hP r (fewL r) r.length 0).flatMap K.eI), K.row (.slice Q3 (mayL r).length q3) 3 1 (mayL r).length ((mayL r).flatMap K.eI), K.row (.slice Q2 (mustL r).length q2) 3 1 (mustL r).length ((mustL r).flatMap K.eI), K.row (.slice Q1 (fewL r).length q1) 3 1 (fewL r).length ((fewL r).flatMap K.eI)] ∧ i ≤ (mustL r).length) (fun vi => (mustL r).length - (intOf (K.nth vi 0)).toNat) ?_ ?_
  · exact ⟨0, rfl, rfl, Nat.zero_le _⟩
  intro vi vr L hJ
  obtain ⟨i, rfl, rfl, hin⟩ := hJ
  try dsimp only [setd, setn, ev, nth, over, cl, eI, eP, eT, eR, setM, setF, List.map, List.append, List.drop, List.take]
  refine K.seq ?_
  refine sr ?_
  iterate 2 refine qm ?_
  refine qp (K.len_sl sl_26 rfl) ?_
  refine qp (K.lss rfl rfl) ?_
  refine sn ?_
  refine K.cond rfl (fun ht181 => ?_) (fun ht181 => ?_)
  · try replace ht181 := of_decide_eq_true ht181
    have hi : i < (mustL r).length := by omega
    have hm := must_few hc (K.gt_mem hi)
    refine K.skip ?_
    refine K.norm_then ?_
    refine K.seq ?_
    refine K.block ?_
    refine K.seq ?_
    refine K.joinW [215] [184, 185, 186, 187, 188, 189, 190, 191, 192, 193, 194, 195, 196, 197, 198, 199, 200, 201, 202, 203, 204, 205, 206, 207, 208, 209, 210, 211, 212, 213, 214] (fun vi L => vi = [.bool false] ∧ L = [K.row (.slice QO (selN (othB r (anyS r (turnS ys)) kb) r.length).length qo) 3 1 (selN (othB r (anyS r (turnS ys)) kb) r.length).length ((selN (othB r (anyS r (turnS ys)) kb) r.length).flatMap K.eI), K.row (.slice Q4 (anyS r (turnS ys)).length q4) 3 1 (anyS r (turnS ys)).length ((anyS r (turnS ys)).flatMap K.eI), K.row (.slice (some ⟨b88, 0, none⟩) r.length r.length) 3 1 r.length ((hP r (fewL r) r.length 0).flatMap K.eI), K.row (.slice Q3 (mayL r).length q3) 3 1 (mayL r).length ((mayL r).flatMap K.eI), K.row (.slice Q2 (mustL r).length q2) 3 1 (mustL r).length ((mustL r).flatMap K.eI), K.row (.slice Q1 (fewL r).length q1) 3 1 (fewL r).length ((fewL r).flatMap K.eI)]) ?_ ?_
    · refine K.region_lit ?_
      iterate 3 refine qm ?_
      refine K.seq_ix (M := [K.row (.slice Q2 (mustL r).length q2) 3 1 (mustL r).length ((mustL r).flatMap K.eI)]) _ (K.Sl.own (w0 := w) (t := 3) (c := q2) (e := K.eI) hq2 (fun _ => rfl)) sl_26 rfl rfl rfl (by omega) rfl ?_
      intro p187 hp187
      refine zN ?_
      refine K.seq_sil (K.load1 one_3 rfl (hp187.at1 (K.m4))) rfl ?_
      refine zN ?_
      refine K.seq_call (K.call_g cal_38 (fun F w hF hw => (by have hX := (K.Rd.own (e := K.eI) (xs := (fewL r)) hw (hF _ (K.m5)) hq1 (fun _ => rfl) (by decide)); have hg := c38 (n := ((mustL r).getD i default)) (c := q1) hX (by omega); rw [decide_eq_true hm.1] at hg; exact hg))) rfl ?_
      refine zN ?_
      first | refine K.seq_pure (K.Pure.eq (K.not_d rfl) (show _ = Value.bool false from rfl)) rfl ?_ | refine K.seq_pure (K.Pure.eq (K.not_ rfl) (show _ = Value.bool false from rfl)) rfl ?_
      refine zN ?_
      iterate 4 refine qm ?_
      refine K.seq_ix (M := [K.row (.slice Q2 (mustL r).length q2) 3 1 (mustL r).length ((mustL r).flatMap K.eI)]) _ (K.Sl.own (w0 := w) (t := 3) (c := q2) (e := K.eI) hq2 (fun _ => rfl)) sl_26 rfl rfl rfl (by omega) rfl ?_
      intro p195 hp195
      refine zN ?_
      refine K.seq_sil (K.load1 one_3 rfl (hp195.at1 (K.m4))) rfl ?_
      refine zN ?_
      refine K.seq_call (K.call_g cal_38 (fun F w hF hw => (by have hX := (K.Rd.own (e := K.eI) (xs := (mayL r)) hw (hF _ (K.m3)) hq3 (fun _ => rfl) (by decide)); have hg := c38 (n := ((mustL r).getD i default)) (c := q3) hX (by omega); rw [decide_eq_true hm.2] at hg; exact hg))) rfl ?_
      refine zN ?_
      first | refine K.seq_pure (K.Pure.eq (K.not_d rfl) (show _ = Value.bool false from rfl)) rfl ?_ | refine K.seq_pure (K.Pure.eq (K.not_ rfl) (show _ = Value.bool false from rfl)) rfl ?_
      refine zN ?_
      refine qp (K.pick_f rfl) ?_
      iterate 2 refine qm ?_
      refine qp (K.len_sl sl_26 rfl) ?_
      refine qm ?_
      refine qp (K.len_sl sl_26 rfl) ?_
      refine qp (K.eql rfl rfl) ?_
      refine qm ?_
      refine K.split 206 rfl (fun hg206 => ?_) (fun hg206 => ?_)
      · try replace hg206 := of_decide_eq_true hg206
        iterate 3 refine qm ?_
        refine K.seq_ix (M := [K.row (.slice Q2 (mustL r).length q2) 3 1 (mustL r).length ((mustL r).flatMap K.eI)]) _ (K.Sl.own (w0 := w) (t := 3) (c := q2) (e := K.eI) hq2 (fun _ => rfl)) sl_26 rfl rfl rfl (by omega) rfl ?_
        intro p210 hp210
        refine zN ?_
        refine K.seq_sil (K.load1 one_3 rfl (hp210.at1 (K.m4))) rfl ?_
        refine zN ?_
        refine K.seq_call (K.call_g cal_38 (fun F w hF hw => (by have hX := (K.Rd.own (e := K.eI) (xs := (selN (othB r (anyS r (turnS ys)) kb) r.length)) hw (hF _ (K.m0)) hqo (fun _ => rfl) (by decide)); have hg := c38 (n := ((mustL r).getD i default)) (c := qo) hX (by omega); rw [decide_eq_true ((hoe (by omega)).1 _ (K.gt_mem hi))] at hg; exact hg))) rfl ?_
        refine zN ?_
        first | refine K.seq_pure (K.Pure.eq (K.not_d rfl) (show _ = Value.bool false from rfl)) rfl ?_ | refine K.seq_pure (K.Pure.eq (K.not_ rfl) (show _ = Value.bool false from rfl)) rfl ?_
        refine zN ?_
        refine qp (K.pick_t rfl) ?_
        refine qp (K.pick_f rfl) ?_
        refine K.seq_nil ?_
        exact K.join_here (L' := [K.row (.slice QO (selN (othB r (anyS r (turnS ys)) kb) r.length).length qo) 3 1 (selN (othB r (anyS r (turnS ys)) kb) r.length).length ((selN (othB r (anyS r (turnS ys)) kb) r.length).flatMap K.eI), K.row (.slice Q4 (anyS r (turnS ys)).length q4) 3 1 (anyS r (turnS ys)).length ((anyS r (turnS ys)).flatMap K.eI), K.row (.slice (some ⟨b88, 0, none⟩) r.length r.length) 3 1 r.length ((hP r (fewL r) r.length 0).flatMap K.eI), K.row (.slice Q3 (mayL r).length q3) 3 1 (mayL r).length ((mayL r).flatMap K.eI), K.row (.slice Q2 (mustL r).length q2) 3 1 (mustL r).length ((mustL r).flatMap K.eI), K.row (.slice Q1 (fewL r).length q1) 3 1 (fewL r).length ((fewL r).flatMap K.eI)]) [.bool false] ⟨rfl, rfl⟩ (fun w h => h) (by kernel_rfl)
      try replace hg206 := of_decide_eq_false hg206
      iterate 7 refine qs ?_
      refine qp (K.pick_f rfl) ?_
      refine qp (K.pick_f rfl) ?_
      refine K.seq_nil ?_
      exact K.join_here (L' := [K.row (.slice QO (selN (othB r (anyS r (turnS ys)) kb) r.length).length qo) 3 1 (selN (othB r (anyS r (turnS ys)) kb) r.length).length ((selN (othB r (anyS r (turnS ys)) kb) r.length).flatMap K.eI), K.row (.slice Q4 (anyS r (turnS ys)).length q4) 3 1 (anyS r (turnS ys)).length ((anyS r (turnS ys)).flatMap K.eI), K.row (.slice (some ⟨b88, 0, none⟩) r.length r.length) 3 1 r.length ((hP r (fewL r) r.length 0).flatMap K.eI), K.row (.slice Q3 (mayL r).length q3) 3 1 (mayL r).length ((mayL r).flatMap K.eI), K.row (.slice Q2 (mustL r).length q2) 3 1 (mustL r).length ((mustL r).flatMap K.eI), K.row (.slice Q1 (fewL r).length q1) 3 1 (fewL r).length ((fewL r).flatMap K.eI)]) [.bool false] ⟨rfl, rfl⟩ (fun w h => h) (by kernel_rfl)
    intro vi vr L hJ
    obtain ⟨rfl, rfl⟩ := hJ
    try dsimp only [setd, setn, ev, nth, over, cl, eI, eP, eT, eR, setM, setF, List.map, List.append, List.drop, List.take]
    refine K.norm_then ?_
    refine K.cond_false rfl ?_
    refine K.skip ?_
    refine K.norm_block ?_
    refine K.norm_then ?_
    refine K.region_lit ?_
    refine qm ?_
    refine qp (K.add_i64 rfl rfl (by omega)) ?_
    refine qa ?_
    refine K.seq_nil ?_
    exact K.round_endW (L'' := [K.row (.slice QO (selN (othB r (anyS r (turnS ys)) kb) r.length).length qo) 3 1 (selN (othB r (anyS r (turnS ys)) kb) r.length).length ((selN (othB r (anyS r (turnS ys)) kb) r.length).flatMap K.eI), K.row (.slice Q4 (anyS r (turnS ys)).length q4) 3 1 (anyS r (turnS ys)).length ((anyS r (turnS ys)).flatMap K.eI), K.row (.slice (some ⟨b88, 0, none⟩) r.length r.length) 3 1 r.length ((hP r (fewL r) r.length 0).flatMap K.eI), K.row (.slice Q3 (mayL r).length q3) 3 1 (mayL r).length ((mayL r).flatMap K.eI), K.row (.slice Q2 (mustL r).length q2) 3 1 (mustL r).length ((mustL r).flatMap K.eI), K.row (.slice Q1 (fewL r).length q1) 3 1 (fewL r).length ((fewL r).flatMap K.eI)]) [.int .i64 ((i : Int) + 1)] ⟨i + 1, rfl, rfl, by omega⟩ (by simp [K.nth, intOf]; omega) (List.Sublist.refl _) (by kernel_rfl)
  try replace ht181 := of_decide_eq_false ht181
  refine K.exit ?_
  refine K.exit_then ?_
  refine K.exit_then ?_
  refine K.exit_here ?_
  refine K.norm_then ?_
  refine K.seq ?_
  refine sr ?_
  refine qm ?_
  refine qp (K.len_sl sl_26 rfl) ?_
  refine qm ?_
  refine qp (K.len_sl sl_26 rfl) ?_
  refine qp (K.eql rfl rfl) ?_
  refine sn ?_
  refine K.cond rfl (fun ht220 => ?_) (fun ht220 => ?_)
  · try replace ht220 := of_decide_eq_true ht220
    refine sr ?_
    refine qa ?_
    refine sn ?_
    refine K.block ?_
    refine K.loopW [21] [6, 221, 222, 223, 224, 225, 226, 227, 228, 229, 230, 231, 232, 233] (fun vi L => ∃ i : Nat, vi = [.int .i64 (i : Int)] ∧ L = [K.row (.slice QO (selN (othB r (anyS r (turnS ys)) kb) r.length).length qo) 3 1 (selN (othB r (anyS r (turnS ys)) kb) r.length).length ((selN (othB r (anyS r (turnS ys)) kb) r.length).flatMap K.eI), K.row (.slice Q4 (anyS r (turnS ys)).length q4) 3 1 (anyS r (turnS ys)).length ((anyS r (turnS ys)).flatMap K.eI), K.row (.slice (some ⟨b88, 0, none⟩) r.length r.length) 3 1 r.length ((hP r (fewL r) r.length 0).flatMap K.eI), K.row (.slice Q3 (mayL r).length q3) 3 1 (mayL r).length ((mayL r).flatMap K.eI), K.row (.slice Q2 (mustL r).length q2) 3 1 (mustL r).length ((mustL r).flatMap K.eI), K.row (.slice Q1 (fewL r).length q1) 3 1 (fewL r).length ((fewL r).flatMap K.eI)] ∧ i ≤ (selN (othB r (anyS r (turnS ys)) kb) r.length).length) (fun vi => (selN (othB r (anyS r (turnS ys)) kb) r.length).length - (intOf (K.nth vi 0)).toNat) ?_ ?_
    · exact ⟨0, rfl, rfl, Nat.zero_le _⟩
    intro vi vr L hJ
    obtain ⟨i, rfl, rfl, hin⟩ := hJ
    try dsimp only [setd, setn, ev, nth, over, cl, eI, eP, eT, eR, setM, setF, List.map, List.append, List.drop, List.take]
    refine K.seq ?_
    refine sr ?_
    iterate 2 refine qm ?_
    refine qp (K.len_sl sl_26 rfl) ?_
    refine qp (K.lss rfl rfl) ?_
    refine sn ?_
    refine K.cond rfl (fun ht224 => ?_) (fun ht224 => ?_)
    · try replace ht224 := of_decide_eq_true ht224
      have hi : i < (selN (othB r (anyS r (turnS ys)) kb) r.length).length := by omega
      refine K.skip ?_
      refine K.norm_then ?_
      refine K.seq ?_
      refine K.block ?_
      refine sr ?_
      iterate 3 refine qm ?_
      refine K.seq_ix (M := [K.row (.slice QO (selN (othB r (anyS r (turnS ys)) kb) r.length).length qo) 3 1 (selN (othB r (anyS r (turnS ys)) kb) r.length).length ((selN (othB r (anyS r (turnS ys)) kb) r.length).flatMap K.eI)]) _ (K.Sl.own (w0 := w) (t := 3) (c := qo) (e := K.eI) hqo (fun _ => rfl)) sl_26 rfl rfl rfl (by omega) rfl ?_
      intro p230 hp230
      refine zN ?_
      refine K.seq_sil (K.load1 one_3 rfl (hp230.at1 (K.m0))) rfl ?_
      refine zN ?_
      refine K.seq_call (K.call_g cal_38 (fun F w hF hw => (by have hX := (K.Rd.own (e := K.eI) (xs := (mayL r)) hw (hF _ (K.m3)) hq3 (fun _ => rfl) (by decide)); have hg := c38 (n := ((selN (othB r (anyS r (turnS ys)) kb) r.length).getD i default)) (c := q3) hX (by omega); rw [decide_eq_true ((hoe (by omega)).2 _ (K.gt_mem hi))] at hg; exact hg))) rfl ?_
      refine zN ?_
      first | refine K.seq_pure (K.Pure.eq (K.not_d rfl) (show _ = Value.bool false from rfl)) rfl ?_ | refine K.seq_pure (K.Pure.eq (K.not_ rfl) (show _ = Value.bool false from rfl)) rfl ?_
      refine zN ?_
      refine sn ?_
      refine K.cond_false rfl ?_
      refine K.skip ?_
      refine K.norm_block ?_
      refine K.norm_then ?_
      refine K.region_lit ?_
      refine qm ?_
      refine qp (K.add_i64 rfl rfl (by omega)) ?_
      refine qa ?_
      refine K.seq_nil ?_
      exact K.round_endW (L'' := [K.row (.slice QO (selN (othB r (anyS r (turnS ys)) kb) r.length).length qo) 3 1 (selN (othB r (anyS r (turnS ys)) kb) r.length).length ((selN (othB r (anyS r (turnS ys)) kb) r.length).flatMap K.eI), K.row (.slice Q4 (anyS r (turnS ys)).length q4) 3 1 (anyS r (turnS ys)).length ((anyS r (turnS ys)).flatMap K.eI), K.row (.slice (some ⟨b88, 0, none⟩) r.length r.length) 3 1 r.length ((hP r (fewL r) r.length 0).flatMap K.eI), K.row (.slice Q3 (mayL r).length q3) 3 1 (mayL r).length ((mayL r).flatMap K.eI), K.row (.slice Q2 (mustL r).length q2) 3 1 (mustL r).length ((mustL r).flatMap K.eI), K.row (.slice Q1 (fewL r).length q1) 3 1 (fewL r).length ((fewL r).flatMap K.eI)]) [.int .i64 ((i : Int) + 1)] ⟨i + 1, rfl, rfl, by omega⟩ (by simp [K.nth, intOf]; omega) (List.Sublist.refl _) (by kernel_rfl)
    try replace ht224 := of_decide_eq_false ht224
    refine K.exit ?_
    refine K.exit_then ?_
    refine K.exit_then ?_
    refine K.exit_here ?_
    refine K.norm_then ?_
    refine sr ?_
    refine qm ?_
    refine qp (K.len_sl sl_26 rfl) ?_
    refine qm ?_
    refine qp (K.len_sl sl_26 rfl) ?_
    refine qp (K.Pure.eq (K.geq rfl rfl) (show _ = Value.bool true from congrArg Value.bool (decide_eq_true (by omega)))) ?_
    refine qm ?_
    refine K.seq_call (K.call_g cal_25 (fun F w hF hw => c25 (hT.pass hw))) rfl ?_
    refine zN ?_
    refine qp (K.pick_t rfl) ?_
    refine qa ?_
    refine sn ?_
    refine K.ret ?_
    refine K.end_ret (fun w _ => K.res_tmp rfl w) ?_
    exact K.gives rfl
  try replace ht220 := of_decide_eq_false ht220
  refine K.skip ?_
  refine K.norm_then ?_
  refine sr ?_
  refine qm ?_
  refine qp (K.len_sl sl_26 rfl) ?_
  refine qm ?_
  refine qp (K.len_sl sl_26 rfl) ?_
  refine qp (K.Pure.eq (K.geq rfl rfl) (show _ = Value.bool true from congrArg Value.bool (decide_eq_true (by omega)))) ?_
  refine qm ?_
  refine K.seq_call (K.call_g cal_25 (fun F w hF hw => c25 (hT.pass hw))) rfl ?_
  refine zN ?_
  refine qp (K.pick_t rfl) ?_
  refine qa ?_
  refine sn ?_
  refine K.ret ?_
  refine K.end_ret (fun w _ => K.res_tmp rfl w) ?_
  exact K.gives rfl

theorem c6 {r : List RvT} {A : Option Addr} {c : Nat} {Y : Option Addr} {cy : Nat} {ys : List Int} {kb : Nat} {w : World} (hR : K.Rd w A 4 eR r) (hn : r.length ≤ 17592186043904) (hT : Tab w) (hY : K.Rd w Y 1 eH ys) (hyb : ∀ x ∈ ys, 0 ≤ x ∧ x ≤ 65535) (hyl : ys.length ≤ 140737488351232) (hkb : kb ≤ 65535) : Calls Tryd.prog 6 [.slice A r.length c, .slice Y ys.length cy, .int .u16 (kb : Int)].toArray w (K.Gives (.bool true) w) := by
  by_cases hc : (chk r).2.2 = 0
  · exact g6 hR hn hT hY hyb hyl hkb hc
  · exact e6 hR hn hT hY hyb hyl hkb hc


end Go.Proofs.YtoemnobfnnjopaaDoor
