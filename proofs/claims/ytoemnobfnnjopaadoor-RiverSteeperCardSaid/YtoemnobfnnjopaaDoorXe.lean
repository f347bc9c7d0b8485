/-
  Walks of the program's functions, printed by program: what each returns.
  Conditions stand in each theorem.
-/
import Derived.WalkArith
import Derived.Laws.Closers25b
import Derived.Test.YtoemnobfnnjopaaDoorSM
import Derived.Test.YtoemnobfnnjopaaDoorWs
import Derived.Test.YtoemnobfnnjopaaDoorWt
import Derived.Test.YtoemnobfnnjopaaDoorXa
set_option linter.unusedSimpArgs false
set_option linter.unusedVariables false
namespace Go.Proofs.YtoemnobfnnjopaaDoor
open Go.RowKit Go
open Go.K (setd setn ev nth over cl eI eP eT setM setF)
attribute [local irreducible] K.blk K.row

set_option maxRecDepth 100000 in
theorem e13 {r : List RvT} {A : Option Addr} {c : Nat} {Y : Option Addr} {cy : Nat} {ys : List Int} {w : World} (hR : K.Rd w A 4 eR r) (hn : r.length ≤ 17592186043904) (hT : Tab w) (hY : K.Rd w Y 1 eH ys) (hyb : ∀ x ∈ ys, 0 ≤ x ∧ x ≤ 65535) (hyl : ys.length ≤ 140737488351232) (hc : (chk r).2.2 ≠ 0) :
    Calls Tryd.prog 13 [.slice A r.length c, .slice Y ys.length cy].toArray w (K.Gives (.bool true) w) := by
  have hn4 : r.length ≤ 4611686018427387904 := by omega
  refine K.enter (args := [.slice A r.length c, .slice Y ys.length cy]) Tryd.func13 rfl (n := 136) rfl ?_
  simp only [List.replicate, List.cons_append, List.nil_append]
  refine sr ?_
  refine qa ?_
  refine sn ?_
  refine K.seq ?_
  refine sr ?_
  refine qm ?_
  refine K.seq_call (K.call_g cal_35 (fun F w hF hw => c35 (hR.pass hw) hn4)) rfl ?_
  refine zN ?_
  first | refine K.seq_pure (K.Pure.eq (K.not_d rfl) (show _ = Value.bool true from by rw [decide_eq_false hc]; rfl)) rfl ?_ | refine K.seq_pure (K.Pure.eq (K.not_ rfl) (show _ = Value.bool true from by rw [decide_eq_false hc]; rfl)) rfl ?_
  refine zN ?_
  refine sn ?_
  refine K.cond_true rfl ?_
  refine sr ?_
  refine K.seq_call (K.call_g cal_25 (fun F w hF hw => c25 (hT.pass hw))) rfl ?_
  refine zN ?_
  refine qa ?_
  refine sn ?_
  refine K.ret ?_
  refine K.ret_then ?_
  refine K.end_ret (fun w _ => K.res_tmp rfl w) ?_
  exact K.gives rfl

set_option maxRecDepth 100000 in
set_option maxHeartbeats 2000000 in
theorem g13 {r : List RvT} {A : Option Addr} {c : Nat} {Y : Option Addr} {cy : Nat} {ys : List Int} {w : World} (hR : K.Rd w A 4 eR r) (hn : r.length ≤ 17592186043904) (hT : Tab w) (hY : K.Rd w Y 1 eH ys) (hyb : ∀ x ∈ ys, 0 ≤ x ∧ x ≤ 65535) (hyl : ys.length ≤ 140737488351232) (hc : (chk r).2.2 = 0) :
    Calls Tryd.prog 13 [.slice A r.length c, .slice Y ys.length cy].toArray w (K.Gives (.bool true) w) := by
  have hn4 : r.length ≤ 4611686018427387904 := by omega
  have g : Good r := chk_good hc
  have hgn := g.n
  have hS := st_len (r := r) (t := (turnS ys))
  have hcs : (chk (steepS r (turnS ys))).2.2 = 0 := by rw [st_chk hc]
  have hsf := st_few (t := (turnS ys)) hc
  have hsl := st_least (t := (turnS ys)) hc
  have hb9 := badL_9 (r := (steepS r (turnS ys)))
  have hb8 := badL_9 (r := r)
  refine K.enter (args := [.slice A r.length c, .slice Y ys.length cy]) Tryd.func13 rfl (n := 136) rfl ?_
  simp only [List.replicate, List.cons_append, List.nil_append]
  refine sr ?_
  refine qa ?_
  refine sn ?_
  refine K.seq ?_
  refine sr ?_
  refine qm ?_
  refine K.seq_call (K.call_g cal_35 (fun F w hF hw => c35 (hR.pass hw) hn4)) rfl ?_
  refine zN ?_
  first | refine K.seq_pure (K.Pure.eq (K.not_d rfl) (show _ = Value.bool false from by rw [decide_eq_true hc]; rfl)) rfl ?_ | refine K.seq_pure (K.Pure.eq (K.not_ rfl) (show _ = Value.bool false from by rw [decide_eq_true hc]; rfl)) rfl ?_
  refine zN ?_
  refine sn ?_
  refine K.cond_false rfl ?_
  refine K.skip ?_
  refine K.norm_then ?_
  refine sr ?_
  refine K.seq_new (K.buildSlice (bs0r)) rfl ?_
  intro b26
  refine zN ?_
  refine qm ?_
  refine K.blk_row0 (size := 4) ?_
  refine K.seq_upd (K.appendS el_22 rfl rfl hR.sl eR_len (oneR _) (by omega) (by omega) (fun _ _ => K.rp0)) rfl ?_
  rintro ⟨A28, c28⟩ _
  refine zN ?_
  simp only [Nat.zero_add, List.nil_append]
  refine zN ?_
  refine qa ?_
  refine sn ?_
  refine K.seq ?_
  refine K.seq ?_
  refine K.use_rowc K.m0 (fun hA28 hc28 => ?_)
  refine K.region_lit ?_
  refine qa ?_
  refine sn ?_
  refine K.block ?_
  refine K.loopW [6] [29, 30, 31, 32, 33, 34, 35, 36, 37, 38, 39, 40, 41, 42, 43, 44, 45, 46, 47, 48, 49, 50, 51, 52, 53, 54, 55] (fun vi L => ∃ k : Nat, vi = [.int .i64 (k : Int)] ∧ L = [K.row (.slice A28 r.length c28) 44 4 r.length ((mapP (stpF (turnS ys)) r k).flatMap eR)] ∧ k ≤ r.length) (fun vi => r.length - (intOf (K.nth vi 0)).toNat) ?_ ?_
  · exact ⟨0, rfl, by rw [mp_0], Nat.zero_le _⟩
  intro vi vr L hJ
  obtain ⟨k, rfl, rfl, hkn⟩ := hJ
  try dsimp only [setd, setn, ev, nth, over, cl, eI, eP, eT, eR, setM, setF, List.map, List.append, List.drop, List.take]
  refine K.seq ?_
  refine sr ?_
  iterate 2 refine qm ?_
  refine qp (K.len_sl sl_22 rfl) ?_
  refine qp (K.lss rfl rfl) ?_
  refine sn ?_
  refine K.cond rfl (fun ht32 => ?_) (fun ht32 => ?_)
  · try replace ht32 := of_decide_eq_true ht32
    have hk : k < r.length := by omega
    obtain ⟨gb, rfl⟩ := hA28.resolve_left (by omega)
    have hpk := g.p k hk
    refine K.skip ?_
    refine K.norm_then ?_
    refine K.seq ?_
    refine K.block ?_
    refine sr ?_
    iterate 2 refine qm ?_
    refine K.seq_ix (M := []) _ hR.sl sl_22 rfl rfl rfl (by omega) rfl ?_
    intro p37 hp37
    refine zN ?_
    refine qp (K.fieldAddr fo_44_1 rfl) ?_
    refine K.seq_sil (K.load1 one_3 rfl ((K.PtrL.fld hp37 (k := 1)).any)) rfl ?_
    refine zN ?_
    refine qp (K.neq rfl rfl) ?_
    refine sn ?_
    refine K.cond rfl (fun ht40 => ?_) (fun ht40 => ?_)
    · try replace ht40 := of_decide_eq_true ht40
      have hlk : (mapP (stpF (turnS ys)) r k).length = r.length := mp_len
      have hfit : 0 + k * 4 + 2 + 1 ≤ ((mapP (stpF (turnS ys)) r k).flatMap eR).length := by rw [K.flat_len (size := 4) eR_len]; omega
      have hat : (mapP (stpF (turnS ys)) r k).getD k default = r.getD k default := by rw [mp_at hk, if_neg (Nat.lt_irrefl k)]
      have hst : { r.getD k default with ls := (min 500 ((r.getD k default).ls + (turnS ys) k % 50)) } = stpF (turnS ys) k (r.getD k default) := by unfold stpF; rw [if_pos ht40]
      have hset : K.over ((mapP (stpF (turnS ys)) r k).flatMap eR) (0 + k * 4 + 2) [.int .i64 (min 500 ((r.getD k default).ls + (turnS ys) k % 50))] = (mapP (stpF (turnS ys)) r (k + 1)).flatMap eR := by rw [K.set_fld (x' := { (mapP (stpF (turnS ys)) r k).getD k default with ls := (min 500 ((r.getD k default).ls + (turnS ys) k % 50)) }) eR_len (by show 2 + 1 ≤ 4; decide) (by omega) rfl, hat, hst, mp_set hk]
      have htb := turn_bd (n := k) hyb
      have hte := Int.emod_nonneg ((turnS ys) k) (show (50 : Int) ≠ 0 by decide)
      have htl := Int.emod_lt_of_pos ((turnS ys) k) (show (0 : Int) < 50 by decide)
      refine K.draw_L [15] Tryd_mixed ?_
      refine K.d_pure 0 rfl (K.move) (by kernel_rfl) rfl ?_
      refine zn ?_
      refine K.d_pure 1 rfl (K.move) (by kernel_rfl) rfl ?_
      refine zn ?_
      refine K.d_pure 2 rfl (K.move) (by kernel_rfl) rfl ?_
      refine zn ?_
      refine K.d_pure 3 rfl (K.move) (by kernel_rfl) rfl ?_
      refine zn ?_
      refine K.d_ix (M := []) 4 _ rfl hR.sl sl_22 rfl rfl rfl (by omega) (by kernel_rfl) rfl ?_
      intro p45 hp45
      refine zN ?_
      refine K.d_pure 5 rfl (K.fieldAddr fo_44_2 rfl) (by kernel_rfl) rfl ?_
      refine zn ?_
      refine K.d_mem 6 rfl (K.load1 one_3 rfl ((K.PtrL.fld hp45 (k := 2)).any)) (fun _ h => h) (by kernel_rfl) (by kernel_rfl) rfl ?_
      refine zN ?_
      refine K.d_pure 7 rfl (K.move) (by kernel_rfl) rfl ?_
      refine zn ?_
      refine K.d_pure 8 rfl (K.move) (by kernel_rfl) rfl ?_
      refine zn ?_
      refine K.d_call 9 rfl (K.call_g cal_45 (fun F w hF hw => c45 (hY.pass hw) hyb hyl (by omega))) (fun _ h => h) (by kernel_rfl) rfl ?_
      refine zN ?_
      refine K.d_pure 10 rfl (K.rem_i64 rfl rfl (by omega) (by omega)) (by kernel_rfl) rfl ?_
      refine zn ?_
      refine K.d_pure 11 rfl (K.add_i64 rfl rfl (by omega)) (by kernel_rfl) rfl ?_
      refine zn ?_
      refine K.d_pure 12 rfl (K.min_int rfl rfl) (by kernel_rfl) rfl ?_
      refine zn ?_
      refine K.d_pure 13 rfl (K.Pure.eq (K.indexAddr_sl sl_22 rfl rfl (by omega) (by omega)) (show _ = Value.pointer (some ⟨gb, 0 + k * 4, none⟩) from by rw [K.add_lit, Int.toNat_natCast])) (by kernel_rfl) rfl ?_
      refine zN ?_
      refine zN ?_
      refine K.d_pure 14 rfl (K.Pure.eq (K.fieldAddr fo_44_2 rfl) (show _ = Value.pointer (some ⟨gb, 0 + k * 4 + 2, none⟩) from by rw [K.add_lit])) (by kernel_rfl) rfl ?_
      refine zn ?_
      refine K.d_last 15 rfl (K.store_row (xs := (mapP (stpF (turnS ys)) r k).flatMap eR) (j := 0 + k * 4 + 2) sz_3 rfl rfl hfit rfl (K.rpe K.rp0 (congrArg (K.row (.slice (some ⟨gb, 0, none⟩) r.length c28) 44 4 r.length) hset.symm))) rfl (by kernel_rfl) rfl ?_
      intro _ _
      refine zN ?_
      refine zN ?_
      refine K.d_done (by kernel_rfl) ?_
      refine K.norm_block ?_
      refine K.norm_then ?_
      refine K.region_lit ?_
      refine qm ?_
      refine qp (K.add_i64 rfl rfl (by omega)) ?_
      refine qa ?_
      refine K.seq_nil ?_
      exact K.round_endW (L'' := [K.row (.slice (some ⟨gb, 0, none⟩) r.length c28) 44 4 r.length ((mapP (stpF (turnS ys)) r (k + 1)).flatMap eR)]) [.int .i64 ((k : Int) + 1)] ⟨k + 1, rfl, rfl, by omega⟩ (by simp [K.nth, intOf]; omega) (List.Sublist.refl _) (by kernel_rfl)
    try replace ht40 := of_decide_eq_false ht40
    refine K.skip ?_
    refine K.norm_block ?_
    refine K.norm_then ?_
    refine K.region_lit ?_
    refine qm ?_
    refine qp (K.add_i64 rfl rfl (by omega)) ?_
    refine qa ?_
    refine K.seq_nil ?_
    rw [← mp_same hk (show stpF (turnS ys) k (r.getD k default) = r.getD k default by unfold stpF; rw [if_neg ht40])]
    exact K.round_endW (L'' := [K.row (.slice (some ⟨gb, 0, none⟩) r.length c28) 44 4 r.length ((mapP (stpF (turnS ys)) r (k + 1)).flatMap eR)]) [.int .i64 ((k : Int) + 1)] ⟨k + 1, rfl, rfl, by omega⟩ (by simp [K.nth, intOf]; omega) (List.Sublist.refl _) (by kernel_rfl)
  try replace ht32 := of_decide_eq_false ht32
  have e0 : k = r.length := by omega
  subst e0
  refine K.exit ?_
  refine K.exit_then ?_
  refine K.exit_then ?_
  refine K.exit_here ?_
  refine K.norm_then ?_
  refine sr ?_
  refine qm ?_
  refine K.seq_loud (K.call_f cal_16 (fun F w hF hw => (by have hg := c16 (c := c) (hR.pass hw) hn4; rw [hc] at hg; exact hg))) rfl ?_
  rintro ⟨Q1, q1⟩ hq1
  refine zN ?_
  refine qm ?_
  refine qx ?_
  refine qx ?_
  iterate 2 refine qa ?_
  refine sn ?_
  refine sr ?_
  refine qm ?_
  refine K.seq_loud (K.call_f cal_16 (fun F w hF hw => (by have hX := K.Rd.own (t := 44) (c := c28) (e := eR) (xs := (steepS r (turnS ys))) hw (by rw [hS]; exact (hF _ (K.m1))) (by rw [hS]; exact hA28) (fun _ => rfl) (by decide); have hg := c16 (c := c28) hX (by omega); rw [hS, hcs] at hg; exact hg))) rfl ?_
  rintro ⟨Q2, q2⟩ hq2
  refine zN ?_
  refine qm ?_
  refine qx ?_
  refine qx ?_
  iterate 2 refine qa ?_
  refine sn ?_
  refine sr ?_
  refine qm ?_
  refine K.seq_loud (K.call_f cal_26 (fun F w hF hw => (by have hg := c26 (c := c) (hR.pass hw) hn4 (hT.pass hw); rw [hc] at hg; exact hg))) rfl ?_
  rintro ⟨Q3, q3⟩ hq3
  refine zN ?_
  refine qm ?_
  refine qx ?_
  refine qx ?_
  iterate 2 refine qa ?_
  refine sn ?_
  refine sr ?_
  refine qm ?_
  refine K.seq_loud (K.call_f cal_26 (fun F w hF hw => (by have hX := K.Rd.own (t := 44) (c := c28) (e := eR) (xs := (steepS r (turnS ys))) hw (by rw [hS]; exact (hF _ (K.m3))) (by rw [hS]; exact hA28) (fun _ => rfl) (by decide); have hg := c26 (c := c28) hX (by omega) (hT.pass hw); rw [hS, hcs] at hg; exact hg))) rfl ?_
  rintro ⟨Q4, q4⟩ hq4
  refine zN ?_
  refine qm ?_
  refine qx ?_
  refine qx ?_
  iterate 2 refine qa ?_
  refine sn ?_
  refine sr ?_
  refine qm ?_
  refine K.seq_loud (K.call_f cal_32 (fun F w hF hw => (by have hg := c32 (c := c) (hR.pass hw) hn4; rw [hc] at hg; exact hg))) rfl ?_
  rintro ⟨Q5, q5⟩ hq5
  refine zN ?_
  refine qm ?_
  refine qx ?_
  refine qx ?_
  refine qx ?_
  iterate 3 refine qa ?_
  refine sn ?_
  refine sr ?_
  refine qm ?_
  refine K.seq_loud (K.call_f cal_32 (fun F w hF hw => (by have hX := K.Rd.own (t := 44) (c := c28) (e := eR) (xs := (steepS r (turnS ys))) hw (by rw [hS]; exact (hF _ (K.m5))) (by rw [hS]; exact hA28) (fun _ => rfl) (by decide); have hg := c32 (c := c28) hX (by omega); rw [hS, hcs] at hg; exact hg))) rfl ?_
  rintro ⟨Q6, q6⟩ hq6
  refine zN ?_
  refine qm ?_
  refine qx ?_
  refine qx ?_
  refine qx ?_
  iterate 3 refine qa ?_
  refine sn ?_
  refine K.seq ?_
  refine sr ?_
  refine qa ?_
  refine sn ?_
  refine K.block ?_
  refine K.loopW [21] [4, 88, 89, 90, 91, 92, 93, 94, 95, 96, 97, 98, 99, 100] (fun vi L => ∃ k : Nat, vi = [.int .i64 (k : Int)] ∧ L = [K.row (.slice Q6 (lstL (steepS r (turnS ys))).length q6) 3 1 (lstL (steepS r (turnS ys))).length ((lstL (steepS r (turnS ys))).flatMap K.eI), K.row (.slice Q5 (lstL r).length q5) 3 1 (lstL r).length ((lstL r).flatMap K.eI), K.row (.slice Q4 (fewL (steepS r (turnS ys))).length q4) 3 1 (fewL (steepS r (turnS ys))).length ((fewL (steepS r (turnS ys))).flatMap K.eI), K.row (.slice Q3 (fewL r).length q3) 3 1 (fewL r).length ((fewL r).flatMap K.eI), K.row (.slice Q2 (badL (steepS r (turnS ys))).length q2) 3 1 (badL (steepS r (turnS ys))).length ((badL (steepS r (turnS ys))).flatMap K.eI), K.row (.slice Q1 (badL r).length q1) 3 1 (badL r).length ((badL r).flatMap K.eI), K.row (.slice A28 r.length c28) 44 4 r.length ((mapP (stpF (turnS ys)) r r.length).flatMap eR)] ∧ k ≤ (badL r).length) (fun vi => (badL r).length - (intOf (K.nth vi 0)).toNat) ?_ ?_
  · exact ⟨0, rfl, rfl, Nat.zero_le _⟩
  intro vi vr L hJ
  obtain ⟨k, rfl, rfl, hkn⟩ := hJ
  try dsimp only [setd, setn, ev, nth, over, cl, eI, eP, eT, eR, setM, setF, List.map, List.append, List.drop, List.take]
  refine K.seq ?_
  refine sr ?_
  iterate 2 refine qm ?_
  refine qp (K.len_sl sl_26 rfl) ?_
  refine qp (K.lss rfl rfl) ?_
  refine sn ?_
  refine K.cond rfl (fun ht91 => ?_) (fun ht91 => ?_)
  · try replace ht91 := of_decide_eq_true ht91
    have hk : k < (badL r).length := by omega
    have hyes : decide ((badL r).getD k default ∈ (badL (steepS r (turnS ys)))) = true := decide_eq_true (st_mem hc (K.gt_mem hk))
    refine K.skip ?_
    refine K.norm_then ?_
    refine K.seq ?_
    refine K.block ?_
    refine sr ?_
    iterate 3 refine qm ?_
    refine K.seq_ix (M := [K.row (.slice Q1 (badL r).length q1) 3 1 (badL r).length ((badL r).flatMap K.eI)]) _ (K.Sl.own (w0 := w) (t := 3) (c := q1) (e := K.eI) hq1 (fun _ => rfl)) sl_26 rfl rfl rfl (by omega) rfl ?_
    intro p97 hp97
    refine zN ?_
    refine K.seq_sil (K.load1 one_3 rfl (hp97.at1 (K.m5))) rfl ?_
    refine zN ?_
    refine K.seq_call (K.call_g cal_38 (fun F w hF hw => (by have hX := (K.Rd.own (e := K.eI) (xs := (badL (steepS r (turnS ys)))) hw (hF _ (K.m4)) hq2 (fun _ => rfl) (by decide)); have hg := c38 (n := (badL r).getD k default) (c := q2) hX (by omega); rw [hyes] at hg; exact hg))) rfl ?_
    refine zN ?_
    first | refine K.seq_pure (K.Pure.eq (K.not_d rfl) (show _ = Value.bool false from rfl)) rfl ?_ | refine K.seq_pure (K.Pure.eq (K.not_ rfl) (show _ = Value.bool false from rfl)) rfl ?_
    refine zN ?_
    refine sn ?_
    refine K.cond_false rfl ?_
    refine K.skip ?_
    refine K.norm_block ?_
    refine K.norm_then ?_
    refine K.region_lit ?_
    refine qm ?_
    refine qp (K.add_i64 rfl rfl (by omega)) ?_
    refine qa ?_
    refine K.seq_nil ?_
    exact K.round_endW (L'' := [K.row (.slice Q6 (lstL (steepS r (turnS ys))).length q6) 3 1 (lstL (steepS r (turnS ys))).length ((lstL (steepS r (turnS ys))).flatMap K.eI), K.row (.slice Q5 (lstL r).length q5) 3 1 (lstL r).length ((lstL r).flatMap K.eI), K.row (.slice Q4 (fewL (steepS r (turnS ys))).length q4) 3 1 (fewL (steepS r (turnS ys))).length ((fewL (steepS r (turnS ys))).flatMap K.eI), K.row (.slice Q3 (fewL r).length q3) 3 1 (fewL r).length ((fewL r).flatMap K.eI), K.row (.slice Q2 (badL (steepS r (turnS ys))).length q2) 3 1 (badL (steepS r (turnS ys))).length ((badL (steepS r (turnS ys))).flatMap K.eI), K.row (.slice Q1 (badL r).length q1) 3 1 (badL r).length ((badL r).flatMap K.eI), K.row (.slice A28 r.length c28) 44 4 r.length ((mapP (stpF (turnS ys)) r r.length).flatMap eR)]) [.int .i64 ((k : Int) + 1)] ⟨k + 1, rfl, rfl, by omega⟩ (by simp [K.nth, intOf]; omega) (List.Sublist.refl _) (by kernel_rfl)
  try replace ht91 := of_decide_eq_false ht91
  refine K.exit ?_
  refine K.exit_then ?_
  refine K.exit_then ?_
  refine K.exit_here ?_
  refine K.norm_then ?_
  refine sr ?_
  refine qm ?_
  refine qp (K.Pure.eq (K.eql rfl rfl) (show _ = Value.bool true from congrArg Value.bool (rfl))) ?_
  iterate 2 refine qm ?_
  refine qp (K.Pure.eq (K.eql rfl rfl) (show _ = Value.bool true from congrArg Value.bool (rfl))) ?_
  refine qp (K.pick_t rfl) ?_
  iterate 2 refine qm ?_
  refine qp (K.Pure.eq (K.eql rfl rfl) (show _ = Value.bool true from congrArg Value.bool (rfl))) ?_
  refine qp (K.pick_t rfl) ?_
  iterate 2 refine qm ?_
  refine qp (K.Pure.eq (K.eql rfl rfl) (show _ = Value.bool true from congrArg Value.bool (rfl))) ?_
  refine qp (K.pick_t rfl) ?_
  iterate 2 refine qm ?_
  refine qp (K.Pure.eq (K.eql rfl rfl) (show _ = Value.bool true from congrArg Value.bool (rfl))) ?_
  refine qp (K.pick_t rfl) ?_
  iterate 2 refine qm ?_
  refine qp (K.Pure.eq (K.eql rfl rfl) (show _ = Value.bool true from congrArg Value.bool (rfl))) ?_
  refine qp (K.pick_t rfl) ?_
  iterate 2 refine qm ?_
  refine qp (K.len_sl sl_26 rfl) ?_
  refine qm ?_
  refine qp (K.len_sl sl_26 rfl) ?_
  refine qp (K.Pure.eq (K.geq rfl rfl) (show _ = Value.bool true from congrArg Value.bool (decide_eq_true (by omega)))) ?_
  refine qp (K.pick_t rfl) ?_
  iterate 3 refine qm ?_
  refine qp (K.Pure.eq (K.geq rfl rfl) (show _ = Value.bool true from congrArg Value.bool (decide_eq_true (by omega)))) ?_
  refine qp (K.pick_t rfl) ?_
  refine qm ?_
  refine K.seq_call (K.call_g cal_25 (fun F w hF hw => c25 (hT.pass hw))) rfl ?_
  refine zN ?_
  refine qp (K.pick_t rfl) ?_
  refine qa ?_
  refine sn ?_
  refine K.ret ?_
  refine K.end_ret (fun w _ => K.res_tmp rfl w) ?_
  exact K.gives rfl

theorem c13 {r : List RvT} {A : Option Addr} {c : Nat} {Y : Option Addr} {cy : Nat} {ys : List Int} {w : World} (hR : K.Rd w A 4 eR r) (hn : r.length ≤ 17592186043904) (hT : Tab w) (hY : K.Rd w Y 1 eH ys) (hyb : ∀ x ∈ ys, 0 ≤ x ∧ x ≤ 65535) (hyl : ys.length ≤ 140737488351232) : Calls Tryd.prog 13 [.slice A r.length c, .slice Y ys.length cy].toArray w (K.Gives (.bool true) w) := by
  by_cases hc : (chk r).2.2 = 0
  · exact g13 hR hn hT hY hyb hyl hc
  · exact e13 hR hn hT hY hyb hyl hc


end Go.Proofs.YtoemnobfnnjopaaDoor
