/-
  Walks of the program's functions, printed by program: what each returns.
  Conditions stand in each theorem.
-/
import Derived.WalkArith
import Derived.Laws.Closers25b
import Derived.Test.YtoemnobfnnjopaaDoorWp
import Derived.Test.YtoemnobfnnjopaaDoorWs
import Derived.Test.YtoemnobfnnjopaaDoorWt
set_option linter.unusedSimpArgs false
set_option linter.unusedVariables false
namespace Go.Proofs.YtoemnobfnnjopaaDoor
open Go.RowKit Go
open Go.K (setd setn ev nth over cl eI eP eT setM setF)
attribute [local irreducible] K.blk K.row

set_option maxRecDepth 100000 in
theorem e11 {r : List RvT} {A : Option Addr} {c : Nat} {Y : Option Addr} {cy : Nat} {ys : List Int} {z : Int} {w : World} (hR : K.Rd w A 4 eR r) (hn : r.length ≤ 17592186043904) (hT : Tab w) (hY : K.Rd w Y 1 eH ys) (hyb : ∀ x ∈ ys, 0 ≤ x ∧ x ≤ 65535) (hyl : ys.length ≤ 140737488351232) (hz : 0 ≤ z ∧ z ≤ 255) (hc : (chk r).2.2 ≠ 0) :
    Calls Tryd.prog 11 [.slice A r.length c, .slice Y ys.length cy, .int .u8 z].toArray w (K.Gives (.bool true) w) := by
  have hn4 : r.length ≤ 4611686018427387904 := by omega
  refine K.enter (args := [.slice A r.length c, .slice Y ys.length cy, .int .u8 z]) Tryd.func11 rfl (n := 87) rfl ?_
  simp only [List.replicate, List.cons_append, List.nil_append]
  refine sr ?_
  refine qa ?_
  refine sn ?_
  refine K.seq ?_
  refine sr ?_
  refine qm ?_
  refine K.seq_call (K.call_g cal_35 (fun F w hF hw => c35 (hR.pass hw) hn4)) rfl ?_
  refine zN ?_
  first | refine K.seq_pure (K.Pure.eq (K.not_d rfl) (show _ = Value.bool true from by rw [decide_eq_false hc]; rfl)) rfl ?_ | refine K.seq_pure (K.Pure.eq (K.not_ rfl) (show _ = Value.bool true from by rw [decide_eq_false hc]; rfl)) rfl ?_
  refine zN ?_
  refine sn ?_
  refine K.cond_true rfl ?_
  refine sr ?_
  refine K.seq_call (K.call_g cal_25 (fun F w hF hw => c25 (hT.pass hw))) rfl ?_
  refine zN ?_
  refine qa ?_
  refine sn ?_
  refine K.ret ?_
  refine K.ret_then ?_
  refine K.end_ret (fun w _ => K.res_tmp rfl w) ?_
  exact K.gives rfl

set_option maxRecDepth 100000 in
set_option maxHeartbeats 2000000 in
theorem g11 {r : List RvT} {A : Option Addr} {c : Nat} {Y : Option Addr} {cy : Nat} {ys : List Int} {z : Int} {a : Nat} {w : World} (hR : K.Rd w A 4 eR r) (hn : r.length ≤ 17592186043904) (hT : Tab w) (hY : K.Rd w Y 1 eH ys) (hyb : ∀ x ∈ ys, 0 ≤ x ∧ x ≤ 65535) (hyl : ys.length ≤ 140737488351232) (hz : 0 ≤ z ∧ z ≤ 255) (hc : (chk r).2.2 = 0) (ha : a < r.length) (hza : z % (r.length : Int) = (a : Int)) :
    Calls Tryd.prog 11 [.slice A r.length c, .slice Y ys.length cy, .int .u8 z].toArray w (K.Gives (.bool true) w) := by
  have hn4 : r.length ≤ 4611686018427387904 := by omega
  have g : Good r := chk_good hc
  have hgn := g.n
  have hRn : Runs r (anyS r (turnS ys)) := any_runs g (fun i => (turn_bd hyb).1)
  have hal := any_len (r := r) (t := (turnS ys))
  have hwl := w_len (r := r) (l := (anyS r (turnS ys)))
  have hcw : (chk (wthS r (anyS r (turnS ys)))).2.2 = 0 := by rw [w_chk hc hRn.b]
  have hfw := few_with hc hRn
  have hxb := hRn.b a ha
  have hS := one_len (r := r) (a := a) (x := ((anyS r (turnS ys)).getD a default))
  have hco : (chk (oneH r a ((anyS r (turnS ys)).getD a default))).2.2 = 0 := by rw [one_chk hc ha hxb]
  have hf := few_ones hc ha hxb
  have h9 := few_9 (r := r)
  have h9o := few_9 (r := (oneH r a ((anyS r (turnS ys)).getD a default)))
  have hfit : 0 + a * 4 + 3 + 1 ≤ (r.flatMap eR).length := by rw [K.flat_len (size := 4) eR_len]; omega
  have hset : K.over (r.flatMap eR) (0 + a * 4 + 3) [.int .i64 ((anyS r (turnS ys)).getD a default)] = (oneH r a ((anyS r (turnS ys)).getD a default)).flatMap eR := K.set_fld (x' := { r.getD a default with ht := ((anyS r (turnS ys)).getD a default) }) eR_len (by show 3 + 1 ≤ 4; decide) (by omega) rfl
  refine K.enter (args := [.slice A r.length c, .slice Y ys.length cy, .int .u8 z]) Tryd.func11 rfl (n := 87) rfl ?_
  simp only [List.replicate, List.cons_append, List.nil_append]
  refine sr ?_
  refine qa ?_
  refine sn ?_
  refine K.seq ?_
  refine sr ?_
  refine qm ?_
  refine K.seq_call (K.call_g cal_35 (fun F w hF hw => c35 (hR.pass hw) hn4)) rfl ?_
  refine zN ?_
  first | refine K.seq_pure (K.Pure.eq (K.not_d rfl) (show _ = Value.bool false from by rw [decide_eq_true hc]; rfl)) rfl ?_ | refine K.seq_pure (K.Pure.eq (K.not_ rfl) (show _ = Value.bool false from by rw [decide_eq_true hc]; rfl)) rfl ?_
  refine zN ?_
  refine sn ?_
  refine K.cond_false rfl ?_
  refine K.skip ?_
  refine K.norm_then ?_
  refine sr ?_
  iterate 2 refine qm ?_
  refine K.seq_loud (K.call_f cal_40 (fun F w hF hw => c40 (hR.pass hw) (hY.pass hw) hyb hyl g)) rfl ?_
  rintro ⟨Q1, q1⟩ hq1
  refine zN ?_
  refine qa ?_
  refine sn ?_
  refine sr ?_
  iterate 2 refine qm ?_
  refine K.seq_loud (K.call_f cal_42 (fun F w hF hw => (by have hX := (K.Rd.own (e := K.eI) (xs := (anyS r (turnS ys))) hw (hF _ (K.m0)) hq1 (fun _ => rfl) (by decide)); exact c42 (c := c) (d := q1) (hR.pass hw) hX hRn.l (by omega)))) rfl ?_
  rintro ⟨Q2, q2⟩ hq2
  refine zN ?_
  refine K.seq_loud (K.call_f cal_26 (fun F w hF hw => (by have hX := (K.Rd.own (e := eR) (xs := (wthS r (anyS r (turnS ys)))) hw (hF _ (K.m0)) hq2 (fun _ => rfl) (by decide)); have hg := c26 (c := q2) hX (by omega) (hT.pass hw); rw [hfw, hcw] at hg; exact hg))) rfl ?_
  rintro ⟨Q3, q3⟩ hq3
  refine zN ?_
  refine qm ?_
  refine qx ?_
  refine qx ?_
  iterate 2 refine qa ?_
  refine sn ?_
  refine sr ?_
  refine K.seq_new (K.buildSlice (bs0r)) rfl ?_
  intro b30
  refine zN ?_
  refine qm ?_
  refine K.blk_row0 (size := 4) ?_
  refine K.seq_upd (K.appendS el_22 rfl rfl hR.sl eR_len (oneR _) (by omega) (by omega) (fun _ _ => K.rp0)) rfl ?_
  rintro ⟨A32, c32⟩ _
  refine zN ?_
  simp only [Nat.zero_add, List.nil_append]
  refine zN ?_
  refine qa ?_
  refine sn ?_
  refine K.seq ?_
  refine K.use_rowc K.m0 (fun hA32 hc32 => ?_)
  obtain ⟨gb, rfl⟩ := hA32.resolve_left (by omega)
  refine K.region_lit ?_
  refine qm ?_
  refine K.seq_pure (K.Pure.eq (K.conv_int ik_5 ik_3 rfl) (show _ = Value.int .i64 z from by rw [IntWalk.i64_in _ (by omega)])) rfl ?_
  refine zN ?_
  refine qm ?_
  refine qp (K.len_sl sl_22 rfl) ?_
  refine qp (K.Pure.eq (K.rem_i64 rfl rfl (by omega) (by omega)) (show _ = Value.int .i64 (a : Int) from congrArg (Value.int .i64) hza)) ?_
  refine qa ?_
  refine sn ?_
  refine sr ?_
  iterate 4 refine qm ?_
  refine K.seq_ix (M := [K.row (.slice Q1 (anyS r (turnS ys)).length q1) 3 1 (anyS r (turnS ys)).length ((anyS r (turnS ys)).flatMap K.eI)]) _ (K.Sl.own (w0 := w) (t := 3) (c := q1) (e := K.eI) hq1 (fun _ => rfl)) sl_26 rfl rfl rfl (by omega) rfl ?_
  intro p42 hp42
  refine zN ?_
  refine K.seq_sil (K.load1 one_3 rfl (hp42.at1 (K.m3))) rfl ?_
  refine zN ?_
  refine K.seq_pure (K.Pure.eq (K.indexAddr_sl sl_22 rfl rfl (by omega) (by omega)) (show _ = Value.pointer (some ⟨gb, 0 + a * 4, none⟩) from by rw [K.add_lit, Int.toNat_natCast])) rfl ?_
  refine zN ?_
  refine zN ?_
  refine qp (K.Pure.eq (K.fieldAddr fo_44_3 rfl) (show _ = Value.pointer (some ⟨gb, 0 + a * 4 + 3, none⟩) from by rw [K.add_lit])) ?_
  refine K.seq_st (K.store_row (xs := r.flatMap eR) (j := 0 + a * 4 + 3) sz_3 rfl rfl hfit rfl (K.rpe K.rp0 (congrArg (K.row (.slice (some ⟨gb, 0, none⟩) r.length c32) 44 4 r.length) hset.symm))) rfl ?_
  refine zN ?_
  refine zN ?_
  refine sn ?_
  refine sr ?_
  refine qm ?_
  refine K.seq_loud (K.call_f cal_26 (fun F w hF hw => (by have hg := c26 (c := c) (hR.pass hw) hn4 (hT.pass hw); rw [hc] at hg; exact hg))) rfl ?_
  rintro ⟨Q4, q4⟩ hq4
  refine zN ?_
  refine qm ?_
  refine qx ?_
  refine qx ?_
  iterate 2 refine qa ?_
  refine sn ?_
  refine sr ?_
  refine qm ?_
  refine K.seq_loud (K.call_f cal_26 (fun F w hF hw => (by have hX := K.Rd.own (t := 44) (c := c32) (e := eR) (xs := (oneH r a ((anyS r (turnS ys)).getD a default))) hw (by rw [hS]; exact (hF _ (K.m1))) (.inr ⟨gb, rfl⟩) (fun _ => rfl) (by decide); have hg := c26 (c := c32) hX (by omega) (hT.pass hw); rw [hS, hco] at hg; exact hg))) rfl ?_
  rintro ⟨Q5, q5⟩ hq5
  refine zN ?_
  refine qm ?_
  refine qx ?_
  refine qx ?_
  iterate 2 refine qa ?_
  refine sn ?_
  refine sr ?_
  refine qm ?_
  refine qp (K.Pure.eq (K.eql rfl rfl) (show _ = Value.bool true from congrArg Value.bool (rfl))) ?_
  iterate 2 refine qm ?_
  refine qp (K.Pure.eq (K.eql rfl rfl) (show _ = Value.bool true from congrArg Value.bool (rfl))) ?_
  refine qp (K.pick_t rfl) ?_
  iterate 2 refine qm ?_
  refine qp (K.Pure.eq (K.eql rfl rfl) (show _ = Value.bool true from congrArg Value.bool (rfl))) ?_
  refine qp (K.pick_t rfl) ?_
  iterate 2 refine qm ?_
  refine qp (K.len_sl sl_26 rfl) ?_
  refine qp (K.Pure.eq (K.eql rfl rfl) (show _ = Value.bool true from congrArg Value.bool (rfl))) ?_
  refine qp (K.pick_t rfl) ?_
  iterate 2 refine qm ?_
  refine qp (K.len_sl sl_26 rfl) ?_
  refine qm ?_
  refine qp (K.len_sl sl_26 rfl) ?_
  refine qp (K.sub_i64 rfl rfl (by omega)) ?_
  refine qp (K.Pure.eq (K.geq rfl rfl) (show _ = Value.bool true from congrArg Value.bool (decide_eq_true (by omega)))) ?_
  refine qp (K.pick_t rfl) ?_
  iterate 2 refine qm ?_
  refine qp (K.len_sl sl_26 rfl) ?_
  refine qm ?_
  refine qp (K.len_sl sl_26 rfl) ?_
  refine qp (K.add_i64 rfl rfl (by omega)) ?_
  refine qp (K.Pure.eq (K.leq rfl rfl) (show _ = Value.bool true from congrArg Value.bool (decide_eq_true (by omega)))) ?_
  refine qp (K.pick_t rfl) ?_
  refine qm ?_
  refine K.seq_call (K.call_g cal_25 (fun F w hF hw => c25 (hT.pass hw))) rfl ?_
  refine zN ?_
  refine qp (K.pick_t rfl) ?_
  refine qa ?_
  refine sn ?_
  refine K.ret ?_
  refine K.end_ret (fun w _ => K.res_tmp rfl w) ?_
  exact K.gives rfl

theorem c11 {r : List RvT} {A : Option Addr} {c : Nat} {Y : Option Addr} {cy : Nat} {ys : List Int} {z : Int} {w : World} (hR : K.Rd w A 4 eR r) (hn : r.length ≤ 17592186043904) (hT : Tab w) (hY : K.Rd w Y 1 eH ys) (hyb : ∀ x ∈ ys, 0 ≤ x ∧ x ≤ 65535) (hyl : ys.length ≤ 140737488351232) (hz : 0 ≤ z ∧ z ≤ 255) : Calls Tryd.prog 11 [.slice A r.length c, .slice Y ys.length cy, .int .u8 z].toArray w (K.Gives (.bool true) w) := by
  by_cases hc : (chk r).2.2 = 0
  · have g := (chk_good hc).n
    have h0 := Int.emod_nonneg z (show (r.length : Int) ≠ 0 by omega)
    have h1 := Int.emod_lt_of_pos z (show (0 : Int) < r.length by omega)
    exact g11 (a := (z % (r.length : Int)).toNat) hR hn hT hY hyb hyl hz hc (by omega) (by omega)
  · exact e11 hR hn hT hY hyb hyl hz hc


end Go.Proofs.YtoemnobfnnjopaaDoor
