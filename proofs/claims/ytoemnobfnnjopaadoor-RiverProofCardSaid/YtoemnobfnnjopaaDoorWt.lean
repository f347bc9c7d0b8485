/-
  Walks of the program's functions, printed by program: what each returns.
  Conditions stand in each theorem.
-/
import Derived.WalkArith
import Derived.Laws.Closers25b
import Derived.Test.YtoemnobfnnjopaaDoorSL
import Derived.Test.YtoemnobfnnjopaaDoorWj
set_option linter.unusedSimpArgs false
set_option linter.unusedVariables false
namespace Go.Proofs.YtoemnobfnnjopaaDoor
open Go.RowKit Go
open Go.K (setd setn ev nth over cl eI eP eT setM setF)
attribute [local irreducible] K.blk K.row
theorem bs0r : K.Bs Tryd.prog 22 0 [] 44 [] := fun w => by kernel_rfl

set_option maxRecDepth 100000 in
set_option maxHeartbeats 1000000 in
theorem c42 {r : List RvT} {A : Option Addr} {c : Nat} {H : Option Addr} {d : Nat} {hs : List Int} {w : World} (hR : K.Rd w A 4 eR r) (hH : K.Rd w H 1 K.eI hs) (hl : hs.length = r.length) (hn : r.length ≤ 9) :
    Calls Tryd.prog 42 [.slice A r.length c, .slice H hs.length d].toArray w (K.RetS 44 4 eR (wthS r hs) w) := by
  refine K.enter (args := [.slice A r.length c, .slice H hs.length d]) Tryd.func42 rfl (n := 23) rfl ?_
  simp only [List.replicate, List.cons_append, List.nil_append]
  refine sr ?_
  refine qa ?_
  refine sn ?_
  refine sr ?_
  refine K.seq_new (K.buildSlice (bs0r)) rfl ?_
  intro b7
  refine zN ?_
  refine qm ?_
  refine K.blk_row0 (size := 4) ?_
  refine K.seq_upd (K.appendS el_22 rfl rfl hR.sl eR_len (oneR _) (by omega) (by omega) (fun _ _ => K.rp0)) rfl ?_
  rintro ⟨A9, c9⟩ _
  refine zN ?_
  simp only [Nat.zero_add, List.nil_append]
  refine zN ?_
  refine qa ?_
  refine sn ?_
  refine K.seq ?_
  refine K.seq ?_
  refine K.use_rowc K.m0 (fun hA9 hc9 => ?_)
  refine K.region_lit ?_
  refine qa ?_
  refine sn ?_
  refine K.block ?_
  refine K.loopW [6] [10, 11, 12, 13, 14, 15, 16, 17, 18, 19, 20, 21, 22, 23] (fun vi L => ∃ k : Nat, vi = [.int .i64 (k : Int)] ∧ L = [K.row (.slice A9 r.length c9) 44 4 r.length ((wthP r hs k).flatMap eR)] ∧ k ≤ r.length) (fun vi => r.length - (intOf (K.nth vi 0)).toNat) ?_ ?_
  · exact ⟨0, rfl, by rw [wp_0], Nat.zero_le _⟩
  intro vi vr L hJ
  obtain ⟨k, rfl, rfl, hkn⟩ := hJ
  try dsimp only [setd, setn, ev, nth, over, cl, eI, eP, eT, eR, setM, setF, List.map, List.append, List.drop, List.take]
  refine K.seq ?_
  refine sr ?_
  iterate 2 refine qm ?_
  refine qp (K.len_sl sl_22 rfl) ?_
  refine qp (K.lss rfl rfl) ?_
  refine sn ?_
  refine K.cond rfl (fun ht13 => ?_) (fun ht13 => ?_)
  · try replace ht13 := of_decide_eq_true ht13
    have hk : k < r.length := by omega
    obtain ⟨gb, rfl⟩ := hA9.resolve_left (by omega)
    have hlk : (wthP r hs k).length = r.length := wp_len
    have hfit : 0 + k * 4 + 3 + 1 ≤ ((wthP r hs k).flatMap eR).length := by rw [K.flat_len (size := 4) eR_len]; omega
    have hset : K.over ((wthP r hs k).flatMap eR) (0 + k * 4 + 3) [.int .i64 (hs.getD k default)] = (wthP r hs (k + 1)).flatMap eR := by rw [K.set_fld (x' := { (wthP r hs k).getD k default with ht := hs.getD k default }) eR_len (by show 3 + 1 ≤ 4; decide) (by omega) rfl, wp_set hk]
    refine K.skip ?_
    refine K.norm_then ?_
    refine K.seq ?_
    refine K.block ?_
    refine K.region_lit ?_
    iterate 4 refine qm ?_
    refine K.seq_ix (M := []) _ hH.sl sl_26 rfl rfl rfl (by omega) rfl ?_
    intro p20 hp20
    refine zN ?_
    refine K.seq_sil (K.load1 one_3 rfl (hp20.any)) rfl ?_
    refine zN ?_
    refine K.seq_pure (K.Pure.eq (K.indexAddr_sl sl_22 rfl rfl (by omega) (by omega)) (show _ = Value.pointer (some ⟨gb, 0 + k * 4, none⟩) from by rw [K.add_lit, Int.toNat_natCast])) rfl ?_
    refine zN ?_
    refine zN ?_
    refine qp (K.Pure.eq (K.fieldAddr fo_44_3 rfl) (show _ = Value.pointer (some ⟨gb, 0 + k * 4 + 3, none⟩) from by rw [K.add_lit])) ?_
    refine K.seq_st (K.store_row (xs := (wthP r hs k).flatMap eR) (j := 0 + k * 4 + 3) sz_3 rfl rfl hfit rfl (K.rpe K.rp0 (congrArg (K.row (.slice (some ⟨gb, 0, none⟩) r.length c9) 44 4 r.length) hset.symm))) rfl ?_
    refine zN ?_
    refine zN ?_
    refine K.seq_nil ?_
    refine K.norm_block ?_
    refine K.norm_then ?_
    refine K.region_lit ?_
    refine qm ?_
    refine qp (K.add_i64 rfl rfl (by omega)) ?_
    refine qa ?_
    refine K.seq_nil ?_
    exact K.round_endW (L'' := [K.row (.slice (some ⟨gb, 0, none⟩) r.length c9) 44 4 r.length ((wthP r hs (k + 1)).flatMap eR)]) [.int .i64 ((k : Int) + 1)] ⟨k + 1, rfl, rfl, by omega⟩ (by simp [K.nth, intOf]; omega) (List.Sublist.refl _) (by kernel_rfl)
  try replace ht13 := of_decide_eq_false ht13
  refine K.exit ?_
  refine K.exit_then ?_
  refine K.exit_then ?_
  refine K.exit_here ?_
  refine K.norm_then ?_
  refine sr ?_
  refine qm ?_
  refine qa ?_
  refine sn ?_
  refine K.ret ?_
  refine K.end_ret (fun w _ => K.res_tmp rfl w) ?_
  have e0 : k = r.length := by omega
  subst e0
  have en := w_len (r := r) (l := hs)
  exact K.rets_s K.m0 en.symm rfl rfl

set_option maxRecDepth 100000 in
theorem c43 {r : List RvT} {A : Option Addr} {c : Nat} {H : Option Addr} {d : Nat} {hs : List Int} {w : World} (hR : K.Rd w A 4 eR r) (hH : K.Rd w H 1 K.eI hs) (hl : hs.length = r.length) (g : Good r) (hb : ∀ j, j < r.length → -100000 ≤ hs.getD j default ∧ hs.getD j default ≤ 100000) :
    Calls Tryd.prog 43 [.slice A r.length c, .slice H hs.length d].toArray w (K.Gives (.int .i64 (chgV r hs)) w) := by
  have hgn := g.n
  refine K.enter (args := [.slice A r.length c, .slice H hs.length d]) Tryd.func43 rfl (n := 35) rfl ?_
  simp only [List.replicate, List.cons_append, List.nil_append]
  refine sr ?_
  refine qa ?_
  refine sn ?_
  refine sr ?_
  refine qa ?_
  refine sn ?_
  refine K.seq ?_
  refine sr ?_
  refine qa ?_
  refine sn ?_
  refine K.block ?_
  refine K.loopW [5, 6] [7, 8, 9, 10, 11, 12, 13, 14, 15, 16, 17, 18, 19, 20, 21, 22, 23, 24, 25, 26, 27, 28, 29, 30, 31, 32, 33, 34, 35] (fun vi L => ∃ k : Nat, vi = [.int .i64 (chgF r hs k), .int .i64 (k : Int)] ∧ L = [] ∧ k ≤ r.length) (fun vi => r.length - (intOf (K.nth vi 1)).toNat) ?_ ?_
  · exact ⟨0, rfl, rfl, Nat.zero_le _⟩
  intro vi vr L hJ
  obtain ⟨k, rfl, rfl, hkn⟩ := hJ
  try dsimp only [setd, setn, ev, nth, over, cl, eI, eP, eT, eR, setM, setF, List.map, List.append, List.drop, List.take]
  refine K.seq ?_
  refine sr ?_
  iterate 2 refine qm ?_
  refine qp (K.len_sl sl_22 rfl) ?_
  refine qp (K.lss rfl rfl) ?_
  refine sn ?_
  refine K.cond rfl (fun ht10 => ?_) (fun ht10 => ?_)
  · try replace ht10 := of_decide_eq_true ht10
    have hk : k < r.length := by omega
    have hcb := chgF_bd g hb k hkn
    have hbk := hb k hk
    have hpk := g.p k hk
    refine K.skip ?_
    refine K.norm_then ?_
    refine K.seq ?_
    refine K.block ?_
    refine K.draw_L [] Tryd_mixed ?_
    refine K.d_pure 0 rfl (K.move) (by kernel_rfl) rfl ?_
    refine zn ?_
    refine K.d_pure 1 rfl (K.move) (by kernel_rfl) rfl ?_
    refine zn ?_
    refine K.d_pure 2 rfl (K.move) (by kernel_rfl) rfl ?_
    refine zn ?_
    refine K.d_ix (M := []) 3 _ rfl hH.sl sl_26 rfl rfl rfl (by omega) (by kernel_rfl) rfl ?_
    intro p16 hp16
    refine zN ?_
    refine K.d_mem 4 rfl (K.load1 one_3 rfl (hp16.any)) (fun _ h => h) (by kernel_rfl) (by kernel_rfl) rfl ?_
    refine zN ?_
    refine K.d_pure 5 rfl (K.move) (by kernel_rfl) rfl ?_
    refine zn ?_
    refine K.d_pure 6 rfl (K.move) (by kernel_rfl) rfl ?_
    refine zn ?_
    refine K.d_ix (M := []) 7 _ rfl hR.sl sl_22 rfl rfl rfl (by omega) (by kernel_rfl) rfl ?_
    intro p20 hp20
    refine zN ?_
    refine K.d_pure 8 rfl (K.fieldAddr fo_44_3 rfl) (by kernel_rfl) rfl ?_
    refine zn ?_
    refine K.d_mem 9 rfl (K.load1 one_3 rfl ((K.PtrL.fld hp20 (k := 3)).any)) (fun _ h => h) (by kernel_rfl) (by kernel_rfl) rfl ?_
    refine zN ?_
    refine K.d_pure 10 rfl (K.sub_i64 rfl rfl (by omega)) (by kernel_rfl) rfl ?_
    refine zn ?_
    refine K.d_pure 11 rfl (K.move) (by kernel_rfl) rfl ?_
    refine zn ?_
    refine K.d_pure 12 rfl (K.move) (by kernel_rfl) rfl ?_
    refine zn ?_
    refine K.d_ix (M := []) 13 _ rfl hR.sl sl_22 rfl rfl rfl (by omega) (by kernel_rfl) rfl ?_
    intro p26 hp26
    refine zN ?_
    refine K.d_pure 14 rfl (K.fieldAddr fo_44_3 rfl) (by kernel_rfl) rfl ?_
    refine zn ?_
    refine K.d_mem 15 rfl (K.load1 one_3 rfl ((K.PtrL.fld hp26 (k := 3)).any)) (fun _ h => h) (by kernel_rfl) (by kernel_rfl) rfl ?_
    refine zN ?_
    refine K.d_pure 16 rfl (K.move) (by kernel_rfl) rfl ?_
    refine zn ?_
    refine K.d_pure 17 rfl (K.move) (by kernel_rfl) rfl ?_
    refine zn ?_
    refine K.d_ix (M := []) 18 _ rfl hH.sl sl_26 rfl rfl rfl (by omega) (by kernel_rfl) rfl ?_
    intro p31 hp31
    refine zN ?_
    refine K.d_mem 19 rfl (K.load1 one_3 rfl (hp31.any)) (fun _ h => h) (by kernel_rfl) (by kernel_rfl) rfl ?_
    refine zN ?_
    refine K.d_pure 20 rfl (K.sub_i64 rfl rfl (by omega)) (by kernel_rfl) rfl ?_
    refine zn ?_
    refine K.d_pure 21 rfl (K.max_int rfl rfl) (by kernel_rfl) rfl ?_
    refine zn ?_
    refine K.d_pure 22 rfl (K.add_i64 rfl rfl (by omega)) (by kernel_rfl) rfl ?_
    refine zn ?_
    refine K.d_pure 23 rfl (K.assign) (by kernel_rfl) rfl ?_
    refine zn ?_
    refine K.d_done (by kernel_rfl) ?_
    refine K.norm_block ?_
    refine K.norm_then ?_
    refine K.region_lit ?_
    refine qm ?_
    refine qp (K.add_i64 rfl rfl (by omega)) ?_
    refine qa ?_
    refine K.seq_nil ?_
    exact K.round_endW (L'' := []) [.int .i64 (chgF r hs (k + 1)), .int .i64 ((k : Int) + 1)] ⟨k + 1, rfl, rfl, by omega⟩ (by simp [K.nth, intOf]; omega) (List.nil_sublist _) (by kernel_rfl)
  try replace ht10 := of_decide_eq_false ht10
  refine K.exit ?_
  refine K.exit_then ?_
  refine K.exit_then ?_
  refine K.exit_here ?_
  refine K.norm_then ?_
  refine sr ?_
  refine qm ?_
  refine qa ?_
  refine sn ?_
  refine K.ret ?_
  refine K.end_ret (fun w _ => K.res_tmp rfl w) ?_
  have e0 : k = r.length := by omega
  subst e0
  exact K.gives rfl

end Go.Proofs.YtoemnobfnnjopaaDoor
