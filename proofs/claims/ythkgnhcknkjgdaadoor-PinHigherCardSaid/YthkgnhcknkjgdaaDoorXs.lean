/-
  Walks of the program's functions, printed by program: what each returns.
  Conditions stand in each theorem.
-/
import Derived.WalkArith
import Derived.Laws.Closers25b
import Derived.Test.YthkgnhcknkjgdaaDoorXj
import Derived.Test.YthkgnhcknkjgdaaDoorSX
set_option linter.unusedSimpArgs false
set_option linter.unusedVariables false
namespace Go.Proofs.YthkgnhcknkjgdaaDoor
open Go.RowKit Go
open Go.K (setd setn ev nth over cl eI eP eT setM setF)
attribute [local irreducible] K.blk K.row
theorem bl61h (a b : Int) : K.Bl Tryd.prog 61 [(0, .int .i64 a), (1, .int .i64 b)] (.agg #[.int .i64 a, .int .i64 b]) := fun w => by kernel_rfl
theorem bs24h (x y a b : Int) : K.Bs Tryd.prog 24 1 [(0, .agg #[.int .i64 x, .int .i64 y, .int .i64 a, .int .i64 b])] 63 [.int .i64 x, .int .i64 y, .int .i64 a, .int .i64 b] := fun w => by kernel_rfl

set_option maxRecDepth 100000 in
theorem e15 {m : Mod} {A B C : Option Addr} {c d e : Nat} {bz x0 : Int} {w : World} (hH : K.Rd w A 1 K.eI m.hs) (hP : K.Rd w B 5 eN m.ps) (hS : K.Rd w C 4 eS m.ss) (hn : m.hs.length ≤ 4611686018427387904) (hm : m.ps.length ≤ 4611686018427387904) (hk : m.ss.length ≤ 4611686018427387904) (hcd : m.ps.length ≤ d) (hT : Tab w) (hc : (chk m).2.2 ≠ 0) :
    Calls Tryd.prog 15 [.agg #[.int .i64 m.W, .int .i64 m.D, .slice A m.hs.length c, .slice B m.ps.length d, .slice C m.ss.length e], .int .u16 bz, .int .u8 x0].toArray w (K.Gives (.bool true) w) := by
  refine K.enter (args := [.agg #[.int .i64 m.W, .int .i64 m.D, .slice A m.hs.length c, .slice B m.ps.length d, .slice C m.ss.length e], .int .u16 bz, .int .u8 x0]) Tryd.func15 rfl (n := 175) rfl ?_
  simp only [List.replicate, List.cons_append, List.nil_append]
  refine sr ?_
  refine K.seq_new (K.box) rfl ?_
  intro b3
  refine zN ?_
  refine qa ?_
  refine sn ?_
  refine K.seq ?_
  refine sr ?_
  refine K.seq_sil (K.loadA_own ag_26 rfl (K.m0) rfl) rfl ?_
  refine zN ?_
  refine K.seq_call (K.call_g cal_37 (fun F w hF hw => c37 (hH.pass hw) (hP.pass hw) (hS.pass hw) hn hm hk)) rfl ?_
  refine zN ?_
  first | refine K.seq_pure (K.Pure.eq (K.not_d rfl) (show _ = Value.bool true from congrArg Value.bool (by simp [hc]))) rfl ?_ | refine K.seq_pure (K.Pure.eq (K.not_ rfl) (show _ = Value.bool true from congrArg Value.bool (by simp [hc]))) rfl ?_
  refine zN ?_
  refine sn ?_
  refine K.cond_true rfl ?_
  refine sr ?_
  refine K.seq_call (K.call_g cal_25 (fun F w hF hw => c25 (hT.pass hw))) rfl ?_
  refine zN ?_
  refine qa ?_
  refine sn ?_
  refine K.ret ?_
  refine K.ret_then ?_
  refine K.end_ret (fun w _ => K.res_tmp rfl w) ?_
  exact K.gives rfl

set_option maxRecDepth 100000 in
set_option maxHeartbeats 1000000 in
theorem f15 {m : Mod} {A B C : Option Addr} {c d e : Nat} {bz x0 : Int} {w : World} (hH : K.Rd w A 1 K.eI m.hs) (hP : K.Rd w B 5 eN m.ps) (hS : K.Rd w C 4 eS m.ss) (hn : m.hs.length ≤ 4611686018427387904) (hm : m.ps.length ≤ 4611686018427387904) (hk : m.ss.length ≤ 4611686018427387904) (hcd : m.ps.length ≤ d) (hT : Tab w) (hbz : 0 ≤ bz ∧ bz ≤ 65535) (hc : (chk m).2.2 = 0) (hcb : (chk (highM m bz)).2.2 ≠ 0) :
    Calls Tryd.prog 15 [.agg #[.int .i64 m.W, .int .i64 m.D, .slice A m.hs.length c, .slice B m.ps.length d, .slice C m.ss.length e], .int .u16 bz, .int .u8 x0].toArray w (K.Gives (.bool true) w) := by
  have g := chk_good hc
  have hgw := g.w
  have hgd := g.d
  have hgn := g.n
  have hgk := g.k
  have hgl : m.hs.length ≤ 64 := by
    have h1 := g.l
    have := mulb (a := m.W) (b := m.D) (by omega) (by omega)
    omega
  have hnB : (highM m bz).hs.length ≤ 4611686018427387904 := by rw [high_l]; omega
  have hkB : (highM m bz).ss.length ≤ 4611686018427387904 := by rw [high_k]; omega
  
  refine K.enter (args := [.agg #[.int .i64 m.W, .int .i64 m.D, .slice A m.hs.length c, .slice B m.ps.length d, .slice C m.ss.length e], .int .u16 bz, .int .u8 x0]) Tryd.func15 rfl (n := 175) rfl ?_
  simp only [List.replicate, List.cons_append, List.nil_append]
  refine sr ?_
  refine K.seq_new (K.box) rfl ?_
  intro b3
  refine zN ?_
  refine qa ?_
  refine sn ?_
  refine K.seq ?_
  refine sr ?_
  refine K.seq_sil (K.loadA_own ag_26 rfl (K.m0) rfl) rfl ?_
  refine zN ?_
  refine K.seq_call (K.call_g cal_37 (fun F w hF hw => c37 (hH.pass hw) (hP.pass hw) (hS.pass hw) hn hm hk)) rfl ?_
  refine zN ?_
  first | refine K.seq_pure (K.Pure.eq (K.not_d rfl) (show _ = Value.bool false from congrArg Value.bool (by simp [hc]))) rfl ?_ | refine K.seq_pure (K.Pure.eq (K.not_ rfl) (show _ = Value.bool false from congrArg Value.bool (by simp [hc]))) rfl ?_
  refine zN ?_
  refine sn ?_
  refine K.cond_false rfl ?_
  refine K.skip ?_
  refine K.norm_then ?_
  refine sr ?_
  refine K.seq_sil (K.loadA_own ag_26 rfl (K.m0) rfl) rfl ?_
  refine zN ?_
  refine K.seq_new (K.alloc zr_26) rfl ?_
  intro b7
  refine zN ?_
  refine K.seq_st (K.store_all sz_26 rfl rfl rfl rfl (K.rp0)) rfl ?_
  refine zN ?_
  refine sn ?_
  refine sr ?_
  refine qp (K.fieldAddr_lit fo_26_2 rfl) ?_
  refine K.seq_st (K.store sz_22 rfl rfl rfl rfl (K.rp0)) rfl ?_
  refine zN ?_
  refine qp (K.fieldAddr_lit fo_26_4 rfl) ?_
  refine K.seq_st (K.store sz_24 rfl rfl rfl rfl (K.rp0)) rfl ?_
  refine zN ?_
  refine sn ?_
  refine K.seq ?_
  refine sr ?_
  refine K.nil_row (e := 3) (size := 1) ?_
  refine qa ?_
  refine sn ?_
  refine K.block ?_
  refine K.loopW [8] [33, 34, 35, 36, 37, 38, 39, 40, 41, 42, 43, 44, 45, 46, 47, 48, 49, 50, 51, 52] (fun vi L => ∃ (k : Nat) (Q1 : Option Addr) (q1 : Nat), vi = [.int .i64 (k : Int)] ∧ L = [K.row (.slice Q1 (hHL m bz k).length q1) 3 1 (hHL m bz k).length ((hHL m bz k).flatMap K.eI), K.blk b7 26 [.int .i64 m.W, .int .i64 m.D, .slice Q1 (hHL m bz k).length q1, .slice B m.ps.length d, .slice none 0 0], K.blk b3 26 [.int .i64 m.W, .int .i64 m.D, .slice A m.hs.length c, .slice B m.ps.length d, .slice C m.ss.length e]] ∧ k ≤ m.hs.length) (fun vi => m.hs.length - (intOf (K.nth vi 0)).toNat) ?_ ?_
  · exact ⟨0, none, 0, rfl, rfl, Nat.zero_le _⟩
  intro vi vr L hJ
  obtain ⟨k, Q1, q1, rfl, rfl, hkn⟩ := hJ
  try dsimp only [setd, setn, ev, nth, over, cl, eI, eP, eT, eN, eS, setM, setF, List.map, List.append, List.drop, List.take]
  refine K.seq ?_
  refine sr ?_
  refine qm ?_
  refine qp (K.fieldAddr_lit fo_26_2 rfl) ?_
  refine K.seq_sil (K.load1_own one_22 rfl (K.m2) rfl) rfl ?_
  refine zN ?_
  refine qp (K.len_sl sl_22 rfl) ?_
  refine qp (K.lss rfl rfl) ?_
  refine sn ?_
  refine K.cond rfl (fun ht37 => ?_) (fun ht37 => ?_)
  · try replace ht37 := of_decide_eq_true ht37
    have hkh : k < m.hs.length := by omega
    have hhb := g.h _ (K.gt_mem hkh)
    have hhl := @hHL_len m k bz
    refine K.skip ?_
    refine K.norm_then ?_
    refine K.seq ?_
    refine K.block ?_
    refine K.draw_drop 1 [13] Tryd_mixed ?_
    refine K.d_pure 0 rfl (K.fieldAddr_lit fo_26_2 rfl) (by kernel_rfl) rfl ?_
    refine zn ?_
    refine K.d_mem 1 rfl (K.load1_own one_22 rfl (K.m0) rfl) (fun _ h => K.tl h) (by kernel_rfl) (by kernel_rfl) rfl ?_
    refine zN ?_
    refine K.d_pure 2 rfl (K.fieldAddr_lit fo_26_2 rfl) (by kernel_rfl) rfl ?_
    refine zn ?_
    refine K.d_mem 3 rfl (K.load1_own one_22 rfl (K.m1) rfl) (fun _ h => K.tl h) (by kernel_rfl) (by kernel_rfl) rfl ?_
    refine zN ?_
    refine K.d_pure 4 rfl (K.move) (by kernel_rfl) rfl ?_
    refine zn ?_
    refine K.d_ix (M := []) 5 _ rfl hH.sl sl_22 rfl rfl rfl (by omega) (by kernel_rfl) rfl ?_
    intro p45 hp45
    refine zN ?_
    refine K.d_mem 6 rfl (K.load1 one_3 rfl (hp45.any)) (fun _ h => K.tl h) (by kernel_rfl) (by kernel_rfl) rfl ?_
    refine zN ?_
    refine K.d_pure 7 rfl (K.move) (by kernel_rfl) rfl ?_
    refine zn ?_
    refine K.d_pure 8 rfl (K.Pure.eq (K.conv_int ik_57 ik_3 rfl) (show _ = Value.int .i64 bz from by rw [IntWalk.i64_in _ (by omega)])) (by kernel_rfl) rfl ?_
    refine zN ?_
    refine K.d_pure 9 rfl (K.add_i64 rfl rfl (by omega)) (by kernel_rfl) rfl ?_
    refine zn ?_
    refine K.d_new 10 rfl (K.buildSlice (bs1 _)) (fun _ h => K.tl h) (by kernel_rfl) rfl ?_
    intro b50
    refine zN ?_
    refine K.d_upd 11 rfl (K.append el_22 rfl rfl (K.PtrL.own' (K.m0)) rfl rfl (by decide) (by omega) (by omega) (fun _ _ => K.rp1)) (fun _ => fun _ h => K.tl (K.tl h)) (by kernel_rfl) rfl ?_
    rintro ⟨g51, c51⟩ _
    refine zN ?_
    refine K.d_pure 12 rfl (K.fieldAddr_lit fo_26_2 rfl) (by kernel_rfl) rfl ?_
    refine zn ?_
    refine K.d_last 13 rfl (K.store sz_22 rfl rfl rfl rfl (K.rp2)) rfl (by kernel_rfl) rfl ?_
    intro _ _
    refine zN ?_
    refine K.d_done (by kernel_rfl) ?_
    refine K.norm_block ?_
    refine K.norm_then ?_
    refine K.region_lit ?_
    refine qm ?_
    refine qp (K.add_i64 rfl rfl (by omega)) ?_
    refine qa ?_
    refine K.seq_nil ?_
    have hfe : (hHL m bz (k + 1)) = (hHL m bz k) ++ [(m.hs.getD k default) + bz] := hHL_s hkh
    exact K.round_endW (L'' := [K.row (.slice (some ⟨g51, 0, none⟩) ((hHL m bz k).length + 1) c51) 3 1 ((hHL m bz k).length + 1) ((hHL m bz k).flatMap K.eI ++ [.int .i64 ((m.hs.getD k default) + bz)]), K.blk b7 26 [.int .i64 m.W, .int .i64 m.D, .slice (some ⟨g51, 0, none⟩) ((hHL m bz k).length + 1) c51, .slice B m.ps.length d, .slice none 0 0], K.blk b3 26 [.int .i64 m.W, .int .i64 m.D, .slice A m.hs.length c, .slice B m.ps.length d, .slice C m.ss.length e]]) [.int .i64 ((k : Int) + 1)] ⟨k + 1, some ⟨g51, 0, none⟩, c51, rfl, by rw [hfe, List.length_append, List.flatMap_append]; rfl, by omega⟩ (by simp [K.nth, intOf]; omega) (List.Sublist.cons _ (List.Sublist.refl _)) (by kernel_rfl)
  try replace ht37 := of_decide_eq_false ht37
  refine K.exit ?_
  refine K.exit_then ?_
  refine K.exit_then ?_
  refine K.exit_here ?_
  refine K.norm_then ?_
  refine K.seq ?_
  refine K.seq ?_
  have hkn2 : k = m.hs.length := by omega
  subst hkn2
  rw [hHL_n]
  refine K.region_lit ?_
  refine K.nil_row (e := 63) (size := 4) ?_
  refine qa ?_
  refine sn ?_
  refine K.block ?_
  refine K.loopW [9] [10, 53, 54, 55, 56, 57, 58, 59, 60, 61, 62, 63, 64, 65, 66, 67, 68, 69, 70, 71, 72, 73, 74, 75, 76, 77, 78, 79, 80, 81, 82, 83, 84] (fun vi L => ∃ (k : Nat) (Q4 : Option Addr) (q4 : Nat), vi = [.int .i64 (k : Int)] ∧ L = [K.row (.slice Q4 (hSL m bz k).length q4) 63 4 (hSL m bz k).length ((hSL m bz k).flatMap eS), K.row (.slice Q1 (highM m bz).hs.length q1) 3 1 (highM m bz).hs.length ((highM m bz).hs.flatMap K.eI), K.blk b7 26 [.int .i64 m.W, .int .i64 m.D, .slice Q1 (highM m bz).hs.length q1, .slice B m.ps.length d, .slice Q4 (hSL m bz k).length q4], K.blk b3 26 [.int .i64 m.W, .int .i64 m.D, .slice A m.hs.length c, .slice B m.ps.length d, .slice C m.ss.length e]] ∧ k ≤ m.ss.length) (fun vi => m.ss.length - (intOf (K.nth vi 0)).toNat) ?_ ?_
  · exact ⟨0, none, 0, rfl, rfl, Nat.zero_le _⟩
  intro vi vr L hJ
  obtain ⟨k, Q4, q4, rfl, rfl, hkn⟩ := hJ
  try dsimp only [setd, setn, ev, nth, over, cl, eI, eP, eT, eN, eS, setM, setF, List.map, List.append, List.drop, List.take]
  refine K.seq ?_
  refine sr ?_
  refine qm ?_
  refine qp (K.fieldAddr_lit fo_26_4 rfl) ?_
  refine K.seq_sil (K.load1_own one_24 rfl (K.m3) rfl) rfl ?_
  refine zN ?_
  refine qp (K.len_sl sl_24 rfl) ?_
  refine qp (K.lss rfl rfl) ?_
  refine sn ?_
  refine K.cond rfl (fun ht57 => ?_) (fun ht57 => ?_)
  · try replace ht57 := of_decide_eq_true ht57
    have hks : k < m.ss.length := by omega
    have hsb := g.st hks
    have hsl := @hSL_len m k bz
    refine K.skip ?_
    refine K.norm_then ?_
    refine K.seq ?_
    refine K.block ?_
    refine sr ?_
    refine qp (K.fieldAddr_lit fo_26_4 rfl) ?_
    refine K.seq_sil (K.load1_own one_24 rfl (K.m3) rfl) rfl ?_
    refine zN ?_
    refine qm ?_
    refine K.seq_ix (M := []) _ hS.sl sl_24 rfl rfl rfl (by omega) rfl ?_
    intro p63 hp63
    refine zN ?_
    refine K.seq_sil (K.loadA_p ag_63 rfl (hp63.any) rfl) rfl ?_
    refine zN ?_
    refine K.seq_new (K.alloc zr_63) rfl ?_
    intro b10
    refine zN ?_
    refine K.seq_st (K.store_all sz_63 rfl rfl rfl rfl (K.rp0)) rfl ?_
    refine zN ?_
    refine sn ?_
    refine sr ?_
    refine qp (K.fieldAddr_lit fo_63_2 rfl) ?_
    refine qp (K.fieldAddr_lit fo_61_0 rfl) ?_
    refine K.seq_sil (K.load1_own one_3 rfl (K.m0) rfl) rfl ?_
    refine zN ?_
    refine qm ?_
    refine K.seq_pure (K.Pure.eq (K.conv_int ik_57 ik_3 rfl) (show _ = Value.int .i64 bz from by rw [IntWalk.i64_in _ (by omega)])) rfl ?_
    refine zN ?_
    refine qp (K.add_i64 rfl rfl (by omega)) ?_
    refine qp (K.fieldAddr_lit fo_63_2 rfl) ?_
    refine qp (K.fieldAddr_lit fo_61_1 rfl) ?_
    refine K.seq_sil (K.load1_own one_3 rfl (K.m0) rfl) rfl ?_
    refine zN ?_
    refine qm ?_
    refine K.seq_pure (K.Pure.eq (K.conv_int ik_57 ik_3 rfl) (show _ = Value.int .i64 bz from by rw [IntWalk.i64_in _ (by omega)])) rfl ?_
    refine zN ?_
    refine qp (K.add_i64 rfl rfl (by omega)) ?_
    refine K.seq_pure (K.build (bl61h _ _)) rfl ?_
    refine zN ?_
    refine qp (K.fieldAddr_lit fo_63_2 rfl) ?_
    refine K.seq_st (K.store sz_61 rfl rfl rfl rfl (K.rp0)) rfl ?_
    refine zN ?_
    refine sn ?_
    refine K.region_lit ?_
    refine qp (K.fieldAddr_lit fo_26_4 rfl) ?_
    refine K.seq_sil (K.load1_own one_24 rfl (K.m3) rfl) rfl ?_
    refine zN ?_
    refine K.seq_sil (K.loadA_own ag_63 rfl (K.m0) rfl) rfl ?_
    refine zN ?_
    refine K.seq_new (K.buildSlice (bs24h _ _ _ _)) rfl ?_
    intro b82
    refine zN ?_
    refine K.seq_upd (K.append el_24 rfl rfl (K.PtrL.own' (K.m0)) rfl rfl (by decide) (by omega) (by omega) (fun _ _ => K.rp2)) rfl ?_
    rintro ⟨g83, c83⟩ _
    refine zN ?_
    refine qp (K.fieldAddr_lit fo_26_4 rfl) ?_
    refine K.seq_st (K.store sz_24 rfl rfl rfl rfl (K.rp4)) rfl ?_
    refine zN ?_
    refine K.seq_nil ?_
    refine K.norm_block ?_
    refine K.norm_then ?_
    refine K.region_lit ?_
    refine qm ?_
    refine qp (K.add_i64 rfl rfl (by omega)) ?_
    refine qa ?_
    refine K.seq_nil ?_
    have hfe : (hSL m bz (k + 1)) = (hSL m bz k) ++ [upS bz (m.ss.getD k default)] := hSL_s hks
    exact K.round_endW (L'' := [K.row (.slice (some ⟨g83, 0, none⟩) ((hSL m bz k).length + 1) c83) 63 4 ((hSL m bz k).length + 1) ((hSL m bz k).flatMap eS ++ [.int .i64 (m.ss.getD k default).x, .int .i64 (m.ss.getD k default).y, .int .i64 ((m.ss.getD k default).lo + bz), .int .i64 ((m.ss.getD k default).hi + bz)]), K.row (.slice Q1 (highM m bz).hs.length q1) 3 1 (highM m bz).hs.length ((highM m bz).hs.flatMap K.eI), K.blk b7 26 [.int .i64 m.W, .int .i64 m.D, .slice Q1 (highM m bz).hs.length q1, .slice B m.ps.length d, .slice (some ⟨g83, 0, none⟩) ((hSL m bz k).length + 1) c83], K.blk b3 26 [.int .i64 m.W, .int .i64 m.D, .slice A m.hs.length c, .slice B m.ps.length d, .slice C m.ss.length e]]) [.int .i64 ((k : Int) + 1)] ⟨k + 1, some ⟨g83, 0, none⟩, c83, rfl, by rw [hfe, List.length_append, List.flatMap_append]; rfl, by omega⟩ (by simp [K.nth, intOf]; omega) (List.Sublist.cons _ (List.Sublist.cons _ (List.Sublist.refl _))) (by kernel_rfl)
  try replace ht57 := of_decide_eq_false ht57
  refine K.exit ?_
  refine K.exit_then ?_
  refine K.exit_then ?_
  refine K.exit_here ?_
  refine K.norm_then ?_
  refine K.seq ?_
  refine K.seq ?_
  have hkn4 : k = m.ss.length := by omega
  subst hkn4
  rw [hSL_n]
  refine K.use_row K.m0 (fun hq4 => ?_)
  refine K.use_row K.m1 (fun hq1 => ?_)
  refine K.region_lit ?_
  refine K.seq_sil (K.loadA_own ag_26 rfl (K.m2) rfl) rfl ?_
  refine zN ?_
  refine K.seq_call (K.call_g cal_37 (fun F w hF hw => c37 (m := (highM m bz)) (A := Q1) (B := B) (C := Q4) (c := q1) (d := d) (e := q4) (K.Rd.own (e := K.eI) (xs := (highM m bz).hs) hw (hF _ (K.m1)) hq1 (fun _ => rfl) (by decide)) (hP.pass hw) (K.Rd.own (e := eS) (xs := (highM m bz).ss) hw (hF _ (K.m0)) hq4 (fun _ => rfl) (by decide)) hnB hm hkB)) rfl ?_
  refine zN ?_
  first | refine K.seq_pure (K.Pure.eq (K.not_d rfl) (show _ = Value.bool true from congrArg Value.bool (by simp [hcb]))) rfl ?_ | refine K.seq_pure (K.Pure.eq (K.not_ rfl) (show _ = Value.bool true from congrArg Value.bool (by simp [hcb]))) rfl ?_
  refine zN ?_
  refine sn ?_
  refine K.cond_true rfl ?_
  refine sr ?_
  refine K.seq_call (K.call_g cal_25 (fun F w hF hw => c25 (hT.pass hw))) rfl ?_
  refine zN ?_
  refine qa ?_
  refine sn ?_
  refine K.ret ?_
  refine K.ret_then ?_
  refine K.end_ret (fun w _ => K.res_tmp rfl w) ?_
  exact K.gives rfl

set_option maxRecDepth 100000 in
set_option maxHeartbeats 2000000 in
theorem g15 {m : Mod} {A B C : Option Addr} {c d e : Nat} {bz x0 : Int} {w : World} (hH : K.Rd w A 1 K.eI m.hs) (hP : K.Rd w B 5 eN m.ps) (hS : K.Rd w C 4 eS m.ss) (hn : m.hs.length ≤ 4611686018427387904) (hm : m.ps.length ≤ 4611686018427387904) (hk : m.ss.length ≤ 4611686018427387904) (hcd : m.ps.length ≤ d) (hT : Tab w) (hbz : 0 ≤ bz ∧ bz ≤ 65535) (h0 : 0 ≤ x0 ∧ x0 ≤ 255) (hc : (chk m).2.2 = 0) (hcb : (chk (highM m bz)).2.2 = 0) :
    Calls Tryd.prog 15 [.agg #[.int .i64 m.W, .int .i64 m.D, .slice A m.hs.length c, .slice B m.ps.length d, .slice C m.ss.length e], .int .u16 bz, .int .u8 x0].toArray w (K.Gives (.bool true) w) := by
  have g := chk_good hc
  have hgw := g.w
  have hgd := g.d
  have hgn := g.n
  have hgk := g.k
  have hgl : m.hs.length ≤ 64 := by
    have h1 := g.l
    have := mulb (a := m.W) (b := m.D) (by omega) (by omega)
    omega
  have hnB : (highM m bz).hs.length ≤ 4611686018427387904 := by rw [high_l]; omega
  have hkB : (highM m bz).ss.length ≤ 4611686018427387904 := by rw [high_k]; omega
  have hl1 := @lng_len6 m
  have hl3 : (offL m).length ≤ 1000000 := by
    obtain ⟨_, ⟨s, h⟩, _⟩ := off_law hc
    rw [h]; have := @pts_len m.ps.length s; omega
  obtain ⟨⟨hle, hll⟩, hof, hsv⟩ := high_law hc hcb
  refine K.enter (args := [.agg #[.int .i64 m.W, .int .i64 m.D, .slice A m.hs.length c, .slice B m.ps.length d, .slice C m.ss.length e], .int .u16 bz, .int .u8 x0]) Tryd.func15 rfl (n := 175) rfl ?_
  simp only [List.replicate, List.cons_append, List.nil_append]
  refine sr ?_
  refine K.seq_new (K.box) rfl ?_
  intro b3
  refine zN ?_
  refine qa ?_
  refine sn ?_
  refine K.seq ?_
  refine sr ?_
  refine K.seq_sil (K.loadA_own ag_26 rfl (K.m0) rfl) rfl ?_
  refine zN ?_
  refine K.seq_call (K.call_g cal_37 (fun F w hF hw => c37 (hH.pass hw) (hP.pass hw) (hS.pass hw) hn hm hk)) rfl ?_
  refine zN ?_
  first | refine K.seq_pure (K.Pure.eq (K.not_d rfl) (show _ = Value.bool false from congrArg Value.bool (by simp [hc]))) rfl ?_ | refine K.seq_pure (K.Pure.eq (K.not_ rfl) (show _ = Value.bool false from congrArg Value.bool (by simp [hc]))) rfl ?_
  refine zN ?_
  refine sn ?_
  refine K.cond_false rfl ?_
  refine K.skip ?_
  refine K.norm_then ?_
  refine sr ?_
  refine K.seq_sil (K.loadA_own ag_26 rfl (K.m0) rfl) rfl ?_
  refine zN ?_
  refine K.seq_new (K.alloc zr_26) rfl ?_
  intro b7
  refine zN ?_
  refine K.seq_st (K.store_all sz_26 rfl rfl rfl rfl (K.rp0)) rfl ?_
  refine zN ?_
  refine sn ?_
  refine sr ?_
  refine qp (K.fieldAddr_lit fo_26_2 rfl) ?_
  refine K.seq_st (K.store sz_22 rfl rfl rfl rfl (K.rp0)) rfl ?_
  refine zN ?_
  refine qp (K.fieldAddr_lit fo_26_4 rfl) ?_
  refine K.seq_st (K.store sz_24 rfl rfl rfl rfl (K.rp0)) rfl ?_
  refine zN ?_
  refine sn ?_
  refine K.seq ?_
  refine sr ?_
  refine K.nil_row (e := 3) (size := 1) ?_
  refine qa ?_
  refine sn ?_
  refine K.block ?_
  refine K.loopW [8] [33, 34, 35, 36, 37, 38, 39, 40, 41, 42, 43, 44, 45, 46, 47, 48, 49, 50, 51, 52] (fun vi L => ∃ (k : Nat) (Q1 : Option Addr) (q1 : Nat), vi = [.int .i64 (k : Int)] ∧ L = [K.row (.slice Q1 (hHL m bz k).length q1) 3 1 (hHL m bz k).length ((hHL m bz k).flatMap K.eI), K.blk b7 26 [.int .i64 m.W, .int .i64 m.D, .slice Q1 (hHL m bz k).length q1, .slice B m.ps.length d, .slice none 0 0], K.blk b3 26 [.int .i64 m.W, .int .i64 m.D, .slice A m.hs.length c, .slice B m.ps.length d, .slice C m.ss.length e]] ∧ k ≤ m.hs.length) (fun vi => m.hs.length - (intOf (K.nth vi 0)).toNat) ?_ ?_
  · exact ⟨0, none, 0, rfl, rfl, Nat.zero_le _⟩
  intro vi vr L hJ
  obtain ⟨k, Q1, q1, rfl, rfl, hkn⟩ := hJ
  try dsimp only [setd, setn, ev, nth, over, cl, eI, eP, eT, eN, eS, setM, setF, List.map, List.append, List.drop, List.take]
  refine K.seq ?_
  refine sr ?_
  refine qm ?_
  refine qp (K.fieldAddr_lit fo_26_2 rfl) ?_
  refine K.seq_sil (K.load1_own one_22 rfl (K.m2) rfl) rfl ?_
  refine zN ?_
  refine qp (K.len_sl sl_22 rfl) ?_
  refine qp (K.lss rfl rfl) ?_
  refine sn ?_
  refine K.cond rfl (fun ht37 => ?_) (fun ht37 => ?_)
  · try replace ht37 := of_decide_eq_true ht37
    have hkh : k < m.hs.length := by omega
    have hhb := g.h _ (K.gt_mem hkh)
    have hhl := @hHL_len m k bz
    refine K.skip ?_
    refine K.norm_then ?_
    refine K.seq ?_
    refine K.block ?_
    refine K.draw_drop 1 [13] Tryd_mixed ?_
    refine K.d_pure 0 rfl (K.fieldAddr_lit fo_26_2 rfl) (by kernel_rfl) rfl ?_
    refine zn ?_
    refine K.d_mem 1 rfl (K.load1_own one_22 rfl (K.m0) rfl) (fun _ h => K.tl h) (by kernel_rfl) (by kernel_rfl) rfl ?_
    refine zN ?_
    refine K.d_pure 2 rfl (K.fieldAddr_lit fo_26_2 rfl) (by kernel_rfl) rfl ?_
    refine zn ?_
    refine K.d_mem 3 rfl (K.load1_own one_22 rfl (K.m1) rfl) (fun _ h => K.tl h) (by kernel_rfl) (by kernel_rfl) rfl ?_
    refine zN ?_
    refine K.d_pure 4 rfl (K.move) (by kernel_rfl) rfl ?_
    refine zn ?_
    refine K.d_ix (M := []) 5 _ rfl hH.sl sl_22 rfl rfl rfl (by omega) (by kernel_rfl) rfl ?_
    intro p45 hp45
    refine zN ?_
    refine K.d_mem 6 rfl (K.load1 one_3 rfl (hp45.any)) (fun _ h => K.tl h) (by kernel_rfl) (by kernel_rfl) rfl ?_
    refine zN ?_
    refine K.d_pure 7 rfl (K.move) (by kernel_rfl) rfl ?_
    refine zn ?_
    refine K.d_pure 8 rfl (K.Pure.eq (K.conv_int ik_57 ik_3 rfl) (show _ = Value.int .i64 bz from by rw [IntWalk.i64_in _ (by omega)])) (by kernel_rfl) rfl ?_
    refine zN ?_
    refine K.d_pure 9 rfl (K.add_i64 rfl rfl (by omega)) (by kernel_rfl) rfl ?_
    refine zn ?_
    refine K.d_new 10 rfl (K.buildSlice (bs1 _)) (fun _ h => K.tl h) (by kernel_rfl) rfl ?_
    intro b50
    refine zN ?_
    refine K.d_upd 11 rfl (K.append el_22 rfl rfl (K.PtrL.own' (K.m0)) rfl rfl (by decide) (by omega) (by omega) (fun _ _ => K.rp1)) (fun _ => fun _ h => K.tl (K.tl h)) (by kernel_rfl) rfl ?_
    rintro ⟨g51, c51⟩ _
    refine zN ?_
    refine K.d_pure 12 rfl (K.fieldAddr_lit fo_26_2 rfl) (by kernel_rfl) rfl ?_
    refine zn ?_
    refine K.d_last 13 rfl (K.store sz_22 rfl rfl rfl rfl (K.rp2)) rfl (by kernel_rfl) rfl ?_
    intro _ _
    refine zN ?_
    refine K.d_done (by kernel_rfl) ?_
    refine K.norm_block ?_
    refine K.norm_then ?_
    refine K.region_lit ?_
    refine qm ?_
    refine qp (K.add_i64 rfl rfl (by omega)) ?_
    refine qa ?_
    refine K.seq_nil ?_
    have hfe : (hHL m bz (k + 1)) = (hHL m bz k) ++ [(m.hs.getD k default) + bz] := hHL_s hkh
    exact K.round_endW (L'' := [K.row (.slice (some ⟨g51, 0, none⟩) ((hHL m bz k).length + 1) c51) 3 1 ((hHL m bz k).length + 1) ((hHL m bz k).flatMap K.eI ++ [.int .i64 ((m.hs.getD k default) + bz)]), K.blk b7 26 [.int .i64 m.W, .int .i64 m.D, .slice (some ⟨g51, 0, none⟩) ((hHL m bz k).length + 1) c51, .slice B m.ps.length d, .slice none 0 0], K.blk b3 26 [.int .i64 m.W, .int .i64 m.D, .slice A m.hs.length c, .slice B m.ps.length d, .slice C m.ss.length e]]) [.int .i64 ((k : Int) + 1)] ⟨k + 1, some ⟨g51, 0, none⟩, c51, rfl, by rw [hfe, List.length_append, List.flatMap_append]; rfl, by omega⟩ (by simp [K.nth, intOf]; omega) (List.Sublist.cons _ (List.Sublist.refl _)) (by kernel_rfl)
  try replace ht37 := of_decide_eq_false ht37
  refine K.exit ?_
  refine K.exit_then ?_
  refine K.exit_then ?_
  refine K.exit_here ?_
  refine K.norm_then ?_
  refine K.seq ?_
  refine K.seq ?_
  have hkn2 : k = m.hs.length := by omega
  subst hkn2
  rw [hHL_n]
  refine K.region_lit ?_
  refine K.nil_row (e := 63) (size := 4) ?_
  refine qa ?_
  refine sn ?_
  refine K.block ?_
  refine K.loopW [9] [10, 53, 54, 55, 56, 57, 58, 59, 60, 61, 62, 63, 64, 65, 66, 67, 68, 69, 70, 71, 72, 73, 74, 75, 76, 77, 78, 79, 80, 81, 82, 83, 84] (fun vi L => ∃ (k : Nat) (Q4 : Option Addr) (q4 : Nat), vi = [.int .i64 (k : Int)] ∧ L = [K.row (.slice Q4 (hSL m bz k).length q4) 63 4 (hSL m bz k).length ((hSL m bz k).flatMap eS), K.row (.slice Q1 (highM m bz).hs.length q1) 3 1 (highM m bz).hs.length ((highM m bz).hs.flatMap K.eI), K.blk b7 26 [.int .i64 m.W, .int .i64 m.D, .slice Q1 (highM m bz).hs.length q1, .slice B m.ps.length d, .slice Q4 (hSL m bz k).length q4], K.blk b3 26 [.int .i64 m.W, .int .i64 m.D, .slice A m.hs.length c, .slice B m.ps.length d, .slice C m.ss.length e]] ∧ k ≤ m.ss.length) (fun vi => m.ss.length - (intOf (K.nth vi 0)).toNat) ?_ ?_
  · exact ⟨0, none, 0, rfl, rfl, Nat.zero_le _⟩
  intro vi vr L hJ
  obtain ⟨k, Q4, q4, rfl, rfl, hkn⟩ := hJ
  try dsimp only [setd, setn, ev, nth, over, cl, eI, eP, eT, eN, eS, setM, setF, List.map, List.append, List.drop, List.take]
  refine K.seq ?_
  refine sr ?_
  refine qm ?_
  refine qp (K.fieldAddr_lit fo_26_4 rfl) ?_
  refine K.seq_sil (K.load1_own one_24 rfl (K.m3) rfl) rfl ?_
  refine zN ?_
  refine qp (K.len_sl sl_24 rfl) ?_
  refine qp (K.lss rfl rfl) ?_
  refine sn ?_
  refine K.cond rfl (fun ht57 => ?_) (fun ht57 => ?_)
  · try replace ht57 := of_decide_eq_true ht57
    have hks : k < m.ss.length := by omega
    have hsb := g.st hks
    have hsl := @hSL_len m k bz
    refine K.skip ?_
    refine K.norm_then ?_
    refine K.seq ?_
    refine K.block ?_
    refine sr ?_
    refine qp (K.fieldAddr_lit fo_26_4 rfl) ?_
    refine K.seq_sil (K.load1_own one_24 rfl (K.m3) rfl) rfl ?_
    refine zN ?_
    refine qm ?_
    refine K.seq_ix (M := []) _ hS.sl sl_24 rfl rfl rfl (by omega) rfl ?_
    intro p63 hp63
    refine zN ?_
    refine K.seq_sil (K.loadA_p ag_63 rfl (hp63.any) rfl) rfl ?_
    refine zN ?_
    refine K.seq_new (K.alloc zr_63) rfl ?_
    intro b10
    refine zN ?_
    refine K.seq_st (K.store_all sz_63 rfl rfl rfl rfl (K.rp0)) rfl ?_
    refine zN ?_
    refine sn ?_
    refine sr ?_
    refine qp (K.fieldAddr_lit fo_63_2 rfl) ?_
    refine qp (K.fieldAddr_lit fo_61_0 rfl) ?_
    refine K.seq_sil (K.load1_own one_3 rfl (K.m0) rfl) rfl ?_
    refine zN ?_
    refine qm ?_
    refine K.seq_pure (K.Pure.eq (K.conv_int ik_57 ik_3 rfl) (show _ = Value.int .i64 bz from by rw [IntWalk.i64_in _ (by omega)])) rfl ?_
    refine zN ?_
    refine qp (K.add_i64 rfl rfl (by omega)) ?_
    refine qp (K.fieldAddr_lit fo_63_2 rfl) ?_
    refine qp (K.fieldAddr_lit fo_61_1 rfl) ?_
    refine K.seq_sil (K.load1_own one_3 rfl (K.m0) rfl) rfl ?_
    refine zN ?_
    refine qm ?_
    refine K.seq_pure (K.Pure.eq (K.conv_int ik_57 ik_3 rfl) (show _ = Value.int .i64 bz from by rw [IntWalk.i64_in _ (by omega)])) rfl ?_
    refine zN ?_
    refine qp (K.add_i64 rfl rfl (by omega)) ?_
    refine K.seq_pure (K.build (bl61h _ _)) rfl ?_
    refine zN ?_
    refine qp (K.fieldAddr_lit fo_63_2 rfl) ?_
    refine K.seq_st (K.store sz_61 rfl rfl rfl rfl (K.rp0)) rfl ?_
    refine zN ?_
    refine sn ?_
    refine K.region_lit ?_
    refine qp (K.fieldAddr_lit fo_26_4 rfl) ?_
    refine K.seq_sil (K.load1_own one_24 rfl (K.m3) rfl) rfl ?_
    refine zN ?_
    refine K.seq_sil (K.loadA_own ag_63 rfl (K.m0) rfl) rfl ?_
    refine zN ?_
    refine K.seq_new (K.buildSlice (bs24h _ _ _ _)) rfl ?_
    intro b82
    refine zN ?_
    refine K.seq_upd (K.append el_24 rfl rfl (K.PtrL.own' (K.m0)) rfl rfl (by decide) (by omega) (by omega) (fun _ _ => K.rp2)) rfl ?_
    rintro ⟨g83, c83⟩ _
    refine zN ?_
    refine qp (K.fieldAddr_lit fo_26_4 rfl) ?_
    refine K.seq_st (K.store sz_24 rfl rfl rfl rfl (K.rp4)) rfl ?_
    refine zN ?_
    refine K.seq_nil ?_
    refine K.norm_block ?_
    refine K.norm_then ?_
    refine K.region_lit ?_
    refine qm ?_
    refine qp (K.add_i64 rfl rfl (by omega)) ?_
    refine qa ?_
    refine K.seq_nil ?_
    have hfe : (hSL m bz (k + 1)) = (hSL m bz k) ++ [upS bz (m.ss.getD k default)] := hSL_s hks
    exact K.round_endW (L'' := [K.row (.slice (some ⟨g83, 0, none⟩) ((hSL m bz k).length + 1) c83) 63 4 ((hSL m bz k).length + 1) ((hSL m bz k).flatMap eS ++ [.int .i64 (m.ss.getD k default).x, .int .i64 (m.ss.getD k default).y, .int .i64 ((m.ss.getD k default).lo + bz), .int .i64 ((m.ss.getD k default).hi + bz)]), K.row (.slice Q1 (highM m bz).hs.length q1) 3 1 (highM m bz).hs.length ((highM m bz).hs.flatMap K.eI), K.blk b7 26 [.int .i64 m.W, .int .i64 m.D, .slice Q1 (highM m bz).hs.length q1, .slice B m.ps.length d, .slice (some ⟨g83, 0, none⟩) ((hSL m bz k).length + 1) c83], K.blk b3 26 [.int .i64 m.W, .int .i64 m.D, .slice A m.hs.length c, .slice B m.ps.length d, .slice C m.ss.length e]]) [.int .i64 ((k : Int) + 1)] ⟨k + 1, some ⟨g83, 0, none⟩, c83, rfl, by rw [hfe, List.length_append, List.flatMap_append]; rfl, by omega⟩ (by simp [K.nth, intOf]; omega) (List.Sublist.cons _ (List.Sublist.cons _ (List.Sublist.refl _))) (by kernel_rfl)
  try replace ht57 := of_decide_eq_false ht57
  refine K.exit ?_
  refine K.exit_then ?_
  refine K.exit_then ?_
  refine K.exit_here ?_
  refine K.norm_then ?_
  refine K.seq ?_
  refine K.seq ?_
  have hkn4 : k = m.ss.length := by omega
  subst hkn4
  rw [hSL_n]
  refine K.use_row K.m0 (fun hq4 => ?_)
  refine K.use_row K.m1 (fun hq1 => ?_)
  refine K.region_lit ?_
  refine K.seq_sil (K.loadA_own ag_26 rfl (K.m2) rfl) rfl ?_
  refine zN ?_
  refine K.seq_call (K.call_g cal_37 (fun F w hF hw => c37 (m := (highM m bz)) (A := Q1) (B := B) (C := Q4) (c := q1) (d := d) (e := q4) (K.Rd.own (e := K.eI) (xs := (highM m bz).hs) hw (hF _ (K.m1)) hq1 (fun _ => rfl) (by decide)) (hP.pass hw) (K.Rd.own (e := eS) (xs := (highM m bz).ss) hw (hF _ (K.m0)) hq4 (fun _ => rfl) (by decide)) hnB hm hkB)) rfl ?_
  refine zN ?_
  first | refine K.seq_pure (K.Pure.eq (K.not_d rfl) (show _ = Value.bool false from congrArg Value.bool (by simp [hcb]))) rfl ?_ | refine K.seq_pure (K.Pure.eq (K.not_ rfl) (show _ = Value.bool false from congrArg Value.bool (by simp [hcb]))) rfl ?_
  refine zN ?_
  refine sn ?_
  refine K.cond_false rfl ?_
  refine K.skip ?_
  refine K.norm_then ?_
  refine sr ?_
  refine K.seq_sil (K.loadA_own ag_26 rfl (K.m3) rfl) rfl ?_
  refine zN ?_
  refine K.seq_loud (K.call_f cal_26 (fun F w hF hw => c26 (hH.pass hw) (hP.pass hw) (hS.pass hw) hn hm hk hcd)) rfl ?_
  rintro ⟨A1, a1⟩ hqa
  refine zN ?_
  refine qm ?_
  refine qx ?_
  refine qx ?_
  iterate 2 refine qa ?_
  refine sn ?_
  refine sr ?_
  refine K.seq_sil (K.loadA_own ag_26 rfl (K.m3) rfl) rfl ?_
  refine zN ?_
  refine K.seq_loud (K.call_f cal_26 (fun F w hF hw => (by have hg := c26 (m := (highM m bz)) (A := Q1) (B := B) (C := Q4) (c := q1) (d := d) (e := q4) (K.Rd.own (e := K.eI) (xs := (highM m bz).hs) hw (hF _ (K.m2)) hq1 (fun _ => rfl) (by decide)) (hP.pass hw) (K.Rd.own (e := eS) (xs := (highM m bz).ss) hw (hF _ (K.m1)) hq4 (fun _ => rfl) (by decide)) hnB hm hkB hcd; rw [hle, hll] at hg; exact hg))) rfl ?_
  rintro ⟨A2, a2⟩ hqb
  refine zN ?_
  refine qm ?_
  refine qx ?_
  refine qx ?_
  iterate 2 refine qa ?_
  refine sn ?_
  refine sr ?_
  refine K.seq_sil (K.loadA_own ag_26 rfl (K.m5) rfl) rfl ?_
  refine zN ?_
  refine K.seq_loud (K.call_f cal_34 (fun F w hF hw => c34 (hH.pass hw) (hP.pass hw) (hS.pass hw) hn hm hk hcd (hT.pass hw))) rfl ?_
  rintro ⟨A3, a3⟩ hqc
  refine zN ?_
  refine qm ?_
  refine qx ?_
  refine qx ?_
  iterate 2 refine qa ?_
  refine sn ?_
  refine sr ?_
  refine K.seq_sil (K.loadA_own ag_26 rfl (K.m5) rfl) rfl ?_
  refine zN ?_
  refine K.seq_loud (K.call_f cal_34 (fun F w hF hw => (by have hg := c34 (m := (highM m bz)) (A := Q1) (B := B) (C := Q4) (c := q1) (d := d) (e := q4) (K.Rd.own (e := K.eI) (xs := (highM m bz).hs) hw (hF _ (K.m4)) hq1 (fun _ => rfl) (by decide)) (hP.pass hw) (K.Rd.own (e := eS) (xs := (highM m bz).ss) hw (hF _ (K.m3)) hq4 (fun _ => rfl) (by decide)) hnB hm hkB hcd (hT.pass hw); rw [hof] at hg; exact hg))) rfl ?_
  rintro ⟨A4, a4⟩ hqd
  refine zN ?_
  refine qm ?_
  refine qx ?_
  refine qx ?_
  iterate 2 refine qa ?_
  refine sn ?_
  refine K.seq ?_
  refine sr ?_
  iterate 2 refine qm ?_
  refine K.seq_call (K.call_g cal_20 (fun F w hF hw => (by have hA := (K.Rd.own (e := K.eI) (xs := (lngL m)) hw (hF _ (K.m3)) hqa (fun _ => rfl) (by decide)); have hB := (K.Rd.own (e := K.eI) (xs := (lngL m)) hw (hF _ (K.m2)) hqb (fun _ => rfl) (by decide)); exact c20t (xs := (lngL m)) hA hB hl1))) rfl ?_
  refine zN ?_
  first | refine K.seq_pure (K.Pure.eq (K.not_d rfl) (show _ = Value.bool false from rfl)) rfl ?_ | refine K.seq_pure (K.Pure.eq (K.not_ rfl) (show _ = Value.bool false from rfl)) rfl ?_
  refine zN ?_
  iterate 3 refine qm ?_
  refine qp (K.Pure.eq (K.neq rfl rfl) (show _ = Value.bool false from congrArg Value.bool (by simp))) ?_
  refine qp (K.pick_f rfl) ?_
  iterate 3 refine qm ?_
  refine K.seq_call (K.call_g cal_20 (fun F w hF hw => (by have hA := (K.Rd.own (e := K.eI) (xs := (offL m)) hw (hF _ (K.m1)) hqc (fun _ => rfl) (by decide)); have hB := (K.Rd.own (e := K.eI) (xs := (offL m)) hw (hF _ (K.m0)) hqd (fun _ => rfl) (by decide)); exact c20t (xs := (offL m)) hA hB hl3))) rfl ?_
  refine zN ?_
  first | refine K.seq_pure (K.Pure.eq (K.not_d rfl) (show _ = Value.bool false from rfl)) rfl ?_ | refine K.seq_pure (K.Pure.eq (K.not_ rfl) (show _ = Value.bool false from rfl)) rfl ?_
  refine zN ?_
  refine qp (K.pick_f rfl) ?_
  iterate 2 refine qm ?_
  refine qp (K.Pure.eq (K.neq rfl rfl) (show _ = Value.bool false from congrArg Value.bool (by simp [hc]))) ?_
  refine qp (K.pick_f rfl) ?_
  iterate 3 refine qm ?_
  refine qp (K.Pure.eq (K.neq rfl rfl) (show _ = Value.bool false from congrArg Value.bool (by simp [hc, hcb]))) ?_
  refine qp (K.pick_f rfl) ?_
  refine sn ?_
  refine K.cond_false rfl ?_
  refine K.skip ?_
  refine K.norm_then ?_
  refine K.seq ?_
  refine sr ?_
  refine qp (K.fieldAddr_lit fo_26_4 rfl) ?_
  refine K.seq_sil (K.load1_own one_24 rfl (K.m7) rfl) rfl ?_
  refine zN ?_
  refine qp (K.len_sl sl_24 rfl) ?_
  refine qp (K.eql rfl rfl) ?_
  refine sn ?_
  refine K.cond rfl (fun ht136 => ?_) (fun ht136 => ?_)
  · try replace ht136 := of_decide_eq_true ht136
    refine sr ?_
    refine K.seq_call (K.call_g cal_25 (fun F w hF hw => c25 (hT.pass hw))) rfl ?_
    refine zN ?_
    refine qa ?_
    refine sn ?_
    refine K.ret ?_
    refine K.ret_then ?_
    refine K.end_ret (fun w _ => K.res_tmp rfl w) ?_
    exact K.gives rfl
  try replace ht136 := of_decide_eq_false ht136
  obtain ⟨s, hse⟩ := Int.eq_ofNat_of_zero_le (Int.emod_nonneg x0 (b := (m.ss.length : Int)) (by omega))
  have hsl := Int.emod_lt_of_pos x0 (b := (m.ss.length : Int)) (by omega)
  have hs : s < m.ss.length := by omega
  have hse0 := seen_0 hc hs
  have hse1 : seenE (highM m bz) s = 0 := seen_0 (m := highM m bz) hcb (by rw [high_k]; exact hs)
  have hl4 := sure_len6 (m := m) (s := s)
  have hl5 := may_len6 (m := m) (s := s)
  refine K.skip ?_
  refine K.norm_then ?_
  refine sr ?_
  refine qm ?_
  refine K.seq_pure (K.Pure.eq (K.conv_int ik_5 ik_3 rfl) (show _ = Value.int .i64 x0 from by rw [IntWalk.i64_in _ (by omega)])) rfl ?_
  refine zN ?_
  refine qp (K.fieldAddr_lit fo_26_4 rfl) ?_
  refine K.seq_sil (K.load1_own one_24 rfl (K.m7) rfl) rfl ?_
  refine zN ?_
  refine qp (K.len_sl sl_24 rfl) ?_
  refine qp (K.Pure.eq (K.rem_i64 rfl rfl (by omega) (by omega)) (show _ = Value.int .i64 (s : Int) from by rw [hse])) ?_
  refine qa ?_
  refine sn ?_
  refine sr ?_
  refine K.seq_sil (K.loadA_own ag_26 rfl (K.m7) rfl) rfl ?_
  refine zN ?_
  refine qm ?_
  refine K.seq_loud (K.call_f cal_21 (fun F w hF hw => c21 (hH.pass hw) (hP.pass hw) (hS.pass hw) hn hm hk hcd (hT.pass hw))) rfl ?_
  rintro ⟨⟨A9, a9⟩, ⟨A10, a10⟩⟩ ⟨hqi, hqj⟩
  refine zN ?_
  refine qm ?_
  refine qx ?_
  refine qx ?_
  refine qx ?_
  iterate 3 refine qa ?_
  refine sn ?_
  refine sr ?_
  refine K.seq_sil (K.loadA_own ag_26 rfl (K.m8) rfl) rfl ?_
  refine zN ?_
  refine qm ?_
  refine K.seq_loud (K.call_f cal_21 (fun F w hF hw => (by have hg := c21 (s := (s : Int)) (m := (highM m bz)) (A := Q1) (B := B) (C := Q4) (c := q1) (d := d) (e := q4) (K.Rd.own (e := K.eI) (xs := (highM m bz).hs) hw (hF _ (K.m7)) hq1 (fun _ => rfl) (by decide)) (hP.pass hw) (K.Rd.own (e := eS) (xs := (highM m bz).ss) hw (hF _ (K.m6)) hq4 (fun _ => rfl) (by decide)) hnB hm hkB hcd (hT.pass hw); rw [(hsv s hs).1, (hsv s hs).2] at hg; exact hg))) rfl ?_
  rintro ⟨⟨A11, a11⟩, ⟨A12, a12⟩⟩ ⟨hqk, hql⟩
  refine zN ?_
  refine qm ?_
  refine qx ?_
  refine qx ?_
  refine qx ?_
  iterate 3 refine qa ?_
  refine sn ?_
  refine sr ?_
  iterate 2 refine qm ?_
  refine K.seq_call (K.call_g cal_20 (fun F w hF hw => (by have hA := (K.Rd.own (e := K.eI) (xs := (sureL m s)) hw (hF _ (K.m3)) hqi (fun _ => rfl) (by decide)); have hB := (K.Rd.own (e := K.eI) (xs := (sureL m s)) hw (hF _ (K.m1)) hqk (fun _ => rfl) (by decide)); exact c20t (xs := (sureL m s)) hA hB hl4))) rfl ?_
  refine zN ?_
  iterate 3 refine qm ?_
  refine K.seq_call (K.call_g cal_20 (fun F w hF hw => (by have hA := (K.Rd.own (e := K.eI) (xs := (mayL m s)) hw (hF _ (K.m2)) hqj (fun _ => rfl) (by decide)); have hB := (K.Rd.own (e := K.eI) (xs := (mayL m s)) hw (hF _ (K.m0)) hql (fun _ => rfl) (by decide)); exact c20t (xs := (mayL m s)) hA hB hl5))) rfl ?_
  refine zN ?_
  refine qp (K.pick_t rfl) ?_
  iterate 2 refine qm ?_
  refine qp (K.Pure.eq (K.eql rfl rfl) (show _ = Value.bool true from congrArg Value.bool (by simp [hse0]))) ?_
  refine qp (K.pick_t rfl) ?_
  iterate 3 refine qm ?_
  refine qp (K.Pure.eq (K.eql rfl rfl) (show _ = Value.bool true from congrArg Value.bool (by simp [hse0, hse1]))) ?_
  refine qp (K.pick_t rfl) ?_
  refine qm ?_
  refine K.seq_call (K.call_g cal_25 (fun F w hF hw => c25 (hT.pass hw))) rfl ?_
  refine zN ?_
  refine qp (K.pick_t rfl) ?_
  refine qa ?_
  refine sn ?_
  refine K.ret ?_
  refine K.end_ret (fun w _ => K.res_tmp rfl w) ?_
  exact K.gives rfl

theorem c15 {m : Mod} {A B C : Option Addr} {c d e : Nat} {bz x0 : Int} {w : World} (hH : K.Rd w A 1 K.eI m.hs) (hP : K.Rd w B 5 eN m.ps) (hS : K.Rd w C 4 eS m.ss) (hn : m.hs.length ≤ 4611686018427387904) (hm : m.ps.length ≤ 4611686018427387904) (hk : m.ss.length ≤ 4611686018427387904) (hcd : m.ps.length ≤ d) (hT : Tab w) (hbz : 0 ≤ bz ∧ bz ≤ 65535) (h0 : 0 ≤ x0 ∧ x0 ≤ 255) : Calls Tryd.prog 15 [.agg #[.int .i64 m.W, .int .i64 m.D, .slice A m.hs.length c, .slice B m.ps.length d, .slice C m.ss.length e], .int .u16 bz, .int .u8 x0].toArray w (K.Gives (.bool true) w) := by
  by_cases hc : (chk m).2.2 = 0
  · by_cases hcb : (chk (highM m bz)).2.2 = 0
    · exact g15 hH hP hS hn hm hk hcd hT hbz h0 hc hcb
    · exact f15 hH hP hS hn hm hk hcd hT hbz hc hcb
  · exact e15 hH hP hS hn hm hk hcd hT hc


end Go.Proofs.YthkgnhcknkjgdaaDoor
