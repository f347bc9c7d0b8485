/-
  Walks of the program's functions, printed by program: what each returns.
  Conditions stand in each theorem.
-/
import Derived.WalkArith
import Derived.Laws.Closers25b
import Derived.Test.YthkgnhcknkjgdaaDoorWl
import Derived.Test.YthkgnhcknkjgdaaDoorWs
set_option linter.unusedSimpArgs false
set_option linter.unusedVariables false
namespace Go.Proofs.YthkgnhcknkjgdaaDoor
open Go.RowKit Go
open Go.K (setd setn ev nth over cl eI eP eT setM setF)
attribute [local irreducible] K.blk K.row

theorem Tab.later {w w1 : World} (h : Tab w) (hb : Below w.heap.size w w1) : Tab w1 := ⟨Nat.lt_of_lt_of_le h.1 hb.size, K.PtrL.old (Nat.lt_of_lt_of_le h.1 hb.size) (fun j u hu => (hb.cell (p := (⟨1, 0, none⟩ : Addr).add j) (by rw [K.addr_block]; exact h.1)).trans (h.2 [] w (by simp) (K.St.start w) j u hu))⟩
theorem Good.k6 {m : Mod} (g : Good m) : m.ss.length ≤ 6 := by have := g.k; omega

theorem cov_next {m : Mod} {pts : List Int} {k : Nat} (hn : m.ps.length ≤ 6) (hk : k < pts.length) : orI (setN (fun i => (pts.take k).any fun s => sureB m s.toNat i) m.ps.length) (setN (sureB m (pts.getD k default).toNat) m.ps.length) = setN (fun i => (pts.take (k + 1)).any fun s => sureB m s.toNat i) m.ps.length := by
  rw [or_set hn]
  refine setN_congr (fun i hi => ?_)
  rw [any_take hk]
theorem pts_in {n s : Nat} {x : Int} (h : x ∈ ptsS n s) : 0 ≤ x ∧ x < n := by
  obtain ⟨i, h1, _, rfl⟩ := mem_sel.1 h
  omega


set_option maxRecDepth 100000 in
theorem c83 {m : Mod} {A B C : Option Addr} {c d e : Nat} {s q : Nat} {Q : Option Addr} {p1 p2 : Addr} {w : World} (hT : Tab w) (h1 : K.PtrL w [] p1 [.slice Q (sureZ m m.ss.length).length q]) (h2 : K.PtrL w [] p2 [.int .i64 m.W, .int .i64 m.D, .slice A m.hs.length c, .slice B m.ps.length d, .slice C m.ss.length e]) (hZ : K.Rd w Q 1 K.eI (sureZ m m.ss.length)) (g : Good m) (hs : s < 2 ^ m.ss.length) :
    Calls Tryd.prog 83 [.int .i64 (s : Int), .pointer (some p1), .pointer (some p2)].toArray w (K.Gives (.bool (covB m (ptsS m.ss.length s))) w) := by
  have hgn := g.n
  have hgk := g.k
  have hpb := pow_bd (n := m.ss.length) (by omega)
  obtain ⟨_, hin, _⟩ := lst_spec (n := m.ss.length) (by omega)
  have hpl := pts_len (n := m.ss.length) (s := s)
  refine K.enter (args := [.int .i64 (s : Int), .pointer (some p1), .pointer (some p2)]) Tryd.func83 rfl (n := 26) rfl ?_
  simp only [List.replicate, List.cons_append, List.nil_append]
  refine sr ?_
  refine qa ?_
  refine sn ?_
  refine sr ?_
  refine qa ?_
  refine sn ?_
  refine K.seq ?_
  refine sr ?_
  refine qm ?_
  refine K.seq_loud (K.call_f cal_68 (fun F w hF hw => (by have hh := c68 (hT.pass hw) (s := (s : Int)) (by omega); rw [(hin s hs).2.2] at hh; exact hh))) rfl ?_
  rintro ⟨Q2, q2⟩ hq2
  refine zN ?_
  refine qp (K.len_sl sl_22 rfl) ?_
  refine qm ?_
  refine sn ?_
  refine K.block ?_
  refine K.loopW [5, 11] [7, 12, 13, 14, 15, 16, 17, 18, 19, 20, 21] (fun vi L => ∃ k : Nat, vi = [.int .i64 (setN (fun i => ((ptsS m.ss.length s).take k).any fun s => sureB m s.toNat i) m.ps.length), .int .i64 (k : Int)] ∧ L = [K.row (.slice Q2 (ptsS m.ss.length s).length q2) 3 1 (ptsS m.ss.length s).length ((ptsS m.ss.length s).flatMap K.eI)] ∧ k ≤ (ptsS m.ss.length s).length) (fun vi => (ptsS m.ss.length s).length - (intOf (K.nth vi 1)).toNat) ?_ ?_
  · exact ⟨0, by rw [show (fun i => (List.take 0 (ptsS m.ss.length s)).any fun s => sureB m s.toNat i) = fun _ => false from rfl, setN_none]; rfl, rfl, Nat.zero_le _⟩
  intro vi vr L hJ
  obtain ⟨k, rfl, rfl, hkn⟩ := hJ
  try dsimp only [setd, setn, ev, nth, over, cl, eI, eP, eT, eN, eS, setM, setF, List.map, List.append, List.drop, List.take]
  refine sr ?_
  refine qp (K.lss rfl rfl) ?_
  refine sn ?_
  refine K.seq ?_
  refine K.cond rfl (fun ht12 => ?_) (fun ht12 => ?_)
  · try replace ht12 := of_decide_eq_true ht12
    have hk : k < (ptsS m.ss.length s).length := by omega
    refine K.skip ?_
    refine K.norm_then ?_
    refine K.seq ?_
    refine K.block ?_
    refine sr ?_
    refine K.seq_ix (M := [K.row (.slice Q2 (ptsS m.ss.length s).length q2) 3 1 (ptsS m.ss.length s).length ((ptsS m.ss.length s).flatMap K.eI)]) _ (K.Sl.own hq2 (fun _ => rfl)) sl_22 rfl rfl rfl (by omega) rfl ?_
    intro p13 hp13
    refine zN ?_
    refine K.seq_sil (K.load1 one_3 rfl ((hp13.at1 K.m0))) rfl ?_
    refine zN ?_
    refine qa ?_
    refine sn ?_
    refine K.region_lit ?_
    refine qm ?_
    refine K.seq_sil (K.load1 one_22 rfl (h1.any)) rfl ?_
    refine zN ?_
    refine qm ?_
    refine K.seq_ix (M := []) (((ptsS m.ss.length s).getD k default).toNat) hZ.sl sl_22 rfl rfl (by rw [Int.toNat_of_nonneg (pts_in (K.gt_mem hk)).1]) (by rw [sureZ_len]; have := pts_in (n := m.ss.length) (s := s) (K.gt_mem hk); omega) rfl ?_
    intro p18 hp18
    refine zN ?_
    refine K.seq_sil (K.load1 one_3 rfl (hp18.any)) rfl ?_
    refine zN ?_
    rw [sureZ_at (m := m) (k := m.ss.length) (s := ((ptsS m.ss.length s).getD k default).toNat) (by have := pts_in (n := m.ss.length) (s := s) (K.gt_mem hk); omega)]
    refine zN ?_
    refine qp (K.Pure.eq (K.or_int rfl rfl) (show _ = Value.int .i64 (setN (fun i => ((ptsS m.ss.length s).take (k + 1)).any fun s => sureB m s.toNat i) m.ps.length) from by rw [← cov_next g.n hk]; rfl)) ?_
    refine qa ?_
    refine K.seq_nil ?_
    refine K.norm_block ?_
    refine K.norm_then ?_
    refine K.region_lit ?_
    refine qp (K.add_i64 rfl rfl (by omega)) ?_
    refine qm ?_
    refine K.seq_nil ?_
    exact K.round_endW (L'' := [K.row (.slice Q2 (ptsS m.ss.length s).length q2) 3 1 (ptsS m.ss.length s).length ((ptsS m.ss.length s).flatMap K.eI)]) [.int .i64 (setN (fun i => ((ptsS m.ss.length s).take (k + 1)).any fun s => sureB m s.toNat i) m.ps.length), .int .i64 ((k : Int) + 1)] ⟨k + 1, rfl, rfl, by omega⟩ (by simp [K.nth, intOf]; omega) (List.Sublist.refl _) (by kernel_rfl)
  try replace ht12 := of_decide_eq_false ht12
  refine K.exit ?_
  refine K.exit_then ?_
  refine K.exit_then ?_
  refine K.exit_here ?_
  refine K.norm_then ?_
  refine K.seq ?_
  have hpb2 := pow_bd g.n
  have hp0 : 0 ≤ ((2 ^ m.ps.length : Nat) : Int) := Int.natCast_nonneg _
  refine K.region_lit ?_
  refine qm ?_
  refine qp (K.fieldAddr fo_26_3 rfl) ?_
  refine K.seq_sil (K.load1 one_23 rfl ((K.PtrL.fld h2 (k := 3)).any)) rfl ?_
  refine zN ?_
  refine qp (K.len_sl sl_23 rfl) ?_
  refine qp (K.Pure.eq (K.shl_int rfl rfl (by omega)) (show _ = Value.int .i64 ((2 ^ m.ps.length : Nat) : Int) from by rw [shl_val g.n])) ?_
  refine qp (K.sub_i64 rfl rfl (by omega)) ?_
  refine qp (K.eql rfl rfl) ?_
  refine qa ?_
  refine sn ?_
  refine K.ret ?_
  refine K.end_ret (fun w _ => K.res_tmp rfl w) ?_
  have e0 : (ptsS m.ss.length s).take k = (ptsS m.ss.length s) := List.take_of_length_le (by omega)
  exact K.gives_b rfl (by rw [e0, set_full g.n]; rfl)

set_option maxRecDepth 100000 in
theorem e32 {m : Mod} {A B C : Option Addr} {c d e : Nat} {w : World} (hH : K.Rd w A 1 K.eI m.hs) (hP : K.Rd w B 5 eN m.ps) (hS : K.Rd w C 4 eS m.ss) (hn : m.hs.length ≤ 4611686018427387904) (hm : m.ps.length ≤ 4611686018427387904) (hk : m.ss.length ≤ 4611686018427387904) (hcd : m.ps.length ≤ d) (hc : (chk m).2.2 ≠ 0) :
    Calls Tryd.prog 32 [.agg #[.int .i64 m.W, .int .i64 m.D, .slice A m.hs.length c, .slice B m.ps.length d, .slice C m.ss.length e]].toArray w (K.RetSE 3 1 K.eI (fewL m) (fewE m) w) := by
  refine K.enter (args := [.agg #[.int .i64 m.W, .int .i64 m.D, .slice A m.hs.length c, .slice B m.ps.length d, .slice C m.ss.length e]]) Tryd.func32 rfl (n := 53) rfl ?_
  simp only [List.replicate, List.cons_append, List.nil_append]
  refine sr ?_
  refine K.seq_new (K.box) rfl ?_
  intro b1
  refine zN ?_
  iterate 2 refine qa ?_
  refine sn ?_
  refine sr ?_
  refine K.seq_sil (K.loadA_own ag_26 rfl (K.m0) rfl) rfl ?_
  refine zN ?_
  refine K.seq_call (K.call_g cal_67 (fun F w hF hw => e67 (hH.pass hw) (hP.pass hw) (hS.pass hw) hn hm hk hcd hc)) rfl ?_
  refine zN ?_
  refine qm ?_
  refine qx ?_
  refine qx ?_
  iterate 2 refine qa ?_
  refine sn ?_
  refine K.seq ?_
  refine sr ?_
  refine qm ?_
  refine qp (K.neq rfl rfl) ?_
  refine sn ?_
  refine K.cond_true (by exact congrArg Value.bool (decide_eq_true hc)) ?_
  refine sr ?_
  refine qm ?_
  iterate 2 refine qa ?_
  refine sn ?_
  refine K.ret ?_
  refine K.ret_then ?_
  refine K.end_ret (fun w _ => K.res_tmp2 rfl w) ?_
  exact K.rets_se0 (by unfold fewL; rw [if_pos hc]) (by unfold fewE; rw [if_pos hc]) rfl

set_option maxRecDepth 100000 in
set_option maxHeartbeats 1000000 in
theorem g32 {m : Mod} {A B C : Option Addr} {c d e : Nat} {w : World} (hH : K.Rd w A 1 K.eI m.hs) (hP : K.Rd w B 5 eN m.ps) (hS : K.Rd w C 4 eS m.ss) (hn : m.hs.length ≤ 4611686018427387904) (hm : m.ps.length ≤ 4611686018427387904) (hk : m.ss.length ≤ 4611686018427387904) (hcd : m.ps.length ≤ d) (hT : Tab w) (hc : (chk m).2.2 = 0) :
    Calls Tryd.prog 32 [.agg #[.int .i64 m.W, .int .i64 m.D, .slice A m.hs.length c, .slice B m.ps.length d, .slice C m.ss.length e]].toArray w (K.RetSE 3 1 K.eI (fewL m) (fewE m) w) := by
  have g : Good m := chk_good hc
  have hgn := g.n
  have hgk := g.k
  refine K.enter (args := [.agg #[.int .i64 m.W, .int .i64 m.D, .slice A m.hs.length c, .slice B m.ps.length d, .slice C m.ss.length e]]) Tryd.func32 rfl (n := 53) rfl ?_
  simp only [List.replicate, List.cons_append, List.nil_append]
  refine sr ?_
  refine K.seq_new (K.box) rfl ?_
  intro b1
  refine zN ?_
  iterate 2 refine qa ?_
  refine sn ?_
  refine sr ?_
  refine K.seq_sil (K.loadA_own ag_26 rfl (K.m0) rfl) rfl ?_
  refine zN ?_
  refine K.seq_loud (K.call_f cal_67 (fun F w hF hw => g67 (hH.pass hw) (hP.pass hw) (hS.pass hw) hn hm hk hcd (chk_e0 hc))) rfl ?_
  rintro q _
  refine zN ?_
  refine qm ?_
  refine qx ?_
  refine qx ?_
  iterate 2 refine qa ?_
  refine sn ?_
  refine K.seq ?_
  refine sr ?_
  refine qm ?_
  refine qp (K.neq rfl rfl) ?_
  refine sn ?_
  refine K.cond_false (by rfl) ?_
  refine K.skip ?_
  refine K.norm_then ?_
  refine sr ?_
  refine K.seq_new (K.alloc zr_22) rfl ?_
  intro b6
  refine zN ?_
  refine sn ?_
  refine K.seq ?_
  refine sr ?_
  refine K.nil_row (e := 3) (size := 1) ?_
  refine K.permH (L' := [_, _, _, _]) (List.Perm.trans (List.perm_middle (l₁ := [_])) (List.Perm.cons _ (List.Perm.trans (List.perm_middle (l₁ := [_])) (List.Perm.cons _ (List.Perm.trans (List.perm_middle (l₁ := [_])) (List.Perm.cons _ (List.Perm.refl _))))))) ?_
  refine qp (K.fieldAddr_lit fo_26_4 rfl) ?_
  refine K.seq_sil (K.load1_own one_24 rfl (K.m2) rfl) rfl ?_
  refine zN ?_
  refine qp (K.len_sl sl_24 rfl) ?_
  refine qm ?_
  refine sn ?_
  refine K.block ?_
  refine K.loopW [22] [7, 8, 23, 24, 25, 26, 27, 28, 29, 30, 31, 32, 33, 34, 35, 36, 37, 38, 39, 40, 41, 42] (fun vi L => ∃ (j : Nat) (Q1 : Option Addr) (q1 : Nat), vi = [.int .i64 (j : Int)] ∧ L = [K.blk b6 22 [.slice Q1 (sureZ m j).length q1], K.blk q 101 (mdl m A B C c d e), K.blk b1 26 [.int .i64 m.W, .int .i64 m.D, .slice A m.hs.length c, .slice B m.ps.length d, .slice C m.ss.length e], K.row (.slice Q1 (sureZ m j).length q1) 3 1 (sureZ m j).length ((sureZ m j).flatMap K.eI)] ∧ j ≤ m.ss.length) (fun vi => m.ss.length - (intOf (K.nth vi 0)).toNat) ?_ ?_
  · exact ⟨0, none, 0, rfl, rfl, Nat.zero_le _⟩
  intro vi vr L hJ
  obtain ⟨j, Q1, q1, rfl, rfl, hjn⟩ := hJ
  try dsimp only [setd, setn, ev, nth, over, cl, eI, eP, eT, eN, eS, setM, setF, List.map, List.append, List.drop, List.take]
  refine sr ?_
  refine qp (K.lss rfl rfl) ?_
  refine sn ?_
  refine K.seq ?_
  refine K.cond rfl (fun ht23 => ?_) (fun ht23 => ?_)
  · try replace ht23 := of_decide_eq_true ht23
    have hj : j < m.ss.length := by omega
    have hst := g.st hj
    have hzl := sureZ_len (m := m) (k := j)
    refine K.skip ?_
    refine K.norm_then ?_
    refine K.seq ?_
    refine K.block ?_
    refine sr ?_
    refine qm ?_
    refine K.seq_ix (M := []) _ hS.sl sl_24 rfl rfl rfl (by omega) rfl ?_
    intro p25 hp25
    refine zN ?_
    refine K.seq_sil (K.loadA_p ag_63 rfl (hp25.any) rfl) rfl ?_
    refine zN ?_
    refine K.seq_new (K.alloc zr_63) rfl ?_
    intro b8
    refine zN ?_
    refine qa ?_
    refine K.seq_st (K.store_all sz_63 rfl rfl rfl rfl (K.rp0)) rfl ?_
    refine zN ?_
    refine sn ?_
    refine K.draw_take 4 [15] Tryd_mixed ?_
    refine K.d_mem 0 rfl (K.load1_own one_22 rfl (K.m1) rfl) (fun _ h => K.take_sub 4 _ h) (by kernel_rfl) (by kernel_rfl) rfl ?_
    refine zN ?_
    refine K.d_pure 1 rfl (K.move) (by kernel_rfl) rfl ?_
    refine zn ?_
    refine K.d_pure 2 rfl (K.move) (by kernel_rfl) rfl ?_
    refine zn ?_
    refine K.d_pure 3 rfl (K.nilCheck rfl) (by kernel_rfl) rfl ?_
    refine zn ?_
    refine K.d_pure 4 rfl (K.fieldAddr_lit fo_101_1 rfl) (by kernel_rfl) rfl ?_
    refine zn ?_
    refine K.d_mem 5 rfl (K.loadA_own ag_98 rfl (K.m2) rfl) (fun _ h => K.take_sub 4 _ h) (by kernel_rfl) (by kernel_rfl) rfl ?_
    refine zN ?_
    refine K.d_pure 6 rfl (K.move) (by kernel_rfl) rfl ?_
    refine zn ?_
    refine K.d_pure 7 rfl (K.move) (by kernel_rfl) rfl ?_
    refine zn ?_
    refine K.d_pure 9 rfl (K.fieldAddr_lit fo_63_2 rfl) (by kernel_rfl) rfl ?_
    refine zn ?_
    refine K.d_pure 10 rfl (K.fieldAddr_lit fo_61_0 rfl) (by kernel_rfl) rfl ?_
    refine zn ?_
    refine K.d_mem 11 rfl (K.load1_own one_3 rfl (K.m0) rfl) (fun _ h => K.take_sub 4 _ h) (by kernel_rfl) (by kernel_rfl) rfl ?_
    refine zN ?_
    refine K.d_call 8 rfl (K.call_g cal_64 (fun F w hF hw => c64 (K.PtrL.now hw (hF _ (K.m2))) (hS.pass hw) hj)) (fun _ h => K.take_sub 4 _ h) (by kernel_rfl) rfl ?_
    refine zN ?_
    refine K.d_call 12 rfl (K.call_g cal_69 (fun F w hF hw => c69 (l := ownS m) (K.PtrL.now hw (hF _ (K.m2))) (K.blk_lt hw (hF _ (K.m2))) (hP.pass hw) g g.lb (by omega) (by omega) (by omega))) (fun _ h => K.take_sub 4 _ h) (by kernel_rfl) rfl ?_
    refine zN ?_
    refine K.d_new 13 rfl (K.buildSlice (bs1 _)) (fun _ h => K.take_sub 4 _ h) (by kernel_rfl) rfl ?_
    intro b40
    refine zN ?_
    refine K.d_upd 14 rfl (K.append el_22 rfl rfl (K.PtrL.own' (K.m0)) rfl rfl (by decide) (by omega) (by omega) (fun _ _ => K.rp5)) (fun _ => fun _ h => K.tl (K.take_sub 4 _ h)) (by kernel_rfl) rfl ?_
    rintro ⟨g41, c41⟩ _
    refine zN ?_
    refine K.d_last 15 rfl (K.store sz_22 rfl rfl rfl rfl (K.rp2)) rfl (by kernel_rfl) rfl ?_
    intro _ _
    refine zN ?_
    refine K.d_done (by kernel_rfl) ?_
    refine K.norm_block ?_
    refine K.norm_then ?_
    refine K.region_lit ?_
    refine qp (K.add_i64 rfl rfl (by omega)) ?_
    refine qm ?_
    refine K.seq_nil ?_
    exact K.round_endW (L'' := [K.blk b6 22 [.slice (some ⟨g41, 0, none⟩) ((sureZ m j).length + 1) c41], K.blk q 101 (mdl m A B C c d e), K.blk b1 26 [.int .i64 m.W, .int .i64 m.D, .slice A m.hs.length c, .slice B m.ps.length d, .slice C m.ss.length e], K.row (.slice (some ⟨g41, 0, none⟩) ((sureZ m j).length + 1) c41) 3 1 ((sureZ m j).length + 1) ((sureZ m j).flatMap K.eI ++ [.int .i64 (setN (sureB m j) m.ps.length)])]) [.int .i64 ((j : Int) + 1)] ⟨j + 1, some ⟨g41, 0, none⟩, c41, rfl, by rw [sureZ_succ, List.length_append, List.flatMap_append]; rfl, by omega⟩ (by simp [K.nth, intOf]; omega) (by repeat (first | exact List.Sublist.refl _ | apply List.Sublist.cons)) (by kernel_rfl)
  try replace ht23 := of_decide_eq_false ht23
  refine K.exit ?_
  refine K.exit_then ?_
  refine K.exit_then ?_
  refine K.exit_here ?_
  refine K.norm_then ?_
  refine K.seq ?_
  have e0 : j = m.ss.length := by omega
  subst e0
  refine K.use_row K.m3 (fun hQ => ?_)
  refine K.region_lit ?_
  refine qp (K.fieldAddr_lit fo_26_4 rfl) ?_
  refine K.seq_sil (K.load1_own one_24 rfl (K.m2) rfl) rfl ?_
  refine zN ?_
  refine qp (K.len_sl sl_24 rfl) ?_
  refine K.seq_pure (K.mkFunc) rfl ?_
  refine zN ?_
  refine K.seq_loud (K.call_f cal_82 (fun F w hF hw => c82 (gf := 83) (cap := [.pointer (some ⟨b6, 0, none⟩), .pointer (some ⟨b1, 0, none⟩)]) (p := fun s => covB m (ptsS m.ss.length s)) (hT.pass hw) g.k6 cal_83 (fun s hs w1 hb => (by have hz := K.Rd.own (e := K.eI) hw (hF _ (K.m3)) hQ (fun _ => rfl) (by decide); have hp1 := K.PtrL.pass hw (hF _ (K.m0)) hb; have hp2 := K.PtrL.pass hw (hF _ (K.m2)) hb; exact c83 (Tab.later (hT.pass hw) hb) hp1 hp2 (hz.later hb) g hs)))) rfl ?_
  rintro ⟨Q3, q3⟩ hq3
  refine zN ?_
  refine qm ?_
  refine qx ?_
  refine qx ?_
  iterate 2 refine qa ?_
  refine sn ?_
  refine K.seq ?_
  refine sr ?_
  refine qm ?_
  first | refine K.seq_pure (K.not_d rfl) rfl ?_ | refine K.seq_pure (K.not_ rfl) rfl ?_
  refine zN ?_
  refine sn ?_
  refine K.cond rfl (fun ht52 => ?_) (fun ht52 => ?_)
  · try replace ht52 := of_decide_eq_true ht52
    refine sr ?_
    iterate 2 refine qa ?_
    refine sn ?_
    refine K.ret ?_
    refine K.ret_then ?_
    refine K.end_ret (fun w _ => K.res_tmp2 rfl w) ?_
    have hsm : (fewM m).isSome = false := by have h := ht52; unfold fewM; simpa using h
    have he : fewE m = 9 := by
      unfold fewE
      rw [if_neg (by omega), if_pos hsm]
    have hl : fewL m = [] := by
      unfold fewL
      rw [if_neg (by omega)]
      cases hf : fewM m with
      | none => rfl
      | some l => rw [hf] at hsm; cases hsm
    exact K.rets_se0 hl he.symm rfl
  try replace ht52 := of_decide_eq_false ht52
  refine K.skip ?_
  refine K.norm_then ?_
  refine sr ?_
  refine qm ?_
  iterate 2 refine qa ?_
  refine sn ?_
  refine K.ret ?_
  refine K.end_ret (fun w _ => K.res_tmp2 rfl w) ?_
  have hsm : (fewM m).isSome = true := by have h := ht52; unfold fewM; simpa using h
  have he : fewE m = 0 := by
    unfold fewE
    rw [if_neg (by omega), if_neg (by rw [hsm]; decide)]
  have hl : fewL m = ((fewM m).getD []) := by unfold fewL; rw [if_neg (by omega)]
  rw [hl, he]
  exact K.rets_se K.m0 rfl rfl rfl rfl

theorem c32 {m : Mod} {A B C : Option Addr} {c d e : Nat} {w : World} (hH : K.Rd w A 1 K.eI m.hs) (hP : K.Rd w B 5 eN m.ps) (hS : K.Rd w C 4 eS m.ss) (hn : m.hs.length ≤ 4611686018427387904) (hm : m.ps.length ≤ 4611686018427387904) (hk : m.ss.length ≤ 4611686018427387904) (hcd : m.ps.length ≤ d) (hT : Tab w) : Calls Tryd.prog 32 [.agg #[.int .i64 m.W, .int .i64 m.D, .slice A m.hs.length c, .slice B m.ps.length d, .slice C m.ss.length e]].toArray w (K.RetSE 3 1 K.eI (fewL m) (fewE m) w) := by
  by_cases hc : (chk m).2.2 = 0
  · exact g32 hH hP hS hn hm hk hcd hT hc
  · exact e32 hH hP hS hn hm hk hcd hc


end Go.Proofs.YthkgnhcknkjgdaaDoor
