/-
  Walks of the program's functions, printed by program: what each returns.
  Conditions stand in each theorem.
-/
import Derived.WalkArith
import Derived.Laws.Closers25b
import Derived.Test.YthkgnhcknkjgdaaDoorWu
set_option linter.unusedSimpArgs false
set_option linter.unusedVariables false
namespace Go.Proofs.YthkgnhcknkjgdaaDoor
open Go.RowKit Go
open Go.K (setd setn ev nth over cl eI eP eT setM setF)
attribute [local irreducible] K.blk K.row

theorem bit_dec {s k : Nat} (hs : s < 64) (hk : k < 6) : decide (IntKind.i64.wrap (BitVec.ofInt IntKind.i64.bits (((s : Nat) : Int).fdiv (2 ^ min (Int.toNat ((k : Nat) : Int)) IntKind.i64.bits)) &&& BitVec.ofInt IntKind.i64.bits 1).toNat = 0) = !s.testBit k := by
  rw [bit_val hs hk]
  cases s.testBit k <;> rfl
theorem all_f {m : Mod} {j : Nat} (hj : j < m.ss.length) (h : (List.range m.ps.length).all (sureB m j) = false) : allB m = false := by
  unfold allB
  exact List.all_eq_false.2 ⟨j, List.mem_range.2 hj, by simp [h]⟩
theorem all_t {m : Mod} (h : ∀ i, i < m.ss.length → (List.range m.ps.length).all (sureB m i) = true) : allB m = true := by
  unfold allB
  exact List.all_eq_true.2 (fun i hi => h i (List.mem_range.1 hi))
theorem ne_dec (a b : Int) : decide (a ≠ b) = !decide (a = b) := by by_cases h : a = b <;> simp [h]
theorem less_ss {m : Mod} {s : Nat} : (lessM m s).ss = m.ss := rfl


set_option maxRecDepth 100000 in
set_option maxHeartbeats 1000000 in
theorem c85 {m : Mod} {A B C : Option Addr} {c d e : Nat} {s : Nat} {p1 : Addr} {w : World} (hT : Tab w) (h1 : K.PtrL w [] p1 [.int .i64 m.W, .int .i64 m.D, .slice A m.hs.length c, .slice B m.ps.length d, .slice C m.ss.length e]) (hH : K.Rd w A 1 K.eI m.hs) (hP : K.Rd w B 5 eN m.ps) (hS : K.Rd w C 4 eS m.ss) (hn : m.hs.length ≤ 4611686018427387904) (hm : m.ps.length ≤ 4611686018427387904) (hk : m.ss.length ≤ 4611686018427387904) (hc : (chk m).2.2 = 0) (hs : s < 2 ^ m.ps.length) :
    Calls Tryd.prog 85 [.int .i64 (s : Int), .pointer (some p1)].toArray w (K.Gives (.bool (allB (lessM m s))) w) := by
  have g : Good m := chk_good hc
  have hgn := g.n
  have hgk := g.k
  have hpb := pow_bd g.n
  have hcl : chk (lessM m s) = (0, 0, 0) := chk_e0 (chk_less hc less_sub)
  have gl : Good (lessM m s) := chk_good (by rw [hcl])
  have hll := less_len (m := m) (s := s) (k := m.ps.length)
  have hnl : (lessM m s).ps.length = (lessP m s m.ps.length).length := rfl
  refine K.enter (args := [.int .i64 (s : Int), .pointer (some p1)]) Tryd.func85 rfl (n := 63) rfl ?_
  simp only [List.replicate, List.cons_append, List.nil_append]
  refine sr ?_
  refine qa ?_
  refine sn ?_
  refine sr ?_
  refine K.seq_sil (K.loadA_p ag_26 rfl (h1.any) rfl) rfl ?_
  refine zN ?_
  refine K.seq_new (K.alloc zr_26) rfl ?_
  intro b4
  refine zN ?_
  refine K.seq_st (K.store_all sz_26 rfl rfl rfl rfl (K.rp0)) rfl ?_
  refine zN ?_
  refine sn ?_
  refine sr ?_
  refine qp (K.fieldAddr_lit fo_26_3 rfl) ?_
  refine K.seq_st (K.store sz_23 rfl rfl rfl rfl (K.rp0)) rfl ?_
  refine zN ?_
  refine sn ?_
  refine K.seq ?_
  refine sr ?_
  refine K.nil_row (e := 54) (size := 5) ?_
  refine qp (K.fieldAddr fo_26_3 rfl) ?_
  refine K.seq_sil (K.load1 one_23 rfl ((K.PtrL.fld h1 (k := 3)).any)) rfl ?_
  refine zN ?_
  refine qp (K.len_sl sl_23 rfl) ?_
  refine qm ?_
  refine sn ?_
  refine K.block ?_
  refine K.loopW [16] [5, 6, 17, 18, 19, 20, 21, 22, 23, 24, 25, 26, 27, 28, 29, 30, 31, 32] (fun vi L => ∃ (k : Nat) (Q1 : Option Addr) (q1 : Nat), vi = [.int .i64 (k : Int)] ∧ L = [K.row (.slice Q1 (lessP m s k).length q1) 54 5 (lessP m s k).length ((lessP m s k).flatMap eN), K.blk b4 26 [.int .i64 m.W, .int .i64 m.D, .slice A m.hs.length c, .slice Q1 (lessP m s k).length q1, .slice C m.ss.length e]] ∧ k ≤ m.ps.length) (fun vi => m.ps.length - (intOf (K.nth vi 0)).toNat) ?_ ?_
  · exact ⟨0, none, 0, rfl, rfl, Nat.zero_le _⟩
  intro vi vr L hJ
  obtain ⟨k, Q1, q1, rfl, rfl, hkn⟩ := hJ
  try dsimp only [setd, setn, ev, nth, over, cl, eI, eP, eT, eN, eS, setM, setF, List.map, List.append, List.drop, List.take]
  refine sr ?_
  refine qp (K.lss rfl rfl) ?_
  refine sn ?_
  refine K.seq ?_
  refine K.cond rfl (fun ht17 => ?_) (fun ht17 => ?_)
  · try replace ht17 := of_decide_eq_true ht17
    have hk : k < m.ps.length := by omega
    have hlk := less_len (m := m) (s := s) (k := k)
    refine K.skip ?_
    refine K.norm_then ?_
    refine K.seq ?_
    refine K.block ?_
    refine sr ?_
    refine qm ?_
    refine K.seq_ix (M := []) _ hP.sl sl_23 rfl rfl rfl (by omega) rfl ?_
    intro p19 hp19
    refine zN ?_
    refine K.seq_sil (K.loadA_p ag_54 rfl (hp19.any) rfl) rfl ?_
    refine zN ?_
    refine K.seq_new (K.alloc zr_54) rfl ?_
    intro b6
    refine zN ?_
    refine qa ?_
    refine K.seq_st (K.store_all sz_54 rfl rfl rfl rfl (K.rp0)) rfl ?_
    refine zN ?_
    refine sn ?_
    refine sr ?_
    iterate 2 refine qm ?_
    refine qp (K.shr_int rfl rfl (by omega)) ?_
    refine qp (K.and_int rfl rfl) ?_
    refine qp (K.Pure.eq (K.eql rfl rfl) (show _ = Value.bool (!s.testBit k) from by rw [bit_dec (by omega) (by omega)])) ?_
    refine sn ?_
    refine K.cond rfl (fun ht25 => ?_) (fun ht25 => ?_)
    · try replace ht25 := of_decide_eq_true ht25
      refine K.region_lit ?_
      refine qp (K.fieldAddr_lit fo_26_3 rfl) ?_
      refine K.seq_sil (K.load1_own one_23 rfl (K.m2) rfl) rfl ?_
      refine zN ?_
      refine K.seq_sil (K.loadA_own ag_54 rfl (K.m0) rfl) rfl ?_
      refine zN ?_
      refine K.seq_new (K.buildSlice (bs23 _ _ _ _ _)) rfl ?_
      intro b29
      refine zN ?_
      refine K.seq_upd (K.append el_23 rfl rfl (K.PtrL.own' (K.m0)) rfl rfl (by decide) (by omega) (by omega) (fun _ _ => K.rp2)) rfl ?_
      rintro ⟨g30, c30⟩ _
      refine zN ?_
      refine qp (K.fieldAddr_lit fo_26_3 rfl) ?_
      refine K.seq_st (K.store sz_23 rfl rfl rfl rfl (K.rp3)) rfl ?_
      refine zN ?_
      refine K.seq_nil ?_
      refine K.norm_block ?_
      refine K.norm_then ?_
      refine K.region_lit ?_
      refine qp (K.add_i64 rfl rfl (by omega)) ?_
      refine qm ?_
      refine K.seq_nil ?_
      have hle := less_yes (m := m) (s := s) (k := k) (by simpa using ht25)
      exact K.round_endW (L'' := [K.row (.slice (some ⟨g30, 0, none⟩) ((lessP m s k).length + 1) c30) 54 5 ((lessP m s k).length + 1) ((lessP m s k).flatMap eN ++ [.string (m.ps.getD k default).nm, .int .i64 (m.ps.getD k default).x, .int .i64 (m.ps.getD k default).y, .int .i64 (m.ps.getD k default).len, .int .i64 (m.ps.getD k default).most]), K.blk b4 26 [.int .i64 m.W, .int .i64 m.D, .slice A m.hs.length c, .slice (some ⟨g30, 0, none⟩) ((lessP m s k).length + 1) c30, .slice C m.ss.length e]]) [.int .i64 ((k : Int) + 1)] ⟨k + 1, some ⟨g30, 0, none⟩, c30, rfl, by rw [hle, List.length_append, List.flatMap_append]; rfl, by omega⟩ (by simp [K.nth, intOf]; omega) (by repeat (first | exact List.Sublist.refl _ | apply List.Sublist.cons)) (by kernel_rfl)
    try replace ht25 := of_decide_eq_false ht25
    refine K.skip ?_
    refine K.norm_block ?_
    refine K.norm_then ?_
    refine K.region_lit ?_
    refine qp (K.add_i64 rfl rfl (by omega)) ?_
    refine qm ?_
    refine K.seq_nil ?_
    have hle := less_no (m := m) (s := s) (k := k) (by simpa using ht25)
    exact K.round_endW (L'' := [K.row (.slice Q1 (lessP m s k).length q1) 54 5 (lessP m s k).length ((lessP m s k).flatMap eN), K.blk b4 26 [.int .i64 m.W, .int .i64 m.D, .slice A m.hs.length c, .slice Q1 (lessP m s k).length q1, .slice C m.ss.length e]]) [.int .i64 ((k : Int) + 1)] ⟨k + 1, Q1, q1, rfl, by rw [hle], by omega⟩ (by simp [K.nth, intOf]; omega) (by repeat (first | exact List.Sublist.refl _ | apply List.Sublist.cons)) (by kernel_rfl)
  try replace ht17 := of_decide_eq_false ht17
  refine K.exit ?_
  refine K.exit_then ?_
  refine K.exit_then ?_
  refine K.exit_here ?_
  refine K.norm_then ?_
  refine K.seq ?_
  have e0 : k = m.ps.length := by omega
  subst e0
  refine K.use_rowc K.m0 (fun hQ hqc => ?_)
  refine K.region_lit ?_
  refine K.seq_sil (K.loadA_own ag_26 rfl (K.m1) rfl) rfl ?_
  refine zN ?_
  refine K.seq_loud (K.call_f cal_67 (fun F w hF hw => (by have hrw := K.Rd.own (e := eN) hw (hF _ (K.m0)) hQ eN_len (by decide); exact g67 (m := (lessM m s)) (A := A) (B := Q1) (C := C) (c := c) (d := q1) (e := e) (hH.pass hw) hrw (hS.pass hw) hn (by omega) hk hqc hcl))) rfl ?_
  rintro q _
  refine zN ?_
  refine qm ?_
  refine qx ?_
  refine qx ?_
  iterate 2 refine qa ?_
  refine sn ?_
  refine K.seq ?_
  refine sr ?_
  refine qp (K.fieldAddr fo_26_4 rfl) ?_
  refine K.seq_sil (K.load1 one_24 rfl ((K.PtrL.fld h1 (k := 4)).any)) rfl ?_
  refine zN ?_
  refine qp (K.len_sl sl_24 rfl) ?_
  refine qm ?_
  refine sn ?_
  refine K.block ?_
  refine K.loopW [41] [3, 9, 10, 42, 43, 44, 45, 46, 47, 48, 49, 50, 51, 52, 53, 54, 55, 56, 57, 58, 59, 60, 61, 62, 63, 64] (fun vi L => ∃ j : Nat, vi = [.int .i64 (j : Int)] ∧ L = [K.blk q 101 (mdl (lessM m s) A Q1 C c q1 e), K.row (.slice Q1 (lessP m s m.ps.length).length q1) 54 5 (lessP m s m.ps.length).length ((lessP m s m.ps.length).flatMap eN), K.blk b4 26 [.int .i64 m.W, .int .i64 m.D, .slice A m.hs.length c, .slice Q1 (lessP m s m.ps.length).length q1, .slice C m.ss.length e]] ∧ j ≤ m.ss.length ∧ ∀ i, i < j → (List.range (lessM m s).ps.length).all (sureB (lessM m s) i) = true) (fun vi => m.ss.length - (intOf (K.nth vi 0)).toNat) ?_ ?_
  · exact ⟨0, rfl, rfl, Nat.zero_le _, fun j hj => absurd hj (Nat.not_lt_zero j)⟩
  intro vi vr L hJ
  obtain ⟨j, rfl, rfl, hjn, hall⟩ := hJ
  try dsimp only [setd, setn, ev, nth, over, cl, eI, eP, eT, eN, eS, setM, setF, List.map, List.append, List.drop, List.take]
  refine sr ?_
  refine qp (K.lss rfl rfl) ?_
  refine sn ?_
  refine K.seq ?_
  refine K.cond rfl (fun ht42 => ?_) (fun ht42 => ?_)
  · try replace ht42 := of_decide_eq_true ht42
    have hj : j < m.ss.length := by omega
    have hst := g.st hj
    have hst2 := gl.st (s := j) hj
    refine K.skip ?_
    refine K.norm_then ?_
    refine K.seq ?_
    refine K.block ?_
    refine sr ?_
    refine qm ?_
    refine K.seq_ix (M := []) _ hS.sl sl_24 rfl rfl rfl (by omega) rfl ?_
    intro p44 hp44
    refine zN ?_
    refine K.seq_sil (K.loadA_p ag_63 rfl (hp44.any) rfl) rfl ?_
    refine zN ?_
    refine K.seq_new (K.alloc zr_63) rfl ?_
    intro b10
    refine zN ?_
    refine qa ?_
    refine K.seq_st (K.store_all sz_63 rfl rfl rfl rfl (K.rp0)) rfl ?_
    refine zN ?_
    refine sn ?_
    refine K.seq ?_
    have hpb2 := pow_bd gl.n
    have hp0 : 0 ≤ ((2 ^ (lessM m s).ps.length : Nat) : Int) := Int.natCast_nonneg _
    refine K.draw_L [] Tryd_mixed ?_
    refine K.d_pure 0 rfl (K.move) (by kernel_rfl) rfl ?_
    refine zn ?_
    refine K.d_pure 1 rfl (K.move) (by kernel_rfl) rfl ?_
    refine zn ?_
    refine K.d_pure 2 rfl (K.nilCheck rfl) (by kernel_rfl) rfl ?_
    refine zn ?_
    refine K.d_pure 3 rfl (K.fieldAddr_lit fo_101_1 rfl) (by kernel_rfl) rfl ?_
    refine zn ?_
    refine K.d_mem 4 rfl (K.loadA_own ag_98 rfl (K.m1) rfl) (fun _ h => h) (by kernel_rfl) (by kernel_rfl) rfl ?_
    refine zN ?_
    refine K.d_pure 5 rfl (K.move) (by kernel_rfl) rfl ?_
    refine zn ?_
    refine K.d_pure 6 rfl (K.move) (by kernel_rfl) rfl ?_
    refine zn ?_
    refine K.d_pure 8 rfl (K.fieldAddr_lit fo_63_2 rfl) (by kernel_rfl) rfl ?_
    refine zn ?_
    refine K.d_pure 9 rfl (K.fieldAddr_lit fo_61_0 rfl) (by kernel_rfl) rfl ?_
    refine zn ?_
    refine K.d_mem 10 rfl (K.load1_own one_3 rfl (K.m0) rfl) (fun _ h => h) (by kernel_rfl) (by kernel_rfl) rfl ?_
    refine zN ?_
    refine K.d_pure 12 rfl (K.fieldAddr_lit fo_26_3 rfl) (by kernel_rfl) rfl ?_
    refine zn ?_
    refine K.d_mem 13 rfl (K.load1_own one_23 rfl (K.m3) rfl) (fun _ h => h) (by kernel_rfl) (by kernel_rfl) rfl ?_
    refine zN ?_
    refine K.d_pure 14 rfl (K.len_sl sl_23 rfl) (by kernel_rfl) rfl ?_
    refine zn ?_
    refine K.d_pure 15 rfl (K.Pure.eq (K.shl_int rfl rfl (by omega)) (show _ = Value.int .i64 ((2 ^ (lessM m s).ps.length : Nat) : Int) from by rw [← hnl, shl_val gl.n])) (by kernel_rfl) rfl ?_
    refine zn ?_
    refine K.d_pure 16 rfl (K.sub_i64 rfl rfl (by omega)) (by kernel_rfl) rfl ?_
    refine zn ?_
    refine K.d_call 7 rfl (K.call_g cal_64 (fun F w hF hw => c64 (m := (lessM m s)) (K.PtrL.now hw (hF _ (K.m1))) (hS.pass hw) hj)) (fun _ h => h) (by kernel_rfl) rfl ?_
    refine zN ?_
    refine K.d_call 11 rfl (K.call_g cal_69 (fun F w hF hw => (by have hrw := K.Rd.own (e := eN) hw (hF _ (K.m2)) hQ eN_len (by decide); exact c69 (m := (lessM m s)) (l := ownS (lessM m s)) (K.PtrL.now hw (hF _ (K.m1))) (K.blk_lt hw (hF _ (K.m1))) hrw gl gl.lb (by omega) (by omega) (by omega)))) (fun _ h => h) (by kernel_rfl) rfl ?_
    refine zN ?_
    refine K.d_pure 17 rfl (K.Pure.eq (K.neq rfl rfl) (show _ = Value.bool (!((List.range (lessM m s).ps.length).all (sureB (lessM m s) j))) from by rw [← set_full gl.n]; exact congrArg Value.bool (ne_dec _ _))) (by kernel_rfl) rfl ?_
    refine zn ?_
    refine K.d_done (by kernel_rfl) ?_
    refine K.norm_then ?_
    refine K.cond rfl (fun ht63 => ?_) (fun ht63 => ?_)
    · try replace ht63 := of_decide_eq_true ht63
      refine sr ?_
      refine qa ?_
      refine sn ?_
      refine K.ret ?_
      refine K.ret_block ?_
      refine K.ret_then ?_
      refine K.ret_then ?_
      refine K.ret_block ?_
      refine K.ret_then ?_
      refine K.end_ret (fun w _ => K.res_tmp rfl w) ?_
      exact K.gives_b rfl (all_f (m := lessM m s) hj (by simpa using ht63)).symm
    try replace ht63 := of_decide_eq_false ht63
    refine K.skip ?_
    refine K.norm_block ?_
    refine K.norm_then ?_
    refine K.region_lit ?_
    refine qp (K.add_i64 rfl rfl (by omega)) ?_
    refine qm ?_
    refine K.seq_nil ?_
    exact K.round_endW (L'' := [K.blk q 101 (mdl (lessM m s) A Q1 C c q1 e), K.row (.slice Q1 (lessP m s m.ps.length).length q1) 54 5 (lessP m s m.ps.length).length ((lessP m s m.ps.length).flatMap eN), K.blk b4 26 [.int .i64 m.W, .int .i64 m.D, .slice A m.hs.length c, .slice Q1 (lessP m s m.ps.length).length q1, .slice C m.ss.length e]]) [.int .i64 ((j : Int) + 1)] ⟨j + 1, rfl, rfl, by omega, K.lt_succ_case hall (by simpa using ht63)⟩ (by simp [K.nth, intOf]; omega) (by repeat (first | exact List.Sublist.refl _ | apply List.Sublist.cons)) (by kernel_rfl)
  try replace ht42 := of_decide_eq_false ht42
  refine K.exit ?_
  refine K.exit_then ?_
  refine K.exit_then ?_
  refine K.exit_here ?_
  refine K.norm_then ?_
  refine sr ?_
  refine qa ?_
  refine sn ?_
  refine K.ret ?_
  refine K.end_ret (fun w _ => K.res_tmp rfl w) ?_
  exact K.gives_b rfl (all_t (m := lessM m s) (fun i hi => hall i (by have : (lessM m s).ss.length = m.ss.length := rfl; omega))).symm

set_option maxRecDepth 100000 in
theorem e34 {m : Mod} {A B C : Option Addr} {c d e : Nat} {w : World} (hH : K.Rd w A 1 K.eI m.hs) (hP : K.Rd w B 5 eN m.ps) (hS : K.Rd w C 4 eS m.ss) (hn : m.hs.length ≤ 4611686018427387904) (hm : m.ps.length ≤ 4611686018427387904) (hk : m.ss.length ≤ 4611686018427387904) (hcd : m.ps.length ≤ d) (hc : (chk m).2.2 ≠ 0) :
    Calls Tryd.prog 34 [.agg #[.int .i64 m.W, .int .i64 m.D, .slice A m.hs.length c, .slice B m.ps.length d, .slice C m.ss.length e]].toArray w (K.RetSE 3 1 K.eI (offL m) ((chk m).2.2) w) := by
  refine K.enter (args := [.agg #[.int .i64 m.W, .int .i64 m.D, .slice A m.hs.length c, .slice B m.ps.length d, .slice C m.ss.length e]]) Tryd.func34 rfl (n := 24) rfl ?_
  simp only [List.replicate, List.cons_append, List.nil_append]
  refine sr ?_
  refine K.seq_new (K.box) rfl ?_
  intro b1
  refine zN ?_
  iterate 2 refine qa ?_
  refine sn ?_
  refine K.seq ?_
  refine sr ?_
  refine K.seq_sil (K.loadA_own ag_26 rfl (K.m0) rfl) rfl ?_
  refine zN ?_
  refine K.seq_call (K.call_g cal_67 (fun F w hF hw => e67 (hH.pass hw) (hP.pass hw) (hS.pass hw) hn hm hk hcd hc)) rfl ?_
  refine zN ?_
  refine qm ?_
  refine qx ?_
  refine qx ?_
  iterate 2 refine qa ?_
  refine sn ?_
  refine sr ?_
  refine qm ?_
  refine qp (K.neq rfl rfl) ?_
  refine sn ?_
  refine K.cond_true (by exact congrArg Value.bool (decide_eq_true hc)) ?_
  refine sr ?_
  refine qm ?_
  iterate 2 refine qa ?_
  refine sn ?_
  refine K.ret ?_
  refine K.ret_then ?_
  refine K.end_ret (fun w _ => K.res_tmp2 rfl w) ?_
  exact K.rets_se0 (by unfold offL; rw [if_pos hc]) rfl rfl

set_option maxRecDepth 100000 in
theorem g34 {m : Mod} {A B C : Option Addr} {c d e : Nat} {w : World} (hH : K.Rd w A 1 K.eI m.hs) (hP : K.Rd w B 5 eN m.ps) (hS : K.Rd w C 4 eS m.ss) (hn : m.hs.length ≤ 4611686018427387904) (hm : m.ps.length ≤ 4611686018427387904) (hk : m.ss.length ≤ 4611686018427387904) (hcd : m.ps.length ≤ d) (hT : Tab w) (hc : (chk m).2.2 = 0) :
    Calls Tryd.prog 34 [.agg #[.int .i64 m.W, .int .i64 m.D, .slice A m.hs.length c, .slice B m.ps.length d, .slice C m.ss.length e]].toArray w (K.RetSE 3 1 K.eI (offL m) ((chk m).2.2) w) := by
  have g : Good m := chk_good hc
  refine K.enter (args := [.agg #[.int .i64 m.W, .int .i64 m.D, .slice A m.hs.length c, .slice B m.ps.length d, .slice C m.ss.length e]]) Tryd.func34 rfl (n := 24) rfl ?_
  simp only [List.replicate, List.cons_append, List.nil_append]
  refine sr ?_
  refine K.seq_new (K.box) rfl ?_
  intro b1
  refine zN ?_
  iterate 2 refine qa ?_
  refine sn ?_
  refine K.seq ?_
  refine sr ?_
  refine K.seq_sil (K.loadA_own ag_26 rfl (K.m0) rfl) rfl ?_
  refine zN ?_
  refine K.seq_loud (K.call_f cal_67 (fun F w hF hw => g67 (hH.pass hw) (hP.pass hw) (hS.pass hw) hn hm hk hcd (chk_e0 hc))) rfl ?_
  rintro q _
  refine zN ?_
  refine qm ?_
  refine qx ?_
  refine qx ?_
  iterate 2 refine qa ?_
  refine sn ?_
  refine sr ?_
  refine qm ?_
  refine qp (K.neq rfl rfl) ?_
  refine sn ?_
  refine K.cond_false (by rfl) ?_
  refine K.skip ?_
  refine K.norm_then ?_
  refine sr ?_
  refine qp (K.fieldAddr_lit fo_26_3 rfl) ?_
  refine K.seq_sil (K.load1_own one_23 rfl (K.m1) rfl) rfl ?_
  refine zN ?_
  refine qp (K.len_sl sl_23 rfl) ?_
  refine K.seq_pure (K.mkFunc) rfl ?_
  refine zN ?_
  refine K.seq_loud (K.call_f cal_82 (fun F w hF hw => c82 (gf := 85) (cap := [.pointer (some ⟨b1, 0, none⟩)]) (p := fun s => allB (lessM m s)) (hT.pass hw) g.n cal_85 (fun s hs w1 hb => (by have hp1 := K.PtrL.pass hw (hF _ (K.m1)) hb; exact c85 (A := A) (B := B) (C := C) (c := c) (d := d) (e := e) (Tab.later (hT.pass hw) hb) hp1 ((hH.pass hw).later hb) ((hP.pass hw).later hb) ((hS.pass hw).later hb) hn hm hk hc hs)))) rfl ?_
  rintro ⟨Q3, q3⟩ hq3
  refine zN ?_
  refine qm ?_
  refine qx ?_
  refine qx ?_
  iterate 2 refine qa ?_
  refine sn ?_
  refine sr ?_
  refine qm ?_
  iterate 2 refine qa ?_
  refine sn ?_
  refine K.ret ?_
  refine K.end_ret (fun w _ => K.res_tmp2 rfl w) ?_
  have hl : offL m = (offM m).getD [] := by unfold offL; rw [if_neg (by omega)]
  rw [hl, hc]
  exact K.rets_se K.m0 rfl rfl rfl rfl

theorem c34 {m : Mod} {A B C : Option Addr} {c d e : Nat} {w : World} (hH : K.Rd w A 1 K.eI m.hs) (hP : K.Rd w B 5 eN m.ps) (hS : K.Rd w C 4 eS m.ss) (hn : m.hs.length ≤ 4611686018427387904) (hm : m.ps.length ≤ 4611686018427387904) (hk : m.ss.length ≤ 4611686018427387904) (hcd : m.ps.length ≤ d) (hT : Tab w) : Calls Tryd.prog 34 [.agg #[.int .i64 m.W, .int .i64 m.D, .slice A m.hs.length c, .slice B m.ps.length d, .slice C m.ss.length e]].toArray w (K.RetSE 3 1 K.eI (offL m) ((chk m).2.2) w) := by
  by_cases hc : (chk m).2.2 = 0
  · exact g34 hH hP hS hn hm hk hcd hT hc
  · exact e34 hH hP hS hn hm hk hcd hc


end Go.Proofs.YthkgnhcknkjgdaaDoor
