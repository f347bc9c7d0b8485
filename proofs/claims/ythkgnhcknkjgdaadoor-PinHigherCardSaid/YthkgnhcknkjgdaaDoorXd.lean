/-
  Walks of the program's functions, printed by program: what each returns.
  Conditions stand in each theorem.
-/
import Derived.WalkArith
import Derived.Laws.Closers25b
import Derived.Test.YthkgnhcknkjgdaaDoorS7
import Derived.Test.YthkgnhcknkjgdaaDoorK9
import Derived.Test.YthkgnhcknkjgdaaDoorWx
set_option linter.unusedSimpArgs false
set_option linter.unusedVariables false
namespace Go.Proofs.YthkgnhcknkjgdaaDoor
open Go.RowKit Go
open Go.K (setd setn ev nth over cl eI eP eT setM setF)
attribute [local irreducible] K.blk K.row
def RetW (xs : List Int) (w : World) : Ending → World → Prop := K.Ret (fun _ : Nat × List Value × Nat => True) (fun r => .slice (some ⟨r.1, 0, none⟩) xs.length r.2.2) (fun r => [K.blk r.1 3 (xs.flatMap K.eI ++ r.2.1)]) w

set_option maxRecDepth 100000 in
theorem c79 {Q : Option Addr} {q i : Nat} {l : List Int} {v : Int} {w : World} (hL : K.Rd w Q 1 K.eI l) (hi : i < l.length) (hn : l.length ≤ 1000000) :
    Calls Tryd.prog 79 [.slice Q l.length q, .int .i64 (i : Int), .int .i64 v].toArray w (RetW (l.set i v) w) := by
  refine K.enter (args := [.slice Q l.length q, .int .i64 (i : Int), .int .i64 v]) Tryd.func79 rfl (n := 13) rfl ?_
  simp only [List.replicate, List.cons_append, List.nil_append]
  refine sr ?_
  refine qa ?_
  refine sn ?_
  refine sr ?_
  refine K.seq_new (K.buildSlice (bs0)) rfl ?_
  intro b8
  refine zN ?_
  refine qm ?_
  refine K.blk_row0 (size := 1) ?_
  refine K.seq_upd (K.appendS el_22 rfl rfl hL.sl (fun _ => rfl) (K.oneI _) (by omega) (by omega) (fun _ _ => K.rp0)) rfl ?_
  rintro ⟨A10, c10⟩ _
  refine zN ?_
  simp only [Nat.zero_add, List.nil_append]
  refine zN ?_
  refine qa ?_
  refine sn ?_
  refine K.seq ?_
  refine K.use_row K.m0 (fun hA => ?_)
  obtain ⟨gb, rfl⟩ := hA.resolve_left (by omega)
  refine K.row_blk (fun rest => ?_)
  have hfit : 0 + ((i : Int)).toNat * 1 + 1 ≤ (l.flatMap K.eI ++ rest).length := by
    rw [List.length_append, K.flat_len (size := 1) (e := K.eI) (fun _ => rfl)]; omega
  refine K.region_lit ?_
  iterate 3 refine qm ?_
  refine K.seq_pure (K.Pure.eq (K.indexAddr_sl sl_22 rfl rfl (by omega) (by omega)) (show _ = Value.pointer (some ⟨gb, 0 + ((i : Int)).toNat * 1, none⟩) from by rw [K.add_lit])) rfl ?_
  refine zN ?_
  refine zN ?_
  refine K.seq_st (K.store_ix (cs := l.flatMap K.eI ++ rest) (i := 0 + ((i : Int)).toNat * 1) sz_3 rfl rfl hfit rfl (K.rp0e (congrArg (K.blk gb 3) (K.set_cut (e := K.eI) (x := v) (fun _ => rfl) (by omega))))) rfl ?_
  refine zN ?_
  refine sn ?_
  refine sr ?_
  refine qm ?_
  refine qa ?_
  refine sn ?_
  refine K.ret ?_
  refine K.end_ret (fun w _ => K.res_tmp rfl w) ?_
  exact K.rets_v (gb, rest, c10) trivial (by rw [List.length_set]; rfl) rfl (by rw [Int.toNat_natCast]; exact List.Sublist.refl _)

set_option maxRecDepth 100000 in
theorem c87 {m : Mod} {A B C : Option Addr} {c d e : Nat} {Q : Option Addr} {q i : Nat} {l : List Int} {w : World} (hH : K.Rd w A 1 K.eI m.hs) (hP : K.Rd w B 5 eN m.ps) (hS : K.Rd w C 4 eS m.ss) (hL : K.Rd w Q 1 K.eI l) (hll : l.length = m.ps.length) (hl : LB l) (g : Good m) (hi : i < m.ps.length) :
    Calls Tryd.prog 87 [.agg #[.int .i64 m.W, .int .i64 m.D, .slice A m.hs.length c, .slice B m.ps.length d, .slice C m.ss.length e], .slice Q l.length q, .int .i64 (i : Int)].toArray w (K.Gives (.bool (openB m l i)) w) := by
  have hgk := g.k
  have hgn := g.n
  refine K.enter (args := [.agg #[.int .i64 m.W, .int .i64 m.D, .slice A m.hs.length c, .slice B m.ps.length d, .slice C m.ss.length e], .slice Q l.length q, .int .i64 (i : Int)]) Tryd.func87 rfl (n := 31) rfl ?_
  simp only [List.replicate, List.cons_append, List.nil_append]
  refine sr ?_
  refine K.seq_new (K.box) rfl ?_
  intro b3
  refine zN ?_
  refine qa ?_
  refine sn ?_
  refine K.seq ?_
  refine sr ?_
  refine qa ?_
  refine sn ?_
  refine K.block ?_
  refine K.loopW [7] [6, 8, 9, 10, 11, 12, 13, 14, 15, 16, 17, 18, 19, 20, 21, 22, 23, 24, 25, 26, 27, 28, 29, 30, 31, 32, 33] (fun vi L => ∃ k : Nat, vi = [.int .i64 (k : Int)] ∧ L = [K.blk b3 26 [.int .i64 m.W, .int .i64 m.D, .slice A m.hs.length c, .slice B m.ps.length d, .slice C m.ss.length e]] ∧ k ≤ m.ss.length ∧ ∀ j, j < k → seesB m l (m.ss.getD j default).x (m.ss.getD j default).y (m.ss.getD j default).lo i = true) (fun vi => m.ss.length - (intOf (K.nth vi 0)).toNat) ?_ ?_
  · exact ⟨0, rfl, rfl, Nat.zero_le _, fun j hj => absurd hj (Nat.not_lt_zero j)⟩
  intro vi vr L hJ
  obtain ⟨k, rfl, rfl, hkn, hall⟩ := hJ
  try dsimp only [setd, setn, ev, nth, over, cl, eI, eP, eT, eN, eS, setM, setF, List.map, List.append, List.drop, List.take]
  refine K.seq ?_
  refine sr ?_
  refine qm ?_
  refine qp (K.fieldAddr_lit fo_26_4 rfl) ?_
  refine K.seq_sil (K.load1_own one_24 rfl (K.m0) rfl) rfl ?_
  refine zN ?_
  refine qp (K.len_sl sl_24 rfl) ?_
  refine qp (K.lss rfl rfl) ?_
  refine sn ?_
  refine K.cond rfl (fun ht13 => ?_) (fun ht13 => ?_)
  · try replace ht13 := of_decide_eq_true ht13
    have hk : k < m.ss.length := by omega
    have hst := g.st hk
    refine K.skip ?_
    refine K.norm_then ?_
    refine K.seq ?_
    refine K.block ?_
    refine sr ?_
    refine qp (K.fieldAddr_lit fo_26_4 rfl) ?_
    refine K.seq_sil (K.load1_own one_24 rfl (K.m0) rfl) rfl ?_
    refine zN ?_
    refine qm ?_
    refine K.seq_ix (M := []) _ hS.sl sl_24 rfl rfl rfl (by omega) rfl ?_
    intro p19 hp19
    refine zN ?_
    refine K.seq_sil (K.loadA_p ag_63 rfl (hp19.any) rfl) rfl ?_
    refine zN ?_
    refine K.seq_new (K.alloc zr_63) rfl ?_
    intro b8
    refine zN ?_
    refine K.seq_st (K.store_all sz_63 rfl rfl rfl rfl (K.rp0)) rfl ?_
    refine zN ?_
    refine sn ?_
    refine sr ?_
    refine K.seq_sil (K.loadA_own ag_26 rfl (K.m1) rfl) rfl ?_
    refine zN ?_
    refine qm ?_
    refine qp (K.fieldAddr_lit fo_63_0 rfl) ?_
    refine K.seq_sil (K.load1_own one_3 rfl (K.m0) rfl) rfl ?_
    refine zN ?_
    refine qp (K.fieldAddr_lit fo_63_1 rfl) ?_
    refine K.seq_sil (K.load1_own one_3 rfl (K.m0) rfl) rfl ?_
    refine zN ?_
    refine qp (K.fieldAddr_lit fo_63_2 rfl) ?_
    refine qp (K.fieldAddr_lit fo_61_0 rfl) ?_
    refine K.seq_sil (K.load1_own one_3 rfl (K.m0) rfl) rfl ?_
    refine zN ?_
    refine qm ?_
    refine K.seq_loud (K.call_f cal_66 (fun F w hF hw => c66 (hH.pass hw) (hP.pass hw) (hL.pass hw) hll hl ⟨g, hi, by omega, by omega⟩ (by omega))) rfl ?_
    rintro ⟨Q2, q2⟩ hq
    refine zN ?_
    refine qp (K.len_sl sl_22 rfl) ?_
    refine qp (K.Pure.eq (K.gtr rfl rfl) (show _ = Value.bool (!seesB m l (m.ss.getD k default).x (m.ss.getD k default).y (m.ss.getD k default).lo i) from congrArg Value.bool hides_pos)) ?_
    refine sn ?_
    refine K.cond rfl (fun ht33 => ?_) (fun ht33 => ?_)
    · try replace ht33 := of_decide_eq_true ht33
      refine sr ?_
      refine qa ?_
      refine sn ?_
      refine K.ret ?_
      refine K.ret_block ?_
      refine K.ret_then ?_
      refine K.ret_then ?_
      refine K.ret_block ?_
      refine K.ret_then ?_
      refine K.end_ret (fun w _ => K.res_tmp rfl w) ?_
      have ho : openB m l i = false := List.all_eq_false.2 ⟨k, List.mem_range.2 hk, by simpa using ht33⟩
      exact K.gives (by rw [ho]; rfl)
    try replace ht33 := of_decide_eq_false ht33
    refine K.skip ?_
    refine K.norm_block ?_
    refine K.norm_then ?_
    refine K.region_lit ?_
    refine qm ?_
    refine qp (K.add_i64 rfl rfl (by omega)) ?_
    refine qa ?_
    refine K.seq_nil ?_
    exact K.round_endW (L'' := [K.blk b3 26 [.int .i64 m.W, .int .i64 m.D, .slice A m.hs.length c, .slice B m.ps.length d, .slice C m.ss.length e]]) [.int .i64 ((k : Int) + 1)] ⟨k + 1, rfl, rfl, by omega, fun j hj => by rcases Nat.lt_or_ge j k with h | h; exact hall j h; rw [show j = k by omega]; simpa using ht33⟩ (by simp [K.nth, intOf]; omega) (by repeat (first | exact List.Sublist.refl _ | apply List.Sublist.cons)) (by kernel_rfl)
  try replace ht13 := of_decide_eq_false ht13
  refine K.exit ?_
  refine K.exit_then ?_
  refine K.exit_then ?_
  refine K.exit_here ?_
  refine K.norm_then ?_
  refine sr ?_
  refine qa ?_
  refine sn ?_
  refine K.ret ?_
  refine K.end_ret (fun w _ => K.res_tmp rfl w) ?_
  have ho : openB m l i = true := List.all_eq_true.2 (fun j hj => hall j (by have := List.mem_range.1 hj; omega))
  exact K.gives (by rw [ho]; rfl)

set_option maxRecDepth 100000 in
set_option maxHeartbeats 1000000 in
theorem c44 {m : Mod} {A B C : Option Addr} {c d e : Nat} {Q : Option Addr} {q : Nat} {l : List Int} {w : World} (hH : K.Rd w A 1 K.eI m.hs) (hP : K.Rd w B 5 eN m.ps) (hS : K.Rd w C 4 eS m.ss) (hL : K.Rd w Q 1 K.eI l) (hll : l.length = m.ps.length) (hl : LB l) (g : Good m) (hlm : LM m l) :
    Calls Tryd.prog 44 [.agg #[.int .i64 m.W, .int .i64 m.D, .slice A m.hs.length c, .slice B m.ps.length d, .slice C m.ss.length e], .slice Q l.length q].toArray w (K.RetS 3 1 K.eI (roundR m l m.ps.length) w) := by
  have hgn := g.n
  refine K.enter (args := [.agg #[.int .i64 m.W, .int .i64 m.D, .slice A m.hs.length c, .slice B m.ps.length d, .slice C m.ss.length e], .slice Q l.length q]) Tryd.func44 rfl (n := 47) rfl ?_
  simp only [List.replicate, List.cons_append, List.nil_append]
  refine sr ?_
  refine K.seq_new (K.box) rfl ?_
  intro b2
  refine zN ?_
  refine qa ?_
  refine sn ?_
  refine sr ?_
  refine qa ?_
  refine sn ?_
  refine K.seq ?_
  refine sr ?_
  refine K.nil_row (e := 3) (size := 1) ?_
  refine qa ?_
  refine sn ?_
  refine K.block ?_
  refine K.loopW [5, 6] [7, 8, 9, 10, 11, 12, 13, 14, 15, 16, 17, 18, 19, 20, 21, 22, 23, 24, 25, 26, 27, 28, 29, 30, 31, 32, 33, 34, 35, 36, 37, 38, 39, 40, 41, 42, 43, 44, 45, 46, 47] (fun vi L => ∃ (k : Nat) (Q1 : Option Addr) (q1 : Nat), vi = [.slice Q1 (roundR m l k).length q1, .int .i64 (k : Int)] ∧ L = [K.row (.slice Q1 (roundR m l k).length q1) 3 1 (roundR m l k).length ((roundR m l k).flatMap K.eI), K.blk b2 26 [.int .i64 m.W, .int .i64 m.D, .slice A m.hs.length c, .slice B m.ps.length d, .slice C m.ss.length e]] ∧ k ≤ l.length) (fun vi => l.length - (intOf (K.nth vi 1)).toNat) ?_ ?_
  · exact ⟨0, none, 0, rfl, rfl, Nat.zero_le _⟩
  intro vi vr L hJ
  obtain ⟨k, Q1, q1, rfl, rfl, hkn⟩ := hJ
  try dsimp only [setd, setn, ev, nth, over, cl, eI, eP, eT, eN, eS, setM, setF, List.map, List.append, List.drop, List.take]
  refine K.seq ?_
  refine sr ?_
  iterate 2 refine qm ?_
  refine qp (K.len_sl sl_22 rfl) ?_
  refine qp (K.lss rfl rfl) ?_
  refine sn ?_
  refine K.cond rfl (fun ht13 => ?_) (fun ht13 => ?_)
  · try replace ht13 := of_decide_eq_true ht13
    have hk : k < l.length := by omega
    have hkp : k < m.ps.length := by omega
    have hgp := g.p k hkp
    have hlk := hl k
    have hlmk := hlm k hkp
    have hrl := @roundR_len m l k
    refine K.skip ?_
    refine K.norm_then ?_
    refine K.seq ?_
    refine K.block ?_
    refine K.seq ?_
    refine K.draw_L [] Tryd_mixed ?_
    refine K.d_pure 0 rfl (K.move) (by kernel_rfl) rfl ?_
    refine zn ?_
    refine K.d_pure 1 rfl (K.move) (by kernel_rfl) rfl ?_
    refine zn ?_
    refine K.d_ix (M := []) 2 _ rfl hL.sl sl_22 rfl rfl rfl (by omega) (by kernel_rfl) rfl ?_
    intro p18 hp18
    refine zN ?_
    refine K.d_mem 3 rfl (K.load1 one_3 rfl (hp18.any)) (fun _ h => h) (by kernel_rfl) (by kernel_rfl) rfl ?_
    refine zN ?_
    refine K.d_pure 4 rfl (K.fieldAddr_lit fo_26_3 rfl) (by kernel_rfl) rfl ?_
    refine zn ?_
    refine K.d_mem 5 rfl (K.load1_own one_23 rfl (K.m1) rfl) (fun _ h => h) (by kernel_rfl) (by kernel_rfl) rfl ?_
    refine zN ?_
    refine K.d_pure 6 rfl (K.move) (by kernel_rfl) rfl ?_
    refine zn ?_
    refine K.d_ix (M := []) 7 _ rfl hP.sl sl_23 rfl rfl rfl (by omega) (by kernel_rfl) rfl ?_
    intro p23 hp23
    refine zN ?_
    refine K.d_pure 8 rfl (K.fieldAddr fo_54_4 rfl) (by kernel_rfl) rfl ?_
    refine zn ?_
    refine K.d_mem 9 rfl (K.load1 one_3 rfl ((K.PtrL.fld hp23 (k := 4)).any)) (fun _ h => h) (by kernel_rfl) (by kernel_rfl) rfl ?_
    refine zN ?_
    refine K.d_pure 10 rfl (K.add_i64 rfl rfl (by omega)) (by kernel_rfl) rfl ?_
    refine zn ?_
    refine K.d_pure 11 rfl (K.assign) (by kernel_rfl) rfl ?_
    refine zn ?_
    refine K.d_pure 12 rfl (K.assign) (by kernel_rfl) rfl ?_
    refine zn ?_
    refine K.d_done (by kernel_rfl) ?_
    refine K.norm_then ?_
    refine K.seq ?_
    refine K.block ?_
    refine K.loopW [7, 8] [9, 27, 28, 29, 30, 31, 32, 33, 34, 35, 36, 37, 38, 39, 40, 41, 42, 43] (fun vi L => ∃ lo hi : Int, vi = [.int .i64 lo, .int .i64 hi] ∧ L = [K.row (.slice Q1 (roundR m l k).length q1) 3 1 (roundR m l k).length ((roundR m l k).flatMap K.eI), K.blk b2 26 [.int .i64 m.W, .int .i64 m.D, .slice A m.hs.length c, .slice B m.ps.length d, .slice C m.ss.length e]] ∧ (l.getD k default) ≤ lo ∧ lo ≤ hi ∧ hi ≤ (m.ps.getD k default).most + 1 ∧ lo ≤ max (l.getD k default) (needS m l k) ∧ ((needS m l k) ≤ hi ∨ hi = (m.ps.getD k default).most + 1)) (fun vi => ((intOf (K.nth vi 1)) - (intOf (K.nth vi 0))).toNat) ?_ ?_
    · exact ⟨(l.getD k default), (m.ps.getD k default).most + 1, rfl, rfl, by omega, by omega, by omega, by omega, .inr rfl⟩
    intro vi vr L hJ
    obtain ⟨lo, hi, rfl, rfl, h0, h1, h2, h3, hE⟩ := hJ
    try dsimp only [setd, setn, ev, nth, over, cl, eI, eP, eT, eN, eS, setM, setF, List.map, List.append, List.drop, List.take]
    refine K.seq ?_
    refine sr ?_
    iterate 2 refine qm ?_
    refine qp (K.lss rfl rfl) ?_
    refine sn ?_
    refine K.cond rfl (fun ht29 => ?_) (fun ht29 => ?_)
    · try replace ht29 := of_decide_eq_true ht29
      refine K.skip ?_
      refine K.norm_then ?_
      refine K.block ?_
      refine sr ?_
      iterate 2 refine qm ?_
      refine qp (K.add_i64 rfl rfl (by omega)) ?_
      refine qp (K.Pure.eq (K.quo_t rfl rfl (by omega) (by omega)) (show _ = Value.int .i64 ((lo + hi) / 2) from by rw [Int.tdiv_eq_ediv_of_nonneg (by omega)])) ?_
      refine qa ?_
      refine sn ?_
      refine K.seq ?_
      refine K.draw_L [] Tryd_mixed ?_
      refine K.d_mem 0 rfl (K.loadA_own ag_26 rfl (K.m1) rfl) (fun _ h => h) (by kernel_rfl) (by kernel_rfl) rfl ?_
      refine zN ?_
      refine K.d_pure 1 rfl (K.move) (by kernel_rfl) rfl ?_
      refine zn ?_
      refine K.d_pure 2 rfl (K.move) (by kernel_rfl) rfl ?_
      refine zn ?_
      refine K.d_pure 3 rfl (K.move) (by kernel_rfl) rfl ?_
      refine zn ?_
      refine K.d_pure 5 rfl (K.move) (by kernel_rfl) rfl ?_
      refine zn ?_
      refine K.d_loud 4 rfl (K.call_f cal_79 (fun F w hF hw => c79 (hL.pass hw) (by omega) (by omega))) (fun _ h => h) (by kernel_rfl) rfl ?_
      rintro ⟨gb, rest, cb⟩ _
      refine zN ?_
      refine K.d_call 6 rfl (K.call_g cal_87 (fun F w hF hw => (by have hh := (K.Rd.litp (e := K.eI) (xs := l.set k ((lo + hi) / 2)) hw (hF _ (K.m0)) (fun _ => rfl) (by decide) rfl); have hz : (l.set k ((lo + hi) / 2)).length = m.ps.length := List.length_set.trans hll; exact c87 (hH.pass hw) (hP.pass hw) (hS.pass hw) hh hz (lb_set hl (by omega)) g hkp))) (fun _ h => K.tl h) (by kernel_rfl) rfl ?_
      refine zN ?_
      refine K.d_done (by kernel_rfl) ?_
      refine K.norm_then ?_
      refine K.cond rfl (fun ht40 => ?_) (fun ht40 => ?_)
      · try replace ht40 := of_decide_eq_true ht40
        refine K.region_lit ?_
        refine qm ?_
        refine qa ?_
        refine K.seq_nil ?_
        refine K.norm_block ?_
        have hse : (needS m l k) ≤ ((lo + hi) / 2) := (open_iff g hkp (by omega) (by omega)).1 ht40
        exact K.round_endW (L'' := [K.row (.slice Q1 (roundR m l k).length q1) 3 1 (roundR m l k).length ((roundR m l k).flatMap K.eI), K.blk b2 26 [.int .i64 m.W, .int .i64 m.D, .slice A m.hs.length c, .slice B m.ps.length d, .slice C m.ss.length e]]) [.int .i64 lo, .int .i64 ((lo + hi) / 2)] ⟨lo, ((lo + hi) / 2), rfl, rfl, by omega, by omega, by omega, by omega, .inl hse⟩ (by simp [K.nth, intOf]; omega) (by repeat (first | exact List.Sublist.refl _ | apply List.Sublist.cons)) (by kernel_rfl)
      try replace ht40 := of_decide_eq_false ht40
      refine K.region_lit ?_
      refine qm ?_
      refine qp (K.add_i64 rfl rfl (by omega)) ?_
      refine qa ?_
      refine K.seq_nil ?_
      refine K.norm_block ?_
      have hse : ¬ (needS m l k) ≤ ((lo + hi) / 2) := fun h => by have h2 := (open_iff g hkp (by omega) (by omega)).2 h; rw [h2] at ht40; cases ht40
      exact K.round_endW (L'' := [K.row (.slice Q1 (roundR m l k).length q1) 3 1 (roundR m l k).length ((roundR m l k).flatMap K.eI), K.blk b2 26 [.int .i64 m.W, .int .i64 m.D, .slice A m.hs.length c, .slice B m.ps.length d, .slice C m.ss.length e]]) [.int .i64 (((lo + hi) / 2) + 1), .int .i64 hi] ⟨((lo + hi) / 2) + 1, hi, rfl, rfl, by omega, by omega, by omega, by omega, hE⟩ (by simp [K.nth, intOf]; omega) (by repeat (first | exact List.Sublist.refl _ | apply List.Sublist.cons)) (by kernel_rfl)
    try replace ht29 := of_decide_eq_false ht29
    refine K.exit ?_
    refine K.exit_then ?_
    refine K.exit_then ?_
    refine K.exit_here ?_
    refine K.norm_then ?_
    refine K.region_lit ?_
    iterate 2 refine qm ?_
    refine K.seq_new (K.buildSlice (bs1 _)) rfl ?_
    intro b46
    refine zN ?_
    refine K.seq_upd (K.append el_22 rfl rfl (K.PtrL.own' (K.m0)) rfl rfl (by decide) (by omega) (by omega) (fun _ _ => K.rp1)) rfl ?_
    rintro ⟨g47, c47⟩ _
    refine zN ?_
    refine qa ?_
    refine K.seq_nil ?_
    refine K.norm_block ?_
    refine K.norm_then ?_
    refine K.region_lit ?_
    refine qm ?_
    refine qp (K.add_i64 rfl rfl (by omega)) ?_
    refine qa ?_
    refine K.seq_nil ?_
    have hlo : lo = min (max (l.getD k default) (needS m l k)) ((m.ps.getD k default).most + 1) := by omega
    exact K.round_endW (L'' := [K.row (.slice (some ⟨g47, 0, none⟩) ((roundR m l k).length + 1) c47) 3 1 ((roundR m l k).length + 1) ((roundR m l k).flatMap K.eI ++ [.int .i64 lo]), K.blk b2 26 [.int .i64 m.W, .int .i64 m.D, .slice A m.hs.length c, .slice B m.ps.length d, .slice C m.ss.length e]]) [.slice (some ⟨g47, 0, none⟩) ((roundR m l k).length + 1) c47, .int .i64 ((k : Int) + 1)] ⟨k + 1, some ⟨g47, 0, none⟩, c47, by rw [roundR_succ, List.length_append]; rfl, by rw [roundR_succ, List.length_append, List.flatMap_append, ← hlo]; rfl, by omega⟩ (by simp [K.nth, intOf]; omega) (by repeat (first | exact List.Sublist.refl _ | apply List.Sublist.cons)) (by kernel_rfl)
  try replace ht13 := of_decide_eq_false ht13
  refine K.exit ?_
  refine K.exit_then ?_
  refine K.exit_then ?_
  refine K.exit_here ?_
  refine K.norm_then ?_
  refine sr ?_
  refine qm ?_
  refine qa ?_
  refine sn ?_
  refine K.ret ?_
  refine K.end_ret (fun w _ => K.res_tmp rfl w) ?_
  have e0 : k = m.ps.length := by omega
  exact K.rets_s K.m0 (by rw [e0]) (by rw [e0]) rfl

set_option maxRecDepth 100000 in
theorem c78 {m : Mod} {A B C : Option Addr} {c d e : Nat} {Q : Option Addr} {q : Nat} {l : List Int} {w : World} (hP : K.Rd w B 5 eN m.ps) (hL : K.Rd w Q 1 K.eI l) (hll : l.length = m.ps.length) (hgn : m.ps.length ≤ 6) :
    Calls Tryd.prog 78 [.agg #[.int .i64 m.W, .int .i64 m.D, .slice A m.hs.length c, .slice B m.ps.length d, .slice C m.ss.length e], .slice Q l.length q].toArray w (K.Gives (.int .i64 (pinV (tooR m l))) w) := by
  refine K.enter (args := [.agg #[.int .i64 m.W, .int .i64 m.D, .slice A m.hs.length c, .slice B m.ps.length d, .slice C m.ss.length e], .slice Q l.length q]) Tryd.func78 rfl (n := 22) rfl ?_
  simp only [List.replicate, List.cons_append, List.nil_append]
  refine sr ?_
  refine K.seq_new (K.box) rfl ?_
  intro b2
  refine zN ?_
  refine qa ?_
  refine sn ?_
  refine K.seq ?_
  refine sr ?_
  refine qa ?_
  refine sn ?_
  refine K.block ?_
  refine K.loopW [5] [4, 6, 7, 8, 9, 10, 11, 12, 13, 14, 15, 16, 17, 18, 19, 20, 21, 22, 23] (fun vi L => ∃ k : Nat, vi = [.int .i64 (k : Int)] ∧ L = [K.blk b2 26 [.int .i64 m.W, .int .i64 m.D, .slice A m.hs.length c, .slice B m.ps.length d, .slice C m.ss.length e]] ∧ k ≤ l.length ∧ ∀ j, j < k → ¬ l.getD j default > (m.ps.getD j default).most) (fun vi => l.length - (intOf (K.nth vi 0)).toNat) ?_ ?_
  · exact ⟨0, rfl, rfl, Nat.zero_le _, fun j hj => absurd hj (Nat.not_lt_zero j)⟩
  intro vi vr L hJ
  obtain ⟨k, rfl, rfl, hkn, hall⟩ := hJ
  try dsimp only [setd, setn, ev, nth, over, cl, eI, eP, eT, eN, eS, setM, setF, List.map, List.append, List.drop, List.take]
  refine K.seq ?_
  refine sr ?_
  iterate 2 refine qm ?_
  refine qp (K.len_sl sl_22 rfl) ?_
  refine qp (K.lss rfl rfl) ?_
  refine sn ?_
  refine K.cond rfl (fun ht9 => ?_) (fun ht9 => ?_)
  · try replace ht9 := of_decide_eq_true ht9
    have hk : k < l.length := by omega
    refine K.skip ?_
    refine K.norm_then ?_
    refine K.seq ?_
    refine K.block ?_
    refine K.seq ?_
    refine K.draw_L [] Tryd_mixed ?_
    refine K.d_pure 0 rfl (K.move) (by kernel_rfl) rfl ?_
    refine zn ?_
    refine K.d_pure 1 rfl (K.move) (by kernel_rfl) rfl ?_
    refine zn ?_
    refine K.d_ix (M := []) 2 _ rfl hL.sl sl_22 rfl rfl rfl (by omega) (by kernel_rfl) rfl ?_
    intro p14 hp14
    refine zN ?_
    refine K.d_mem 3 rfl (K.load1 one_3 rfl (hp14.any)) (fun _ h => h) (by kernel_rfl) (by kernel_rfl) rfl ?_
    refine zN ?_
    refine K.d_pure 4 rfl (K.fieldAddr_lit fo_26_3 rfl) (by kernel_rfl) rfl ?_
    refine zn ?_
    refine K.d_mem 5 rfl (K.load1_own one_23 rfl (K.m0) rfl) (fun _ h => h) (by kernel_rfl) (by kernel_rfl) rfl ?_
    refine zN ?_
    refine K.d_pure 6 rfl (K.move) (by kernel_rfl) rfl ?_
    refine zn ?_
    refine K.d_ix (M := []) 7 _ rfl hP.sl sl_23 rfl rfl rfl (by omega) (by kernel_rfl) rfl ?_
    intro p19 hp19
    refine zN ?_
    refine K.d_pure 8 rfl (K.fieldAddr fo_54_4 rfl) (by kernel_rfl) rfl ?_
    refine zn ?_
    refine K.d_mem 9 rfl (K.load1 one_3 rfl ((K.PtrL.fld hp19 (k := 4)).any)) (fun _ h => h) (by kernel_rfl) (by kernel_rfl) rfl ?_
    refine zN ?_
    refine K.d_pure 10 rfl (K.gtr rfl rfl) (by kernel_rfl) rfl ?_
    refine zn ?_
    refine K.d_done (by kernel_rfl) ?_
    refine K.norm_then ?_
    refine K.cond rfl (fun ht22 => ?_) (fun ht22 => ?_)
    · try replace ht22 := of_decide_eq_true ht22
      refine sr ?_
      refine qm ?_
      refine qa ?_
      refine sn ?_
      refine K.ret ?_
      refine K.ret_block ?_
      refine K.ret_then ?_
      refine K.ret_then ?_
      refine K.ret_block ?_
      refine K.ret_then ?_
      refine K.end_ret (fun w _ => K.res_tmp rfl w) ?_
      exact K.gives (by rw [too_find hk hall ht22]; rfl)
    try replace ht22 := of_decide_eq_false ht22
    refine K.skip ?_
    refine K.norm_block ?_
    refine K.norm_then ?_
    refine K.region_lit ?_
    refine qm ?_
    refine qp (K.add_i64 rfl rfl (by omega)) ?_
    refine qa ?_
    refine K.seq_nil ?_
    exact K.round_endW (L'' := [K.blk b2 26 [.int .i64 m.W, .int .i64 m.D, .slice A m.hs.length c, .slice B m.ps.length d, .slice C m.ss.length e]]) [.int .i64 ((k : Int) + 1)] ⟨k + 1, rfl, rfl, by omega, fun j hj => by rcases Nat.lt_or_ge j k with h | h; exact hall j h; rw [show j = k by omega]; exact ht22⟩ (by simp [K.nth, intOf]; omega) (by repeat (first | exact List.Sublist.refl _ | apply List.Sublist.cons)) (by kernel_rfl)
  try replace ht9 := of_decide_eq_false ht9
  refine K.exit ?_
  refine K.exit_then ?_
  refine K.exit_then ?_
  refine K.exit_here ?_
  refine K.norm_then ?_
  refine sr ?_
  refine qa ?_
  refine sn ?_
  refine K.ret ?_
  refine K.end_ret (fun w _ => K.res_tmp rfl w) ?_
  exact K.gives (by rw [too_no (fun i hi => hall i (by omega))]; rfl)

end Go.Proofs.YthkgnhcknkjgdaaDoor
