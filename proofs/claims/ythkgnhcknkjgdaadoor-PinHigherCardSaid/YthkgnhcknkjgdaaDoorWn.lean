/-
  Walks of the program's functions, printed by program: what each returns.
  Conditions stand in each theorem.
-/
import Derived.WalkArith
import Derived.Laws.Closers25b
import Derived.Test.YthkgnhcknkjgdaaDoorS3
import Derived.Test.YthkgnhcknkjgdaaDoorWm
set_option linter.unusedSimpArgs false
set_option linter.unusedVariables false
namespace Go.Proofs.YthkgnhcknkjgdaaDoor
open Go.RowKit Go
open Go.K (setd setn ev nth over cl eI eP eT setM setF)
attribute [local irreducible] K.blk K.row

set_option maxRecDepth 100000 in
theorem c71 {m : Mod} {A B C : Option Addr} {c d e : Nat} {Q : Option Addr} {q : Nat} {l : List Int} {x y eye : Int} {w : World} (hH : K.Rd w A 1 K.eI m.hs) (hP : K.Rd w B 5 eN m.ps) (hL : K.Rd w Q 1 K.eI l) (hll : l.length = m.ps.length) (hl : LB l) (g : Good m) (hx : -20 ≤ x ∧ x ≤ 20) (hy : -20 ≤ y ∧ y ≤ 20) (he : 0 ≤ eye ∧ eye ≤ 3000) :
    Calls Tryd.prog 71 [.agg #[.int .i64 m.W, .int .i64 m.D, .slice A m.hs.length c, .slice B m.ps.length d, .slice C m.ss.length e], .slice Q l.length q, .int .i64 x, .int .i64 y, .int .i64 eye].toArray w (K.RetS 3 1 K.eI (selN (seesB m l x y eye) m.ps.length) w) := by
  have hgn := g.n
  refine K.enter (args := [.agg #[.int .i64 m.W, .int .i64 m.D, .slice A m.hs.length c, .slice B m.ps.length d, .slice C m.ss.length e], .slice Q l.length q, .int .i64 x, .int .i64 y, .int .i64 eye]) Tryd.func71 rfl (n := 29) rfl ?_
  simp only [List.replicate, List.cons_append, List.nil_append]
  refine sr ?_
  refine K.seq_new (K.box) rfl ?_
  intro b5
  refine zN ?_
  refine qa ?_
  refine sn ?_
  refine sr ?_
  refine qa ?_
  refine sn ?_
  refine K.seq ?_
  refine sr ?_
  refine K.nil_row (e := 3) (size := 1) ?_
  refine qa ?_
  refine sn ?_
  refine K.block ?_
  refine K.loopW [11, 12] [13, 14, 15, 16, 17, 18, 19, 20, 21, 22, 23, 24, 25, 26, 27, 28, 29, 30, 31, 32] (fun vi L => ∃ (k : Nat) (Q1 : Option Addr) (q1 : Nat), vi = [.slice Q1 (selN (seesB m l x y eye) k).length q1, .int .i64 (k : Int)] ∧ L = [K.row (.slice Q1 (selN (seesB m l x y eye) k).length q1) 3 1 (selN (seesB m l x y eye) k).length ((selN (seesB m l x y eye) k).flatMap K.eI), K.blk b5 26 [.int .i64 m.W, .int .i64 m.D, .slice A m.hs.length c, .slice B m.ps.length d, .slice C m.ss.length e]] ∧ k ≤ m.ps.length) (fun vi => m.ps.length - (intOf (K.nth vi 1)).toNat) ?_ ?_
  · exact ⟨0, none, 0, rfl, rfl, Nat.zero_le _⟩
  intro vi vr L hJ
  obtain ⟨k, Q1, q1, rfl, rfl, hkn⟩ := hJ
  try dsimp only [setd, setn, ev, nth, over, cl, eI, eP, eT, eN, eS, setM, setF, List.map, List.append, List.drop, List.take]
  refine K.seq ?_
  refine sr ?_
  refine qm ?_
  refine qp (K.fieldAddr_lit fo_26_3 rfl) ?_
  refine K.seq_sil (K.load1_own one_23 rfl (K.m1) rfl) rfl ?_
  refine zN ?_
  refine qp (K.len_sl sl_23 rfl) ?_
  refine qp (K.lss rfl rfl) ?_
  refine sn ?_
  refine K.cond rfl (fun ht17 => ?_) (fun ht17 => ?_)
  · try replace ht17 := of_decide_eq_true ht17
    have hk : k < m.ps.length := by omega
    have hsl := selN_len (p := seesB m l x y eye) (n := k)
    refine K.skip ?_
    refine K.norm_then ?_
    refine K.seq ?_
    refine K.block ?_
    refine sr ?_
    refine K.seq_sil (K.loadA_own ag_26 rfl (K.m1) rfl) rfl ?_
    refine zN ?_
    iterate 5 refine qm ?_
    refine K.seq_loud (K.call_f cal_66 (fun F w hF hw => c66 (hH.pass hw) (hP.pass hw) (hL.pass hw) hll hl ⟨g, hk, hx, hy⟩ he)) rfl ?_
    rintro ⟨Q2, q2⟩ hq
    refine zN ?_
    refine qp (K.len_sl sl_22 rfl) ?_
    refine qp (K.Pure.eq (K.eql rfl rfl) (show _ = Value.bool (seesB m l x y eye k) from by rw [← sees_len])) ?_
    refine sn ?_
    refine K.cond rfl (fun ht28 => ?_) (fun ht28 => ?_)
    · try replace ht28 := of_decide_eq_true ht28
      refine K.region_lit ?_
      iterate 2 refine qm ?_
      refine K.seq_new (K.buildSlice (bs1 _)) rfl ?_
      intro b31
      refine zN ?_
      refine K.seq_upd (K.append el_22 rfl rfl (K.PtrL.own' (K.m0)) rfl rfl (by decide) (by omega) (by omega) (fun _ _ => K.rp2)) rfl ?_
      rintro ⟨g32, c32⟩ _
      refine zN ?_
      refine qa ?_
      refine K.seq_nil ?_
      refine K.norm_block ?_
      refine K.norm_then ?_
      refine K.region_lit ?_
      refine qm ?_
      refine qp (K.add_i64 rfl rfl (by omega)) ?_
      refine qa ?_
      refine K.seq_nil ?_
      exact K.round_endW (L'' := [K.row (.slice (some ⟨g32, 0, none⟩) ((selN (seesB m l x y eye) k).length + 1) c32) 3 1 ((selN (seesB m l x y eye) k).length + 1) ((selN (seesB m l x y eye) k).flatMap K.eI ++ [.int .i64 (k : Int)]), K.blk b5 26 [.int .i64 m.W, .int .i64 m.D, .slice A m.hs.length c, .slice B m.ps.length d, .slice C m.ss.length e]]) [.slice (some ⟨g32, 0, none⟩) ((selN (seesB m l x y eye) k).length + 1) c32, .int .i64 ((k : Int) + 1)] ⟨k + 1, some ⟨g32, 0, none⟩, c32, by rw [selN_yes ht28, List.length_append]; rfl, by rw [selN_yes ht28, List.length_append, List.flatMap_append]; rfl, by omega⟩ (by simp [K.nth, intOf]; omega) (by repeat (first | exact List.Sublist.refl _ | apply List.Sublist.cons)) (by kernel_rfl)
    try replace ht28 := of_decide_eq_false ht28
    refine K.skip ?_
    refine K.norm_block ?_
    refine K.norm_then ?_
    refine K.region_lit ?_
    refine qm ?_
    refine qp (K.add_i64 rfl rfl (by omega)) ?_
    refine qa ?_
    refine K.seq_nil ?_
    exact K.round_endW (L'' := [K.row (.slice Q1 (selN (seesB m l x y eye) k).length q1) 3 1 (selN (seesB m l x y eye) k).length ((selN (seesB m l x y eye) k).flatMap K.eI), K.blk b5 26 [.int .i64 m.W, .int .i64 m.D, .slice A m.hs.length c, .slice B m.ps.length d, .slice C m.ss.length e]]) [.slice Q1 (selN (seesB m l x y eye) k).length q1, .int .i64 ((k : Int) + 1)] ⟨k + 1, Q1, q1, by rw [selN_no ht28]; rfl, by rw [selN_no ht28], by omega⟩ (by simp [K.nth, intOf]; omega) (by repeat (first | exact List.Sublist.refl _ | apply List.Sublist.cons)) (by kernel_rfl)
  try replace ht17 := of_decide_eq_false ht17
  refine K.exit ?_
  refine K.exit_then ?_
  refine K.exit_then ?_
  refine K.exit_here ?_
  refine K.norm_then ?_
  refine sr ?_
  refine qm ?_
  refine qa ?_
  refine sn ?_
  refine K.ret ?_
  refine K.end_ret (fun w _ => K.res_tmp rfl w) ?_
  have e0 : k = m.ps.length := by omega
  exact K.rets_s K.m0 (by rw [e0]) (by rw [e0]) rfl

set_option maxRecDepth 100000 in
theorem c70 {m : Mod} {A B C : Option Addr} {c d e : Nat} {Q : Option Addr} {q s : Nat} {l : List Int} {w : World} (hH : K.Rd w A 1 K.eI m.hs) (hP : K.Rd w B 5 eN m.ps) (hS : K.Rd w C 4 eS m.ss) (hL : K.Rd w Q 1 K.eI l) (hll : l.length = m.ps.length) (hl : LB l) (g : Good m) (hs : s < m.ss.length) :
    Calls Tryd.prog 70 [.agg #[.int .i64 m.W, .int .i64 m.D, .slice A m.hs.length c, .slice B m.ps.length d, .slice C m.ss.length e], .slice Q l.length q, .int .i64 (s : Int)].toArray w (K.RetS 3 1 K.eI (seenL m l s (m.ss.getD s default).lo) w) := by
  have hst := g.st hs
  unfold seenL
  refine K.enter (args := [.agg #[.int .i64 m.W, .int .i64 m.D, .slice A m.hs.length c, .slice B m.ps.length d, .slice C m.ss.length e], .slice Q l.length q, .int .i64 (s : Int)]) Tryd.func70 rfl (n := 26) rfl ?_
  simp only [List.replicate, List.cons_append, List.nil_append]
  refine sr ?_
  refine K.seq_new (K.box) rfl ?_
  intro b3
  refine zN ?_
  refine qa ?_
  refine sn ?_
  refine K.seq ?_
  refine K.draw_L [] Tryd_mixed ?_
  refine K.d_mem 0 rfl (K.loadA_own ag_26 rfl (K.m0) rfl) (fun _ h => h) (by kernel_rfl) (by kernel_rfl) rfl ?_
  refine zN ?_
  refine K.d_pure 1 rfl (K.move) (by kernel_rfl) rfl ?_
  refine zn ?_
  refine K.d_pure 2 rfl (K.fieldAddr_lit fo_26_4 rfl) (by kernel_rfl) rfl ?_
  refine zn ?_
  refine K.d_mem 3 rfl (K.load1_own one_24 rfl (K.m0) rfl) (fun _ h => h) (by kernel_rfl) (by kernel_rfl) rfl ?_
  refine zN ?_
  refine K.d_pure 4 rfl (K.move) (by kernel_rfl) rfl ?_
  refine zn ?_
  refine K.d_ix (M := []) 5 _ rfl hS.sl sl_24 rfl rfl rfl (by omega) (by kernel_rfl) rfl ?_
  intro p12 hp12
  refine zN ?_
  refine K.d_pure 6 rfl (K.fieldAddr fo_63_0 rfl) (by kernel_rfl) rfl ?_
  refine zn ?_
  refine K.d_mem 7 rfl (K.load1 one_3 rfl ((K.PtrL.fld hp12 (k := 0)).any)) (fun _ h => h) (by kernel_rfl) (by kernel_rfl) rfl ?_
  refine zN ?_
  refine K.d_pure 8 rfl (K.fieldAddr_lit fo_26_4 rfl) (by kernel_rfl) rfl ?_
  refine zn ?_
  refine K.d_mem 9 rfl (K.load1_own one_24 rfl (K.m0) rfl) (fun _ h => h) (by kernel_rfl) (by kernel_rfl) rfl ?_
  refine zN ?_
  refine K.d_pure 10 rfl (K.move) (by kernel_rfl) rfl ?_
  refine zn ?_
  refine K.d_ix (M := []) 11 _ rfl hS.sl sl_24 rfl rfl rfl (by omega) (by kernel_rfl) rfl ?_
  intro p18 hp18
  refine zN ?_
  refine K.d_pure 12 rfl (K.fieldAddr fo_63_1 rfl) (by kernel_rfl) rfl ?_
  refine zn ?_
  refine K.d_mem 13 rfl (K.load1 one_3 rfl ((K.PtrL.fld hp18 (k := 1)).any)) (fun _ h => h) (by kernel_rfl) (by kernel_rfl) rfl ?_
  refine zN ?_
  refine K.d_pure 14 rfl (K.fieldAddr_lit fo_26_4 rfl) (by kernel_rfl) rfl ?_
  refine zn ?_
  refine K.d_mem 15 rfl (K.load1_own one_24 rfl (K.m0) rfl) (fun _ h => h) (by kernel_rfl) (by kernel_rfl) rfl ?_
  refine zN ?_
  refine K.d_pure 16 rfl (K.move) (by kernel_rfl) rfl ?_
  refine zn ?_
  refine K.d_ix (M := []) 17 _ rfl hS.sl sl_24 rfl rfl rfl (by omega) (by kernel_rfl) rfl ?_
  intro p24 hp24
  refine zN ?_
  refine K.d_pure 18 rfl (K.fieldAddr fo_63_2 rfl) (by kernel_rfl) rfl ?_
  refine zn ?_
  refine K.d_pure 19 rfl (K.fieldAddr fo_61_0 rfl) (by kernel_rfl) rfl ?_
  refine zn ?_
  refine K.d_mem 20 rfl (K.load1 one_3 rfl ((K.PtrL.fld (K.PtrL.fld hp24 (k := 2)) (k := 0)).any)) (fun _ h => h) (by kernel_rfl) (by kernel_rfl) rfl ?_
  refine zN ?_
  refine K.d_loud 21 rfl (K.call_f cal_71 (fun F w hF hw => c71 (hH.pass hw) (hP.pass hw) (hL.pass hw) hll hl g (by omega) (by omega) (by omega))) (fun _ h => h) (by kernel_rfl) rfl ?_
  rintro ⟨Q2, q2⟩ hq
  refine zN ?_
  refine K.d_pure 22 rfl (K.assign) (by kernel_rfl) rfl ?_
  refine zn ?_
  refine K.d_done (by kernel_rfl) ?_
  refine K.norm_then ?_
  refine K.ret ?_
  refine K.end_ret (fun w _ => K.res_tmp rfl w) ?_
  exact K.rets_s K.m0 rfl rfl rfl

set_option maxRecDepth 100000 in
theorem c19 {m : Mod} {A B C : Option Addr} {c d e : Nat} {s eye p : Int} {w : World} (hH : K.Rd w A 1 K.eI m.hs) (hP : K.Rd w B 5 eN m.ps) (hS : K.Rd w C 4 eS m.ss) (hn : m.hs.length ≤ 4611686018427387904) (hm : m.ps.length ≤ 4611686018427387904) (hk : m.ss.length ≤ 4611686018427387904) (hs : -9223372036854775808 ≤ s ∧ s ≤ 9223372036854775807) :
    Calls Tryd.prog 19 [.agg #[.int .i64 m.W, .int .i64 m.D, .slice A m.hs.length c, .slice B m.ps.length d, .slice C m.ss.length e], .int .i64 s, .int .i64 eye, .int .i64 p].toArray w (K.RetSE 3 1 K.eI (hidL m s eye p) (hidE m s eye p) w) := by
  refine K.enter (args := [.agg #[.int .i64 m.W, .int .i64 m.D, .slice A m.hs.length c, .slice B m.ps.length d, .slice C m.ss.length e], .int .i64 s, .int .i64 eye, .int .i64 p]) Tryd.func19 rfl (n := 39) rfl ?_
  simp only [List.replicate, List.cons_append, List.nil_append]
  refine sr ?_
  refine K.seq_new (K.box) rfl ?_
  intro b4
  refine zN ?_
  iterate 2 refine qa ?_
  refine sn ?_
  refine sr ?_
  refine K.seq_sil (K.loadA_own ag_26 rfl (K.m0) rfl) rfl ?_
  refine zN ?_
  iterate 2 refine qm ?_
  refine K.seq_call (K.call_g cal_65 (fun F w hF hw => c65 (hH.pass hw) (hP.pass hw) (hS.pass hw) hn hm hk hs)) rfl ?_
  refine zN ?_
  refine qa ?_
  refine sn ?_
  refine K.seq ?_
  refine sr ?_
  refine qm ?_
  refine qp (K.eql rfl rfl) ?_
  refine qm ?_
  refine K.split 17 rfl (fun hg17 => ?_) (fun hg17 => ?_)
  · try replace hg17 := of_decide_eq_true hg17
    refine qm ?_
    refine K.seq_call (K.call_g cal_57 (fun F w hF hw => c57 w)) rfl ?_
    refine zN ?_
    first | refine K.seq_pure (K.not_d rfl) rfl ?_ | refine K.seq_pure (K.not_ rfl) rfl ?_
    refine zN ?_
    refine qp (K.pick_t rfl) ?_
    refine sn ?_
    refine K.cond rfl (fun ht21 => ?_) (fun ht21 => ?_)
    · try replace ht21 := of_decide_eq_true ht21
      refine K.region_lit ?_
      refine qa ?_
      refine sn ?_
      refine K.seq ?_
      refine sr ?_
      refine qm ?_
      refine qp (K.neq rfl rfl) ?_
      refine sn ?_
      refine K.cond rfl (fun ht23 => ?_) (fun ht23 => ?_)
      · try replace ht23 := of_decide_eq_true ht23
        refine sr ?_
        refine qm ?_
        iterate 2 refine qa ?_
        refine sn ?_
        refine K.ret ?_
        refine K.ret_then ?_
        refine K.end_ret (fun w _ => K.res_tmp2 rfl w) ?_
        have he7 := hid_7 hg17 ht21
        exact K.rets_se0 (hidL_e (by omega)) he7.symm rfl
      try replace ht23 := of_decide_eq_false ht23
      exact absurd (by decide) ht23
    try replace ht21 := of_decide_eq_false ht21
    refine K.skip ?_
    refine K.norm_then ?_
    refine K.seq ?_
    refine sr ?_
    refine qm ?_
    refine qp (K.neq rfl rfl) ?_
    refine sn ?_
    refine K.cond rfl (fun ht23 => ?_) (fun ht23 => ?_)
    · try replace ht23 := of_decide_eq_true ht23
      exact absurd hg17 ht23
    try replace ht23 := of_decide_eq_false ht23
    refine K.skip ?_
    refine K.norm_then ?_
    refine K.seq ?_
    obtain ⟨hc, hsb, hpb⟩ := ask_0 hg17
    obtain ⟨s, rfl⟩ := Int.eq_ofNat_of_zero_le hsb.1
    obtain ⟨p, rfl⟩ := Int.eq_ofNat_of_zero_le hpb.1
    have g : Good m := chk_good hc
    have hsn : s < m.ss.length := by omega
    have hst := g.st hsn
    have hgn := g.n
    have hW : Way m (m.ss.getD s default).x (m.ss.getD s default).y p := ⟨g, by omega, by omega, by omega⟩
    have he0 := hid_0 hg17 (Decidable.not_not.1 ht21)
    rw [hidL_0 he0, he0]
    refine K.draw_L [] Tryd_mixed ?_
    refine K.d_mem 0 rfl (K.loadA_own ag_26 rfl (K.m0) rfl) (fun _ h => h) (by kernel_rfl) (by kernel_rfl) rfl ?_
    refine zN ?_
    refine K.d_mem 1 rfl (K.loadA_own ag_26 rfl (K.m0) rfl) (fun _ h => h) (by kernel_rfl) (by kernel_rfl) rfl ?_
    refine zN ?_
    refine K.d_pure 3 rfl (K.fieldAddr_lit fo_26_4 rfl) (by kernel_rfl) rfl ?_
    refine zn ?_
    refine K.d_mem 4 rfl (K.load1_own one_24 rfl (K.m0) rfl) (fun _ h => h) (by kernel_rfl) (by kernel_rfl) rfl ?_
    refine zN ?_
    refine K.d_pure 5 rfl (K.move) (by kernel_rfl) rfl ?_
    refine zn ?_
    refine K.d_ix (M := []) 6 _ rfl hS.sl sl_24 rfl rfl rfl (by omega) (by kernel_rfl) rfl ?_
    intro p31 hp31
    refine zN ?_
    refine K.d_pure 7 rfl (K.fieldAddr fo_63_0 rfl) (by kernel_rfl) rfl ?_
    refine zn ?_
    refine K.d_mem 8 rfl (K.load1 one_3 rfl ((K.PtrL.fld hp31 (k := 0)).any)) (fun _ h => h) (by kernel_rfl) (by kernel_rfl) rfl ?_
    refine zN ?_
    refine K.d_pure 9 rfl (K.fieldAddr_lit fo_26_4 rfl) (by kernel_rfl) rfl ?_
    refine zn ?_
    refine K.d_mem 10 rfl (K.load1_own one_24 rfl (K.m0) rfl) (fun _ h => h) (by kernel_rfl) (by kernel_rfl) rfl ?_
    refine zN ?_
    refine K.d_pure 11 rfl (K.move) (by kernel_rfl) rfl ?_
    refine zn ?_
    refine K.d_ix (M := []) 12 _ rfl hS.sl sl_24 rfl rfl rfl (by omega) (by kernel_rfl) rfl ?_
    intro p37 hp37
    refine zN ?_
    refine K.d_pure 13 rfl (K.fieldAddr fo_63_1 rfl) (by kernel_rfl) rfl ?_
    refine zn ?_
    refine K.d_mem 14 rfl (K.load1 one_3 rfl ((K.PtrL.fld hp37 (k := 1)).any)) (fun _ h => h) (by kernel_rfl) (by kernel_rfl) rfl ?_
    refine zN ?_
    refine K.d_pure 15 rfl (K.move) (by kernel_rfl) rfl ?_
    refine zn ?_
    refine K.d_pure 16 rfl (K.move) (by kernel_rfl) rfl ?_
    refine zn ?_
    refine K.d_loud 2 rfl (K.call_f cal_43 (fun F w hF hw => c43 (hP.pass hw) (by omega))) (fun _ h => h) (by kernel_rfl) rfl ?_
    rintro ⟨Q2, q2⟩ hq2
    refine zN ?_
    refine K.d_loud 17 rfl (K.call_f cal_66 (fun F w hF hw => (by have hh := K.Rd.own (e := K.eI) hw (hF _ (K.m0)) hq2 (fun _ => rfl) (by decide); exact c66 (l := ownS m) (hH.pass hw) (hP.pass hw) hh own_len g.lb hW (by omega)))) (fun _ h => K.tl h) (by kernel_rfl) rfl ?_
    rintro ⟨Q1, q1⟩ hq
    refine zN ?_
    refine K.d_pure 18 rfl (K.assign) (by kernel_rfl) rfl ?_
    refine zn ?_
    refine K.d_pure 19 rfl (K.assign) (by kernel_rfl) rfl ?_
    refine zn ?_
    refine K.d_done (by kernel_rfl) ?_
    refine K.norm_then ?_
    refine K.ret ?_
    refine K.end_ret (fun w _ => K.res_tmp2 rfl w) ?_
    exact K.rets_se K.m0 rfl rfl rfl rfl
  try replace hg17 := of_decide_eq_false hg17
  iterate 3 refine qs ?_
  refine qp (K.pick_f rfl) ?_
  refine sn ?_
  refine K.cond_false rfl ?_
  refine K.skip ?_
  refine K.norm_then ?_
  refine K.seq ?_
  refine sr ?_
  refine qm ?_
  refine qp (K.neq rfl rfl) ?_
  refine sn ?_
  refine K.cond rfl (fun ht23 => ?_) (fun ht23 => ?_)
  · try replace ht23 := of_decide_eq_true ht23
    refine sr ?_
    refine qm ?_
    iterate 2 refine qa ?_
    refine sn ?_
    refine K.ret ?_
    refine K.ret_then ?_
    refine K.end_ret (fun w _ => K.res_tmp2 rfl w) ?_
    have hea := hid_a (eye := eye) hg17
    exact K.rets_se0 (hidL_e (by omega)) hea.symm rfl
  try replace ht23 := of_decide_eq_false ht23
  exact absurd hg17 ht23

def Ret2 (a b : List Int) (z : Int) (w : World) : Ending → World → Prop :=
  K.Ret (fun r : (Option Addr × Nat) × (Option Addr × Nat) => (a.length = 0 ∨ ∃ b, r.1.1 = some ⟨b, 0, none⟩) ∧ (b.length = 0 ∨ ∃ b, r.2.1 = some ⟨b, 0, none⟩)) (fun r => .tuple #[.slice r.1.1 a.length r.1.2, .slice r.2.1 b.length r.2.2, .int .i64 z]) (fun r => [K.row (.slice r.2.1 b.length r.2.2) 3 1 b.length (b.flatMap K.eI), K.row (.slice r.1.1 a.length r.1.2) 3 1 a.length (a.flatMap K.eI)]) w
theorem ret2_0 {a b : List Int} {z z' : Int} {w : World} {L : List K.Chunk} {v : Value} (ha : a = []) (hb : b = []) (hz : z' = z) (hv : v = .tuple #[.slice none 0 0, .slice none 0 0, .int .i64 z]) : K.Hold w L (Ret2 a b z' w (.returned v)) := by
  subst ha hb hz hv
  exact K.nil_row (K.nil_row (K.rets_v ((none, 0), (none, 0)) ⟨.inl rfl, .inl rfl⟩ rfl rfl (by first | exact List.Sublist.cons_cons _ (List.Sublist.cons_cons _ (List.nil_sublist _)))))
theorem ret2 {a b : List Int} {z : Int} {w : World} {L : List K.Chunk} {A B : Option Addr} {c d : Nat} {v : Value} (hA : a.length = 0 ∨ ∃ b, A = some ⟨b, 0, none⟩) (hB : b.length = 0 ∨ ∃ b, B = some ⟨b, 0, none⟩) (hs : List.Sublist [K.row (.slice B b.length d) 3 1 b.length (b.flatMap K.eI), K.row (.slice A a.length c) 3 1 a.length (a.flatMap K.eI)] L) (hv : v = .tuple #[.slice A a.length c, .slice B b.length d, .int .i64 z]) : K.Hold w L (Ret2 a b z w (.returned v)) :=
  K.rets_v ((A, c), (B, d)) ⟨hA, hB⟩ hv rfl hs


set_option maxRecDepth 100000 in
theorem c22 {m : Mod} {A B C : Option Addr} {c d e : Nat} {s : Int} {w : World} (hH : K.Rd w A 1 K.eI m.hs) (hP : K.Rd w B 5 eN m.ps) (hS : K.Rd w C 4 eS m.ss) (hn : m.hs.length ≤ 4611686018427387904) (hm : m.ps.length ≤ 4611686018427387904) (hk : m.ss.length ≤ 4611686018427387904) :
    Calls Tryd.prog 22 [.agg #[.int .i64 m.W, .int .i64 m.D, .slice A m.hs.length c, .slice B m.ps.length d, .slice C m.ss.length e], .int .i64 s].toArray w (Ret2 (sureL m s) (mayL m s) (seenE m s) w) := by
  refine K.enter (args := [.agg #[.int .i64 m.W, .int .i64 m.D, .slice A m.hs.length c, .slice B m.ps.length d, .slice C m.ss.length e], .int .i64 s]) Tryd.func22 rfl (n := 50) rfl ?_
  simp only [List.replicate, List.cons_append, List.nil_append]
  refine sr ?_
  refine K.seq_new (K.box) rfl ?_
  intro b2
  refine zN ?_
  iterate 3 refine qa ?_
  refine sn ?_
  refine sr ?_
  refine K.seq_sil (K.loadA_own ag_26 rfl (K.m0) rfl) rfl ?_
  refine zN ?_
  refine K.seq_call (K.call_g cal_17 (fun F w hF hw => c17 (hH.pass hw) (hP.pass hw) (hS.pass hw) hn hm hk)) rfl ?_
  refine zN ?_
  refine qm ?_
  refine qx ?_
  refine qx ?_
  refine qx ?_
  iterate 3 refine qa ?_
  refine sn ?_
  refine K.seq ?_
  refine sr ?_
  refine qm ?_
  refine qp (K.eql rfl rfl) ?_
  refine qm ?_
  refine K.split 19 rfl (fun hg19 => ?_) (fun hg19 => ?_)
  · try replace hg19 := of_decide_eq_true hg19
    refine qm ?_
    refine qp (K.fieldAddr_lit fo_26_4 rfl) ?_
    refine K.seq_sil (K.load1_own one_24 rfl (K.m0) rfl) rfl ?_
    refine zN ?_
    refine qp (K.len_sl sl_24 rfl) ?_
    refine qp (K.sub_i64 rfl rfl (by omega)) ?_
    refine K.seq_call (K.call_g cal_57 (fun F w hF hw => c57 w)) rfl ?_
    refine zN ?_
    first | refine K.seq_pure (K.not_d rfl) rfl ?_ | refine K.seq_pure (K.not_ rfl) rfl ?_
    refine zN ?_
    refine qp (K.pick_t rfl) ?_
    refine sn ?_
    refine K.cond rfl (fun ht27 => ?_) (fun ht27 => ?_)
    · try replace ht27 := of_decide_eq_true ht27
      refine K.region_lit ?_
      refine qa ?_
      refine sn ?_
      refine K.seq ?_
      refine sr ?_
      refine qm ?_
      refine qp (K.neq rfl rfl) ?_
      refine sn ?_
      refine K.cond rfl (fun ht29 => ?_) (fun ht29 => ?_)
      · try replace ht29 := of_decide_eq_true ht29
        refine sr ?_
        refine qm ?_
        iterate 3 refine qa ?_
        refine sn ?_
        refine K.ret ?_
        refine K.ret_then ?_
        refine K.end_ret (fun w _ => K.res_ttt rfl w) ?_
        have hse := seen_4 hg19 ht27
        exact ret2_0 (sure_e (by omega)) (may_e (by omega)) hse rfl
      try replace ht29 := of_decide_eq_false ht29
      exact absurd (by decide) ht29
    try replace ht27 := of_decide_eq_false ht27
    refine K.skip ?_
    refine K.norm_then ?_
    refine K.seq ?_
    refine sr ?_
    refine qm ?_
    refine qp (K.neq rfl rfl) ?_
    refine sn ?_
    refine K.cond rfl (fun ht29 => ?_) (fun ht29 => ?_)
    · try replace ht29 := of_decide_eq_true ht29
      exact absurd hg19 ht29
    try replace ht29 := of_decide_eq_false ht29
    refine K.skip ?_
    refine K.norm_then ?_
    refine K.seq ?_
    obtain ⟨s, rfl⟩ := Int.eq_ofNat_of_zero_le (show 0 ≤ s by omega)
    have g : Good m := chk_good hg19
    have hsn : s < m.ss.length := by omega
    have hst := g.st hsn
    have hgn := g.n
    have he0 := seen_0 hg19 hsn
    rw [sure_0 he0, may_0 he0, he0]
    unfold seenL
    refine K.region_lit ?_
    refine qp (K.fieldAddr_lit fo_26_4 rfl) ?_
    refine K.seq_sil (K.load1_own one_24 rfl (K.m0) rfl) rfl ?_
    refine zN ?_
    refine qm ?_
    refine K.seq_ix (M := []) _ hS.sl sl_24 rfl rfl rfl (by omega) rfl ?_
    intro p34 hp34
    refine zN ?_
    refine K.seq_sil (K.loadA_p ag_63 rfl (hp34.any) rfl) rfl ?_
    refine zN ?_
    refine K.seq_new (K.alloc zr_63) rfl ?_
    intro b10
    refine zN ?_
    refine K.seq_st (K.store_all sz_63 rfl rfl rfl rfl (K.rp0)) rfl ?_
    refine zN ?_
    refine sn ?_
    refine K.seq ?_
    refine K.draw_L [] Tryd_mixed ?_
    refine K.d_mem 0 rfl (K.loadA_own ag_26 rfl (K.m1) rfl) (fun _ h => h) (by kernel_rfl) (by kernel_rfl) rfl ?_
    refine zN ?_
    refine K.d_mem 1 rfl (K.loadA_own ag_26 rfl (K.m1) rfl) (fun _ h => h) (by kernel_rfl) (by kernel_rfl) rfl ?_
    refine zN ?_
    refine K.d_pure 3 rfl (K.move) (by kernel_rfl) rfl ?_
    refine zn ?_
    refine K.d_mem 5 rfl (K.loadA_own ag_26 rfl (K.m1) rfl) (fun _ h => h) (by kernel_rfl) (by kernel_rfl) rfl ?_
    refine zN ?_
    refine K.d_mem 6 rfl (K.loadA_own ag_26 rfl (K.m1) rfl) (fun _ h => h) (by kernel_rfl) (by kernel_rfl) rfl ?_
    refine zN ?_
    refine K.d_pure 8 rfl (K.fieldAddr_lit fo_63_0 rfl) (by kernel_rfl) rfl ?_
    refine zn ?_
    refine K.d_mem 9 rfl (K.load1_own one_3 rfl (K.m0) rfl) (fun _ h => h) (by kernel_rfl) (by kernel_rfl) rfl ?_
    refine zN ?_
    refine K.d_pure 10 rfl (K.fieldAddr_lit fo_63_1 rfl) (by kernel_rfl) rfl ?_
    refine zn ?_
    refine K.d_mem 11 rfl (K.load1_own one_3 rfl (K.m0) rfl) (fun _ h => h) (by kernel_rfl) (by kernel_rfl) rfl ?_
    refine zN ?_
    refine K.d_pure 12 rfl (K.fieldAddr_lit fo_63_2 rfl) (by kernel_rfl) rfl ?_
    refine zn ?_
    refine K.d_pure 13 rfl (K.fieldAddr_lit fo_61_1 rfl) (by kernel_rfl) rfl ?_
    refine zn ?_
    refine K.d_mem 14 rfl (K.load1_own one_3 rfl (K.m0) rfl) (fun _ h => h) (by kernel_rfl) (by kernel_rfl) rfl ?_
    refine zN ?_
    refine K.d_loud 2 rfl (K.call_f cal_43 (fun F w hF hw => c43 (hP.pass hw) (by omega))) (fun _ h => h) (by kernel_rfl) rfl ?_
    rintro ⟨Q2, q2⟩ hq2
    refine zN ?_
    refine K.d_loud 4 rfl (K.call_f cal_70 (fun F w hF hw => (by have hh := K.Rd.own (e := K.eI) hw (hF _ (K.m0)) hq2 (fun _ => rfl) (by decide); exact c70 (l := ownS m) (hH.pass hw) (hP.pass hw) (hS.pass hw) hh own_len g.lb g hsn))) (fun _ h => K.tl h) (by kernel_rfl) rfl ?_
    rintro ⟨Q1, q1⟩ hq1
    refine zN ?_
    refine K.d_loud 7 rfl (K.call_f cal_43 (fun F w hF hw => c43 (hP.pass hw) (by omega))) (fun _ h => K.tl (K.tl h)) (by kernel_rfl) rfl ?_
    rintro ⟨Q3, q3⟩ hq3
    refine zN ?_
    refine K.d_loud 15 rfl (K.call_f cal_71 (fun F w hF hw => (by have hh := K.Rd.own (e := K.eI) hw (hF _ (K.m0)) hq3 (fun _ => rfl) (by decide); exact c71 (l := ownS m) (hH.pass hw) (hP.pass hw) hh own_len g.lb g (by omega) (by omega) (by omega)))) (fun _ h => K.tl (K.tl (K.tl h))) (by kernel_rfl) rfl ?_
    rintro ⟨Q4, q4⟩ hq4
    refine zN ?_
    refine K.d_pure 16 rfl (K.assign) (by kernel_rfl) rfl ?_
    refine zn ?_
    refine K.d_pure 17 rfl (K.assign) (by kernel_rfl) rfl ?_
    refine zn ?_
    refine K.d_pure 18 rfl (K.assign) (by kernel_rfl) rfl ?_
    refine zn ?_
    refine K.d_done (by kernel_rfl) ?_
    refine K.norm_then ?_
    refine K.ret ?_
    refine K.end_ret (fun w _ => K.res_ttt rfl w) ?_
    exact ret2 hq1 hq4 (List.Sublist.cons_cons _ (.cons _ (List.Sublist.cons_cons _ (List.nil_sublist _)))) rfl
  try replace hg19 := of_decide_eq_false hg19
  iterate 7 refine qs ?_
  refine qp (K.pick_f rfl) ?_
  refine sn ?_
  refine K.cond_false rfl ?_
  refine K.skip ?_
  refine K.norm_then ?_
  refine K.seq ?_
  refine sr ?_
  refine qm ?_
  refine qp (K.neq rfl rfl) ?_
  refine sn ?_
  refine K.cond rfl (fun ht29 => ?_) (fun ht29 => ?_)
  · try replace ht29 := of_decide_eq_true ht29
    refine sr ?_
    refine qm ?_
    iterate 3 refine qa ?_
    refine sn ?_
    refine K.ret ?_
    refine K.ret_then ?_
    refine K.end_ret (fun w _ => K.res_ttt rfl w) ?_
    have hse := seen_c (s := s) hg19
    exact ret2_0 (sure_e (by omega)) (may_e (by omega)) hse rfl
  try replace ht29 := of_decide_eq_false ht29
  exact absurd hg19 ht29

end Go.Proofs.YthkgnhcknkjgdaaDoor
