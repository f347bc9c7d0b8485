/-
  Walks of the program's functions, printed by program: what each returns.
  Conditions stand in each theorem.
-/
import Derived.WalkArith
import Derived.Laws.Closers25b
import Derived.Test.YthkgnhcknkjgdaaDoorXb
import Derived.Test.YthkgnhcknkjgdaaDoorXd
set_option linter.unusedSimpArgs false
set_option linter.unusedVariables false
namespace Go.Proofs.YthkgnhcknkjgdaaDoor
open Go.RowKit Go
open Go.K (setd setn ev nth over cl eI eP eT setM setF)
attribute [local irreducible] K.blk K.row

set_option maxRecDepth 100000 in
set_option maxHeartbeats 1000000 in
theorem c47 {m : Mod} {A B C : Option Addr} {c d e : Nat} {D : Option Addr} {dd : Nat} {pts : List Int} {w : World} (hH : K.Rd w A 1 K.eI m.hs) (hP : K.Rd w B 5 eN m.ps) (hS : K.Rd w C 4 eS m.ss) (g : Good m) (hT : K.Rd w D 1 K.eI pts) (hp8 : pts.length ≤ 1000) (hin : Below6 m.ss.length pts) :
    Calls Tryd.prog 47 [.agg #[.int .i64 m.W, .int .i64 m.D, .slice A m.hs.length c, .slice B m.ps.length d, .slice C m.ss.length e], .slice D pts.length dd].toArray w (K.Gives (.bool (covB m pts)) w) := by
  have hgn := g.n
  refine K.enter (args := [.agg #[.int .i64 m.W, .int .i64 m.D, .slice A m.hs.length c, .slice B m.ps.length d, .slice C m.ss.length e], .slice D pts.length dd]) Tryd.func47 rfl (n := 34) rfl ?_
  simp only [List.replicate, List.cons_append, List.nil_append]
  refine sr ?_
  refine K.seq_new (K.box) rfl ?_
  intro b2
  refine zN ?_
  refine qa ?_
  refine sn ?_
  refine K.seq ?_
  refine sr ?_
  refine qa ?_
  refine sn ?_
  refine K.block ?_
  refine K.loopW [5] [4, 6, 7, 8, 9, 10, 11, 12, 13, 14, 15, 16, 17, 18, 19, 20, 21, 22, 23, 24, 25, 26, 27, 28, 29, 30, 31, 32, 33, 34, 35] (fun vi L => ∃ i : Nat, vi = [.int .i64 (i : Int)] ∧ L = [K.blk b2 26 [.int .i64 m.W, .int .i64 m.D, .slice A m.hs.length c, .slice B m.ps.length d, .slice C m.ss.length e]] ∧ i ≤ m.ps.length ∧ ∀ j, j < i → (pts.any fun s => sureB m s.toNat j) = true) (fun vi => m.ps.length - (intOf (K.nth vi 0)).toNat) ?_ ?_
  · exact ⟨0, rfl, rfl, Nat.zero_le _, fun j hj => absurd hj (Nat.not_lt_zero j)⟩
  intro vi vr L hJ
  obtain ⟨i, rfl, rfl, hil, hall⟩ := hJ
  try dsimp only [setd, setn, ev, nth, over, cl, eI, eP, eT, eN, eS, setM, setF, List.map, List.append, List.drop, List.take]
  refine K.seq ?_
  refine sr ?_
  refine qm ?_
  refine qp (K.fieldAddr_lit fo_26_3 rfl) ?_
  refine K.seq_sil (K.load1_own one_23 rfl (K.m0) rfl) rfl ?_
  refine zN ?_
  refine qp (K.len_sl sl_23 rfl) ?_
  refine qp (K.lss rfl rfl) ?_
  refine sn ?_
  refine K.cond rfl (fun ht12 => ?_) (fun ht12 => ?_)
  · try replace ht12 := of_decide_eq_true ht12
    have hi : i < m.ps.length := by omega
    refine K.skip ?_
    refine K.norm_then ?_
    refine K.seq ?_
    refine K.block ?_
    refine sr ?_
    refine qa ?_
    refine sn ?_
    refine K.seq ?_
    refine sr ?_
    refine qa ?_
    refine sn ?_
    refine K.block ?_
    refine K.loopW [6, 7] [15, 16, 17, 18, 19, 20, 21, 22, 23, 24, 25, 26, 27, 28, 29, 30, 31, 32, 33] (fun vi L => ∃ (k : Nat) (isv : Bool), vi = [.bool isv, .int .i64 (k : Int)] ∧ L = [K.blk b2 26 [.int .i64 m.W, .int .i64 m.D, .slice A m.hs.length c, .slice B m.ps.length d, .slice C m.ss.length e]] ∧ k ≤ pts.length ∧ isv = ((pts.take k).any fun s => sureB m s.toNat i)) (fun vi => pts.length - (intOf (K.nth vi 1)).toNat) ?_ ?_
    · exact ⟨0, false, rfl, rfl, Nat.zero_le _, rfl⟩
    intro vi vr L hJ
    obtain ⟨k, isv, rfl, rfl, hkl, his⟩ := hJ
    try dsimp only [setd, setn, ev, nth, over, cl, eI, eP, eT, eN, eS, setM, setF, List.map, List.append, List.drop, List.take]
    refine K.seq ?_
    refine sr ?_
    iterate 2 refine qm ?_
    refine qp (K.len_sl sl_22 rfl) ?_
    refine qp (K.lss rfl rfl) ?_
    refine sn ?_
    refine K.cond rfl (fun ht18 => ?_) (fun ht18 => ?_)
    · try replace ht18 := of_decide_eq_true ht18
      have hk : k < pts.length := by omega
      have hin2 := hin k hk
      have hps : pts.getD k default = ((((pts.getD k default).toNat) : Nat) : Int) := by omega
      refine K.skip ?_
      refine K.norm_then ?_
      refine K.seq ?_
      refine K.block ?_
      refine K.draw_L [] Tryd_mixed ?_
      refine K.d_pure 0 rfl (K.move) (by kernel_rfl) rfl ?_
      refine zn ?_
      refine K.d_pure 1 rfl (K.move) (by kernel_rfl) rfl ?_
      refine zn ?_
      refine K.dsplit 22 rfl (fun hg22 => ?_) (fun hg22 => ?_)
      · try replace hg22 := of_decide_eq_true hg22
        refine K.d_skip 2 rfl (by kernel_rfl) rfl ?_
        refine zN ?_
        refine K.d_skip 3 rfl (by kernel_rfl) rfl ?_
        refine zN ?_
        refine K.d_skip 4 rfl (by kernel_rfl) rfl ?_
        refine zN ?_
        refine K.d_skip 5 rfl (by kernel_rfl) rfl ?_
        refine zN ?_
        refine K.d_skip 6 rfl (by kernel_rfl) rfl ?_
        refine zN ?_
        refine K.d_skip 7 rfl (by kernel_rfl) rfl ?_
        refine zN ?_
        refine K.d_skip 8 rfl (by kernel_rfl) rfl ?_
        refine zN ?_
        refine K.d_skip 9 rfl (by kernel_rfl) rfl ?_
        refine zN ?_
        refine K.d_skip 10 rfl (by kernel_rfl) rfl ?_
        refine zN ?_
        refine K.d_skip 11 rfl (by kernel_rfl) rfl ?_
        refine zN ?_
        refine K.d_pure 12 rfl (K.pick_t rfl) (by kernel_rfl) rfl ?_
        refine zn ?_
        refine K.d_pure 13 rfl (K.assign) (by kernel_rfl) rfl ?_
        refine zn ?_
        refine K.d_done (by kernel_rfl) ?_
        refine K.norm_block ?_
        refine K.norm_then ?_
        refine K.region_lit ?_
        refine qm ?_
        refine qp (K.add_i64 rfl rfl (by omega)) ?_
        refine qa ?_
        refine K.seq_nil ?_
        exact K.round_endW (L'' := [K.blk b2 26 [.int .i64 m.W, .int .i64 m.D, .slice A m.hs.length c, .slice B m.ps.length d, .slice C m.ss.length e]]) [.bool (true), .int .i64 ((k : Int) + 1)] ⟨k + 1, _, rfl, rfl, by omega, by rw [any_take hk, ← his, hg22]; rfl⟩ (by simp [K.nth, intOf]; omega) (List.Sublist.refl _) (by kernel_rfl)
      try replace hg22 := of_decide_eq_false hg22
      refine K.d_mem 2 rfl (K.loadA_own ag_26 rfl (K.m0) rfl) (fun _ h => h) (by kernel_rfl) (by kernel_rfl) rfl ?_
      refine zN ?_
      refine K.d_mem 3 rfl (K.loadA_own ag_26 rfl (K.m0) rfl) (fun _ h => h) (by kernel_rfl) (by kernel_rfl) rfl ?_
      refine zN ?_
      refine K.d_pure 5 rfl (K.move) (by kernel_rfl) rfl ?_
      refine zn ?_
      refine K.d_pure 6 rfl (K.move) (by kernel_rfl) rfl ?_
      refine zn ?_
      refine K.d_ix (M := []) 7 _ rfl hT.sl sl_22 rfl rfl rfl (by omega) (by kernel_rfl) rfl ?_
      intro p28 hp28
      refine zN ?_
      refine K.d_mem 8 rfl (K.load1 one_3 rfl (hp28.any)) (fun _ h => h) (by kernel_rfl) (by kernel_rfl) rfl ?_
      refine zN ?_
      refine K.d_pure 10 rfl (K.move) (by kernel_rfl) rfl ?_
      refine zn ?_
      refine K.d_loud 4 rfl (K.call_f cal_43 (fun F w hF hw => c43 (hP.pass hw) (by omega))) (fun _ h => h) (by kernel_rfl) rfl ?_
      rintro ⟨Q1, q1⟩ hq1
      refine zN ?_
      refine K.d_loud 9 rfl (K.call_f cal_70 (fun F w hF hw => (by have hh := (K.Rd.own (e := K.eI) (xs := (ownS m)) hw (hF _ (K.m0)) hq1 (fun _ => rfl) (by decide)); have hg := c70 (A := A) (B := B) (C := C) (c := c) (d := d) (e := e) (q := q1) (l := ownS m) (s := ((pts.getD k default).toNat)) (hH.pass hw) (hP.pass hw) (hS.pass hw) hh own_len g.lb g (by omega); rw [← hps] at hg; exact hg))) (fun _ h => K.tl h) (by kernel_rfl) rfl ?_
      rintro ⟨Q2, q2⟩ hq2
      refine zN ?_
      refine K.d_call 11 rfl (K.call_g cal_42 (fun F w hF hw => (by have hh := (K.Rd.own (e := K.eI) (xs := (seenL m (ownS m) ((pts.getD k default).toNat) (m.ss.getD ((pts.getD k default).toNat) default).lo)) hw (hF _ (K.m0)) hq2 (fun _ => rfl) (by decide)); have hg := c42 (c := q2) (xs := (seenL m (ownS m) ((pts.getD k default).toNat) (m.ss.getD ((pts.getD k default).toNat) default).lo)) (n := (i : Int)) hh (by have := @seenL_len m (ownS m) ((pts.getD k default).toNat) (m.ss.getD ((pts.getD k default).toNat) default).lo; omega); rw [seen_mem hi] at hg; exact hg))) (fun _ h => K.tl (K.tl h)) (by kernel_rfl) rfl ?_
      refine zN ?_
      refine K.d_pure 12 rfl (K.pick_f rfl) (by kernel_rfl) rfl ?_
      refine zn ?_
      refine K.d_pure 13 rfl (K.assign) (by kernel_rfl) rfl ?_
      refine zn ?_
      refine K.d_done (by kernel_rfl) ?_
      refine K.norm_block ?_
      refine K.norm_then ?_
      refine K.region_lit ?_
      refine qm ?_
      refine qp (K.add_i64 rfl rfl (by omega)) ?_
      refine qa ?_
      refine K.seq_nil ?_
      exact K.round_endW (L'' := [K.blk b2 26 [.int .i64 m.W, .int .i64 m.D, .slice A m.hs.length c, .slice B m.ps.length d, .slice C m.ss.length e]]) [.bool ((sureB m ((pts.getD k default).toNat) i)), .int .i64 ((k : Int) + 1)] ⟨k + 1, _, rfl, rfl, by omega, by rw [any_take hk, ← his, hg22]; rfl⟩ (by simp [K.nth, intOf]; omega) (List.Sublist.cons _ (List.Sublist.cons _ (List.Sublist.refl _))) (by kernel_rfl)
    try replace ht18 := of_decide_eq_false ht18
    refine K.exit ?_
    refine K.exit_then ?_
    refine K.exit_then ?_
    refine K.exit_here ?_
    refine K.norm_then ?_
    refine sr ?_
    refine qm ?_
    first | refine K.seq_pure (K.not_d rfl) rfl ?_ | refine K.seq_pure (K.not_ rfl) rfl ?_
    refine zN ?_
    refine sn ?_
    refine K.cond rfl (fun ht35 => ?_) (fun ht35 => ?_)
    · try replace ht35 := of_decide_eq_true ht35
      refine sr ?_
      refine qa ?_
      refine sn ?_
      refine K.ret ?_
      refine K.ret_block ?_
      refine K.ret_then ?_
      refine K.ret_then ?_
      refine K.ret_block ?_
      refine K.ret_then ?_
      refine K.end_ret (fun w _ => K.res_tmp rfl w) ?_
      have hpf : (pts.any fun s => sureB m s.toNat i) = false := by rw [← take_all (xs := pts) (k := k) (by omega), ← his]; simpa using ht35
      have ho : covB m pts = false := List.all_eq_false.2 ⟨i, List.mem_range.2 hi, by rw [hpf]; decide⟩
      exact K.gives (by rw [ho]; rfl)
    try replace ht35 := of_decide_eq_false ht35
    refine K.skip ?_
    refine K.norm_block ?_
    refine K.norm_then ?_
    refine K.region_lit ?_
    refine qm ?_
    refine qp (K.add_i64 rfl rfl (by omega)) ?_
    refine qa ?_
    refine K.seq_nil ?_
    have hpt : (pts.any fun s => sureB m s.toNat i) = true := by rw [← take_all (xs := pts) (k := k) (by omega), ← his]; simpa using ht35
    exact K.round_endW (L'' := [K.blk b2 26 [.int .i64 m.W, .int .i64 m.D, .slice A m.hs.length c, .slice B m.ps.length d, .slice C m.ss.length e]]) [.int .i64 ((i : Int) + 1)] ⟨i + 1, rfl, rfl, by omega, K.lt_succ_case hall hpt⟩ (by simp [K.nth, intOf]; omega) (by repeat (first | exact List.Sublist.refl _ | apply List.Sublist.cons)) (by kernel_rfl)
  try replace ht12 := of_decide_eq_false ht12
  refine K.exit ?_
  refine K.exit_then ?_
  refine K.exit_then ?_
  refine K.exit_here ?_
  refine K.norm_then ?_
  refine sr ?_
  refine qa ?_
  refine sn ?_
  refine K.ret ?_
  refine K.end_ret (fun w _ => K.res_tmp rfl w) ?_
  have ho : covB m pts = true := List.all_eq_true.2 (fun j hj => hall j (by have := List.mem_range.1 hj; omega))
  exact K.gives (by rw [ho]; rfl)

set_option maxRecDepth 100000 in
set_option maxHeartbeats 1000000 in
theorem c45 {m : Mod} {A B C : Option Addr} {c d e : Nat} {D : Option Addr} {dd : Nat} {pins : List Int} {w : World} (hP : K.Rd w B 5 eN m.ps) (hT : K.Rd w D 1 K.eI pins) (hp8 : pins.length ≤ 1000) (hgn : m.ps.length ≤ 6) :
    Calls Tryd.prog 45 [.agg #[.int .i64 m.W, .int .i64 m.D, .slice A m.hs.length c, .slice B m.ps.length d, .slice C m.ss.length e], .slice D pins.length dd].toArray w (K.Ret (fun r : Option Addr × Nat => (withP m pins m.ps.length).length = 0 ∨ ∃ b, r.1 = some ⟨b, 0, none⟩) (fun r => .agg #[.int .i64 m.W, .int .i64 m.D, .slice A m.hs.length c, .slice r.1 (withP m pins m.ps.length).length r.2, .slice C m.ss.length e]) (fun r => [K.row (.slice r.1 (withP m pins m.ps.length).length r.2) 54 5 (withP m pins m.ps.length).length ((withP m pins m.ps.length).flatMap eN)]) w) := by
  refine K.enter (args := [.agg #[.int .i64 m.W, .int .i64 m.D, .slice A m.hs.length c, .slice B m.ps.length d, .slice C m.ss.length e], .slice D pins.length dd]) Tryd.func45 rfl (n := 29) rfl ?_
  simp only [List.replicate, List.cons_append, List.nil_append]
  refine sr ?_
  refine K.seq_new (K.box) rfl ?_
  intro b2
  refine zN ?_
  refine K.seq_new (K.alloc zr_26) rfl ?_
  intro b4
  refine zN ?_
  refine sn ?_
  refine sr ?_
  refine K.seq_sil (K.loadA_own ag_26 rfl (K.m1) rfl) rfl ?_
  refine zN ?_
  refine K.seq_new (K.alloc zr_26) rfl ?_
  intro b5
  refine zN ?_
  refine K.seq_st (K.store_all sz_26 rfl rfl rfl rfl (K.rp0)) rfl ?_
  refine zN ?_
  refine sn ?_
  refine sr ?_
  refine qp (K.fieldAddr_lit fo_26_3 rfl) ?_
  refine K.seq_st (K.store sz_23 rfl rfl rfl rfl (K.rp0)) rfl ?_
  refine zN ?_
  refine sn ?_
  refine K.seq ?_
  refine sr ?_
  refine K.nil_row (e := 54) (size := 5) ?_
  refine qa ?_
  refine sn ?_
  refine K.block ?_
  refine K.loopW [6] [9, 10, 11, 12, 13, 14, 15, 16, 17, 18, 19, 20, 21, 22, 23, 24, 25, 26, 27, 28, 29] (fun vi L => ∃ (k : Nat) (Q1 : Option Addr) (q1 : Nat), vi = [.int .i64 (k : Int)] ∧ L = [K.row (.slice Q1 (withP m pins k).length q1) 54 5 (withP m pins k).length ((withP m pins k).flatMap eN), K.blk b5 26 [.int .i64 m.W, .int .i64 m.D, .slice A m.hs.length c, .slice Q1 (withP m pins k).length q1, .slice C m.ss.length e], K.blk b4 26 [.int .i64 0, .int .i64 0, .slice none 0 0, .slice none 0 0, .slice none 0 0], K.blk b2 26 [.int .i64 m.W, .int .i64 m.D, .slice A m.hs.length c, .slice B m.ps.length d, .slice C m.ss.length e]] ∧ k ≤ m.ps.length) (fun vi => m.ps.length - (intOf (K.nth vi 0)).toNat) ?_ ?_
  · exact ⟨0, none, 0, rfl, rfl, Nat.zero_le _⟩
  intro vi vr L hJ
  obtain ⟨k, Q1, q1, rfl, rfl, hkn⟩ := hJ
  try dsimp only [setd, setn, ev, nth, over, cl, eI, eP, eT, eN, eS, setM, setF, List.map, List.append, List.drop, List.take]
  refine K.seq ?_
  refine sr ?_
  refine qm ?_
  refine qp (K.fieldAddr_lit fo_26_3 rfl) ?_
  refine K.seq_sil (K.load1_own one_23 rfl (K.m3) rfl) rfl ?_
  refine zN ?_
  refine qp (K.len_sl sl_23 rfl) ?_
  refine qp (K.lss rfl rfl) ?_
  refine sn ?_
  refine K.cond rfl (fun ht13 => ?_) (fun ht13 => ?_)
  · try replace ht13 := of_decide_eq_true ht13
    have hk : k < m.ps.length := by omega
    have hwl := @with_len m pins k
    refine K.skip ?_
    refine K.norm_then ?_
    refine K.seq ?_
    refine K.block ?_
    refine sr ?_
    iterate 2 refine qm ?_
    refine K.seq_call (K.call_g cal_42 (fun F w hF hw => c42 (xs := pins) (n := (k : Int)) (hT.pass hw) (by omega))) rfl ?_
    refine zN ?_
    first | refine K.seq_pure (K.not_d rfl) rfl ?_ | refine K.seq_pure (K.not_ rfl) rfl ?_
    refine zN ?_
    refine sn ?_
    refine K.cond rfl (fun ht19 => ?_) (fun ht19 => ?_)
    · try replace ht19 := of_decide_eq_true ht19
      refine K.draw_drop 1 [10] Tryd_mixed ?_
      refine K.d_pure 0 rfl (K.fieldAddr_lit fo_26_3 rfl) (by kernel_rfl) rfl ?_
      refine zn ?_
      refine K.d_mem 1 rfl (K.load1_own one_23 rfl (K.m0) rfl) (fun _ h => K.tl h) (by kernel_rfl) (by kernel_rfl) rfl ?_
      refine zN ?_
      refine K.d_pure 2 rfl (K.fieldAddr_lit fo_26_3 rfl) (by kernel_rfl) rfl ?_
      refine zn ?_
      refine K.d_mem 3 rfl (K.load1_own one_23 rfl (K.m2) rfl) (fun _ h => K.tl h) (by kernel_rfl) (by kernel_rfl) rfl ?_
      refine zN ?_
      refine K.d_pure 4 rfl (K.move) (by kernel_rfl) rfl ?_
      refine zn ?_
      refine K.d_ix (M := []) 5 _ rfl hP.sl sl_23 rfl rfl rfl (by omega) (by kernel_rfl) rfl ?_
      intro p25 hp25
      refine zN ?_
      refine K.d_mem 6 rfl (K.loadA_p ag_54 rfl (hp25.any) rfl) (fun _ h => K.tl h) (by kernel_rfl) (by kernel_rfl) rfl ?_
      refine zN ?_
      refine K.d_new 7 rfl (K.buildSlice (bs23 _ _ _ _ _)) (fun _ h => K.tl h) (by kernel_rfl) rfl ?_
      intro b27
      refine zN ?_
      refine K.d_upd 8 rfl (K.append el_23 rfl rfl (K.PtrL.own' (K.m0)) rfl rfl (by decide) (by omega) (by omega) (fun _ _ => K.rp1)) (fun _ => fun _ h => K.tl (K.tl h)) (by kernel_rfl) rfl ?_
      rintro ⟨g28, c28⟩ _
      refine zN ?_
      refine K.d_pure 9 rfl (K.fieldAddr_lit fo_26_3 rfl) (by kernel_rfl) rfl ?_
      refine zn ?_
      refine K.d_last 10 rfl (K.store sz_23 rfl rfl rfl rfl (K.rp2)) rfl (by kernel_rfl) rfl ?_
      intro _ _
      refine zN ?_
      refine K.d_done (by kernel_rfl) ?_
      refine K.norm_block ?_
      refine K.norm_then ?_
      refine K.region_lit ?_
      refine qm ?_
      refine qp (K.add_i64 rfl rfl (by omega)) ?_
      refine qa ?_
      refine K.seq_nil ?_
      have hfe : (withP m pins (k + 1)) = (withP m pins k) ++ [(m.ps.getD k default)] := with_yes (by simpa using ht19)
      exact K.round_endW (L'' := [K.row (.slice (some ⟨g28, 0, none⟩) ((withP m pins k).length + 1) c28) 54 5 ((withP m pins k).length + 1) ((withP m pins k).flatMap eN ++ [.string (m.ps.getD k default).nm, .int .i64 (m.ps.getD k default).x, .int .i64 (m.ps.getD k default).y, .int .i64 (m.ps.getD k default).len, .int .i64 (m.ps.getD k default).most]), K.blk b5 26 [.int .i64 m.W, .int .i64 m.D, .slice A m.hs.length c, .slice (some ⟨g28, 0, none⟩) ((withP m pins k).length + 1) c28, .slice C m.ss.length e], K.blk b4 26 [.int .i64 0, .int .i64 0, .slice none 0 0, .slice none 0 0, .slice none 0 0], K.blk b2 26 [.int .i64 m.W, .int .i64 m.D, .slice A m.hs.length c, .slice B m.ps.length d, .slice C m.ss.length e]]) [.int .i64 ((k : Int) + 1)] ⟨k + 1, some ⟨g28, 0, none⟩, c28, rfl, by rw [hfe, List.length_append, List.flatMap_append]; rfl, by omega⟩ (by simp [K.nth, intOf]; omega) (List.Sublist.cons _ (List.Sublist.refl _)) (by kernel_rfl)
    try replace ht19 := of_decide_eq_false ht19
    refine K.skip ?_
    refine K.norm_block ?_
    refine K.norm_then ?_
    refine K.region_lit ?_
    refine qm ?_
    refine qp (K.add_i64 rfl rfl (by omega)) ?_
    refine qa ?_
    refine K.seq_nil ?_
    have hfe : (withP m pins (k + 1)) = (withP m pins k) := with_no (by simpa using ht19)
    exact K.round_endW (L'' := [K.row (.slice Q1 (withP m pins k).length q1) 54 5 (withP m pins k).length ((withP m pins k).flatMap eN), K.blk b5 26 [.int .i64 m.W, .int .i64 m.D, .slice A m.hs.length c, .slice Q1 (withP m pins k).length q1, .slice C m.ss.length e], K.blk b4 26 [.int .i64 0, .int .i64 0, .slice none 0 0, .slice none 0 0, .slice none 0 0], K.blk b2 26 [.int .i64 m.W, .int .i64 m.D, .slice A m.hs.length c, .slice B m.ps.length d, .slice C m.ss.length e]]) [.int .i64 ((k : Int) + 1)] ⟨k + 1, Q1, q1, rfl, by rw [hfe], by omega⟩ (by simp [K.nth, intOf]; omega) (List.Sublist.refl _) (by kernel_rfl)
  try replace ht13 := of_decide_eq_false ht13
  refine K.exit ?_
  refine K.exit_then ?_
  refine K.exit_then ?_
  refine K.exit_here ?_
  refine K.norm_then ?_
  refine K.seq ?_
  have e0 : k = m.ps.length := by omega
  refine K.use_row K.m0 (fun hA1 => ?_)
  rw [e0] at *
  refine K.region_lit ?_
  refine K.seq_sil (K.loadA_own ag_26 rfl (K.m1) rfl) rfl ?_
  refine zN ?_
  refine K.seq_st (K.store_all sz_26 rfl rfl rfl rfl (K.rp2)) rfl ?_
  refine zN ?_
  refine sn ?_
  refine K.ret ?_
  refine K.end_ret (fun w hw => K.res_c rfl rfl (K.run_cellA ag_26 rfl (K.m2) rfl w hw)) ?_
  exact K.rets_v (Q1, q1) hA1 rfl rfl (List.Sublist.cons_cons _ (List.nil_sublist _))

set_option maxRecDepth 100000 in
theorem c41 {m : Mod} {A B C : Option Addr} {c d e : Nat} {Q : Option Addr} {q : Nat} {l : List Int} {w : World} (hH : K.Rd w A 1 K.eI m.hs) (hP : K.Rd w B 5 eN m.ps) (hS : K.Rd w C 4 eS m.ss) (hL : K.Rd w Q 1 K.eI l) (hll : l.length = m.ps.length) (hl : LB l) (g : Good m) :
    Calls Tryd.prog 41 [.agg #[.int .i64 m.W, .int .i64 m.D, .slice A m.hs.length c, .slice B m.ps.length d, .slice C m.ss.length e], .slice Q l.length q].toArray w (K.Gives (.bool (showsB m l)) w) := by
  have hgn := g.n
  refine K.enter (args := [.agg #[.int .i64 m.W, .int .i64 m.D, .slice A m.hs.length c, .slice B m.ps.length d, .slice C m.ss.length e], .slice Q l.length q]) Tryd.func41 rfl (n := 16) rfl ?_
  simp only [List.replicate, List.cons_append, List.nil_append]
  refine sr ?_
  refine K.seq_new (K.box) rfl ?_
  intro b2
  refine zN ?_
  refine qa ?_
  refine sn ?_
  refine K.seq ?_
  refine sr ?_
  refine qa ?_
  refine sn ?_
  refine K.block ?_
  refine K.loopW [5] [4, 6, 7, 8, 9, 10, 11, 12, 13, 14, 15, 16, 17] (fun vi L => ∃ k : Nat, vi = [.int .i64 (k : Int)] ∧ L = [K.blk b2 26 [.int .i64 m.W, .int .i64 m.D, .slice A m.hs.length c, .slice B m.ps.length d, .slice C m.ss.length e]] ∧ k ≤ m.ps.length ∧ ∀ j, j < k → openB m l j = true) (fun vi => m.ps.length - (intOf (K.nth vi 0)).toNat) ?_ ?_
  · exact ⟨0, rfl, rfl, Nat.zero_le _, fun j hj => absurd hj (Nat.not_lt_zero j)⟩
  intro vi vr L hJ
  obtain ⟨k, rfl, rfl, hkn, hall⟩ := hJ
  try dsimp only [setd, setn, ev, nth, over, cl, eI, eP, eT, eN, eS, setM, setF, List.map, List.append, List.drop, List.take]
  refine K.seq ?_
  refine sr ?_
  refine qm ?_
  refine qp (K.fieldAddr_lit fo_26_3 rfl) ?_
  refine K.seq_sil (K.load1_own one_23 rfl (K.m0) rfl) rfl ?_
  refine zN ?_
  refine qp (K.len_sl sl_23 rfl) ?_
  refine qp (K.lss rfl rfl) ?_
  refine sn ?_
  refine K.cond rfl (fun ht10 => ?_) (fun ht10 => ?_)
  · try replace ht10 := of_decide_eq_true ht10
    have hk : k < m.ps.length := by omega
    refine K.skip ?_
    refine K.norm_then ?_
    refine K.seq ?_
    refine K.block ?_
    refine sr ?_
    refine K.seq_sil (K.loadA_own ag_26 rfl (K.m0) rfl) rfl ?_
    refine zN ?_
    iterate 2 refine qm ?_
    refine K.seq_call (K.call_g cal_87 (fun F w hF hw => c87 (hH.pass hw) (hP.pass hw) (hS.pass hw) (hL.pass hw) hll hl g hk)) rfl ?_
    refine zN ?_
    first | refine K.seq_pure (K.not_d rfl) rfl ?_ | refine K.seq_pure (K.not_ rfl) rfl ?_
    refine zN ?_
    refine sn ?_
    refine K.cond rfl (fun ht17 => ?_) (fun ht17 => ?_)
    · try replace ht17 := of_decide_eq_true ht17
      refine sr ?_
      refine qa ?_
      refine sn ?_
      refine K.ret ?_
      refine K.ret_block ?_
      refine K.ret_then ?_
      refine K.ret_then ?_
      refine K.ret_block ?_
      refine K.ret_then ?_
      refine K.end_ret (fun w _ => K.res_tmp rfl w) ?_
      have ho : showsB m l = false := List.all_eq_false.2 ⟨k, List.mem_range.2 hk, by simpa using ht17⟩
      exact K.gives (by rw [ho]; rfl)
    try replace ht17 := of_decide_eq_false ht17
    refine K.skip ?_
    refine K.norm_block ?_
    refine K.norm_then ?_
    refine K.region_lit ?_
    refine qm ?_
    refine qp (K.add_i64 rfl rfl (by omega)) ?_
    refine qa ?_
    refine K.seq_nil ?_
    exact K.round_endW (L'' := [K.blk b2 26 [.int .i64 m.W, .int .i64 m.D, .slice A m.hs.length c, .slice B m.ps.length d, .slice C m.ss.length e]]) [.int .i64 ((k : Int) + 1)] ⟨k + 1, rfl, rfl, by omega, K.lt_succ_case hall (by simpa using ht17)⟩ (by simp [K.nth, intOf]; omega) (by repeat (first | exact List.Sublist.refl _ | apply List.Sublist.cons)) (by kernel_rfl)
  try replace ht10 := of_decide_eq_false ht10
  refine K.exit ?_
  refine K.exit_then ?_
  refine K.exit_then ?_
  refine K.exit_here ?_
  refine K.norm_then ?_
  refine sr ?_
  refine qa ?_
  refine sn ?_
  refine K.ret ?_
  refine K.end_ret (fun w _ => K.res_tmp rfl w) ?_
  have ho : showsB m l = true := List.all_eq_true.2 (fun j hj => hall j (by have := List.mem_range.1 hj; omega))
  exact K.gives (by rw [ho]; rfl)

end Go.Proofs.YthkgnhcknkjgdaaDoor
