/-
  Walks of the program's functions, printed by program: what each returns.
  Conditions stand in each theorem.
-/
import Derived.WalkArith
import Derived.Laws.Closers25b
import Derived.Test.YthkgnhcknkjgdaaDoorSB
import Derived.Test.YthkgnhcknkjgdaaDoorXb
import Derived.Test.YthkgnhcknkjgdaaDoorXd
set_option linter.unusedSimpArgs false
set_option linter.unusedVariables false
namespace Go.Proofs.YthkgnhcknkjgdaaDoor
open Go.RowKit Go
open Go.K (setd setn ev nth over cl eI eP eT setM setF)
attribute [local irreducible] K.blk K.row
theorem bs0p : K.Bs Tryd.prog 23 0 [] 54 [] := fun w => by kernel_rfl

set_option maxRecDepth 100000 in
theorem c86 {Y : Option Addr} {cy n : Nat} {ys : List Int} {w : World} (hY : K.Rd w Y 1 eH ys) (hyb : ∀ x ∈ ys, 0 ≤ x ∧ x ≤ 65535) (hyl : ys.length ≤ 140737488351232) (hn : n ≤ 1000) :
    Calls Tryd.prog 86 [.slice Y ys.length cy, .int .i64 (n : Int)].toArray w (K.Gives (.int .i64 (turnS ys n)) w) := by
  refine K.enter (args := [.slice Y ys.length cy, .int .i64 (n : Int)]) Tryd.func86 rfl (n := 14) rfl ?_
  simp only [List.replicate, List.cons_append, List.nil_append]
  refine sr ?_
  refine qa ?_
  refine sn ?_
  refine K.seq ?_
  refine sr ?_
  refine qm ?_
  refine qp (K.len_sl sl_49 rfl) ?_
  refine qp (K.eql rfl rfl) ?_
  refine sn ?_
  refine K.cond rfl (fun ht7 => ?_) (fun ht7 => ?_)
  · try replace ht7 := of_decide_eq_true ht7
    refine sr ?_
    refine qa ?_
    refine sn ?_
    refine K.ret ?_
    refine K.ret_then ?_
    refine K.end_ret (fun w _ => K.res_tmp rfl w) ?_
    exact K.gives_i rfl (by unfold turnS; rw [if_pos (by omega)])
  try replace ht7 := of_decide_eq_false ht7
  have hpos : 0 < ys.length := by omega
  have hlt := Nat.mod_lt n hpos
  have hx := hyb _ (K.gt_mem hlt)
  refine K.skip ?_
  refine K.norm_then ?_
  refine sr ?_
  iterate 3 refine qm ?_
  refine qp (K.len_sl sl_49 rfl) ?_
  refine qp (K.Pure.eq (K.rem_i64 rfl rfl (by omega) (by omega)) (show _ = Value.int .i64 ((n % ys.length : Nat) : Int) from by rw [Int.natCast_emod])) ?_
  refine K.seq_ix (M := []) (n % ys.length) hY.sl sl_49 rfl rfl rfl (by omega) rfl ?_
  intro p13 hp13
  refine zN ?_
  refine K.seq_sil (K.load1 one_57 rfl (hp13.any)) rfl ?_
  refine zN ?_
  refine K.seq_pure (K.Pure.eq (K.conv_int ik_57 ik_3 rfl) (show _ = Value.int .i64 (ys.getD (n % ys.length) default) from by rw [IntWalk.i64_in _ (by omega)])) rfl ?_
  refine zN ?_
  refine qa ?_
  refine sn ?_
  refine K.ret ?_
  refine K.end_ret (fun w _ => K.res_tmp rfl w) ?_
  exact K.gives_i rfl (by unfold turnS; rw [if_neg (by omega)])

set_option maxRecDepth 100000 in
theorem c38 {m : Mod} {A B C : Option Addr} {c d e : Nat} {Y : Option Addr} {cy : Nat} {ys : List Int} {w : World} (hP : K.Rd w B 5 eN m.ps) (g : Good m) (hY : K.Rd w Y 1 eH ys) (hyb : ∀ x ∈ ys, 0 ≤ x ∧ x ≤ 65535) (hyl : ys.length ≤ 140737488351232) :
    Calls Tryd.prog 38 [.agg #[.int .i64 m.W, .int .i64 m.D, .slice A m.hs.length c, .slice B m.ps.length d, .slice C m.ss.length e], .slice Y ys.length cy].toArray w (K.RetS 3 1 K.eI (anyL m ys m.ps.length) w) := by
  have hgn := g.n
  refine K.enter (args := [.agg #[.int .i64 m.W, .int .i64 m.D, .slice A m.hs.length c, .slice B m.ps.length d, .slice C m.ss.length e], .slice Y ys.length cy]) Tryd.func38 rfl (n := 35) rfl ?_
  simp only [List.replicate, List.cons_append, List.nil_append]
  refine sr ?_
  refine K.seq_new (K.box) rfl ?_
  intro b2
  refine zN ?_
  refine qa ?_
  refine sn ?_
  refine sr ?_
  refine qa ?_
  refine sn ?_
  refine K.seq ?_
  refine sr ?_
  refine K.nil_row (e := 3) (size := 1) ?_
  refine K.permH (L' := [_, _]) (List.Perm.trans (List.perm_middle (l₁ := [_])) (List.Perm.cons _ (List.Perm.refl _))) ?_
  refine qa ?_
  refine sn ?_
  refine K.block ?_
  refine K.loopW [5, 6] [7, 8, 9, 10, 11, 12, 13, 14, 15, 16, 17, 18, 19, 20, 21, 22, 23, 24, 25, 26, 27, 28, 29, 30, 31, 32, 33, 34, 35] (fun vi L => ∃ (k : Nat) (Q1 : Option Addr) (q1 : Nat), vi = [.slice Q1 (anyL m ys k).length q1, .int .i64 (k : Int)] ∧ L = [K.blk b2 26 [.int .i64 m.W, .int .i64 m.D, .slice A m.hs.length c, .slice B m.ps.length d, .slice C m.ss.length e], K.row (.slice Q1 (anyL m ys k).length q1) 3 1 (anyL m ys k).length ((anyL m ys k).flatMap K.eI)] ∧ k ≤ m.ps.length) (fun vi => m.ps.length - (intOf (K.nth vi 1)).toNat) ?_ ?_
  · exact ⟨0, none, 0, rfl, rfl, Nat.zero_le _⟩
  intro vi vr L hJ
  obtain ⟨k, Q1, q1, rfl, rfl, hkn⟩ := hJ
  try dsimp only [setd, setn, ev, nth, over, cl, eI, eP, eT, eN, eS, setM, setF, List.map, List.append, List.drop, List.take]
  refine K.seq ?_
  refine sr ?_
  refine qm ?_
  refine qp (K.fieldAddr_lit fo_26_3 rfl) ?_
  refine K.seq_sil (K.load1_own one_23 rfl (K.m0) rfl) rfl ?_
  refine zN ?_
  refine qp (K.len_sl sl_23 rfl) ?_
  refine qp (K.lss rfl rfl) ?_
  refine sn ?_
  refine K.cond rfl (fun ht12 => ?_) (fun ht12 => ?_)
  · try replace ht12 := of_decide_eq_true ht12
    have hk : k < m.ps.length := by omega
    have hpk := g.p k hk
    have hae := anyE_bd (ys := ys) g hk
    have htb := turn_bd (ys := ys) (n := k) hyb
    have hall := @anyL_len m ys k
    refine K.skip ?_
    refine K.norm_then ?_
    refine K.seq ?_
    refine K.block ?_
    refine sr ?_
    refine qp (K.fieldAddr_lit fo_26_3 rfl) ?_
    refine K.seq_sil (K.load1_own one_23 rfl (K.m0) rfl) rfl ?_
    refine zN ?_
    refine qm ?_
    refine K.seq_ix (M := []) _ hP.sl sl_23 rfl rfl rfl (by omega) rfl ?_
    intro p18 hp18
    refine zN ?_
    refine K.seq_sil (K.loadA_p ag_54 rfl (hp18.any) rfl) rfl ?_
    refine zN ?_
    refine K.seq_new (K.alloc zr_54) rfl ?_
    intro b7
    refine zN ?_
    refine K.seq_st (K.store_all sz_54 rfl rfl rfl rfl (K.rp0)) rfl ?_
    refine zN ?_
    refine sn ?_
    refine K.draw_take 2 [] Tryd_mixed ?_
    refine K.d_pure 0 rfl (K.move) (by kernel_rfl) rfl ?_
    refine zn ?_
    refine K.d_pure 1 rfl (K.fieldAddr_lit fo_54_3 rfl) (by kernel_rfl) rfl ?_
    refine zn ?_
    refine K.d_mem 2 rfl (K.load1_own one_3 rfl (K.m0) rfl) (fun _ h => K.take_sub 2 _ h) (by kernel_rfl) (by kernel_rfl) rfl ?_
    refine zN ?_
    refine K.d_pure 3 rfl (K.move) (by kernel_rfl) rfl ?_
    refine zn ?_
    refine K.d_pure 4 rfl (K.move) (by kernel_rfl) rfl ?_
    refine zn ?_
    refine K.d_pure 6 rfl (K.fieldAddr_lit fo_54_4 rfl) (by kernel_rfl) rfl ?_
    refine zn ?_
    refine K.d_mem 7 rfl (K.load1_own one_3 rfl (K.m0) rfl) (fun _ h => K.take_sub 2 _ h) (by kernel_rfl) (by kernel_rfl) rfl ?_
    refine zN ?_
    refine K.d_pure 8 rfl (K.fieldAddr_lit fo_54_3 rfl) (by kernel_rfl) rfl ?_
    refine zn ?_
    refine K.d_mem 9 rfl (K.load1_own one_3 rfl (K.m0) rfl) (fun _ h => K.take_sub 2 _ h) (by kernel_rfl) (by kernel_rfl) rfl ?_
    refine zN ?_
    refine K.d_pure 10 rfl (K.sub_i64 rfl rfl (by omega)) (by kernel_rfl) rfl ?_
    refine zn ?_
    refine K.d_pure 11 rfl (K.add_i64 rfl rfl (by omega)) (by kernel_rfl) rfl ?_
    refine zn ?_
    refine K.d_call 5 rfl (K.call_g cal_86 (fun F w hF hw => c86 (n := k) (hY.pass hw) hyb hyl (by omega))) (fun _ h => K.take_sub 2 _ h) (by kernel_rfl) rfl ?_
    refine zN ?_
    refine K.d_pure 12 rfl (K.rem_i64 rfl rfl (by omega) (by omega)) (by kernel_rfl) rfl ?_
    refine zn ?_
    refine K.d_pure 13 rfl (K.add_i64 rfl rfl (by omega)) (by kernel_rfl) rfl ?_
    refine zn ?_
    refine K.d_new 14 rfl (K.buildSlice (bs1 _)) (fun _ h => K.take_sub 2 _ h) (by kernel_rfl) rfl ?_
    intro b34
    refine zN ?_
    refine K.d_upd 15 rfl (K.append el_22 rfl rfl (K.PtrL.own' (K.m0)) rfl rfl (by decide) (by omega) (by omega) (fun _ _ => K.rp3)) (fun _ => fun _ h => K.tl (K.take_sub 2 _ h)) (by kernel_rfl) rfl ?_
    rintro ⟨g35, c35⟩ _
    refine zN ?_
    refine K.d_pure 16 rfl (K.assign) (by kernel_rfl) rfl ?_
    refine zn ?_
    refine K.d_done (by kernel_rfl) ?_
    refine K.norm_block ?_
    refine K.norm_then ?_
    refine K.region_lit ?_
    refine qm ?_
    refine qp (K.add_i64 rfl rfl (by omega)) ?_
    refine qa ?_
    refine K.seq_nil ?_
    exact K.round_endW (L'' := [K.blk b2 26 [.int .i64 m.W, .int .i64 m.D, .slice A m.hs.length c, .slice B m.ps.length d, .slice C m.ss.length e], K.row (.slice (some ⟨g35, 0, none⟩) ((anyL m ys k).length + 1) c35) 3 1 ((anyL m ys k).length + 1) ((anyL m ys k).flatMap K.eI ++ [.int .i64 (anyE m ys k)])]) [.slice (some ⟨g35, 0, none⟩) ((anyL m ys k).length + 1) c35, .int .i64 ((k : Int) + 1)] ⟨k + 1, some ⟨g35, 0, none⟩, c35, by rw [anyL_succ, List.length_append]; rfl, by rw [anyL_succ, List.length_append, List.flatMap_append]; rfl, by omega⟩ (by simp [K.nth, intOf]; omega) (by repeat (first | exact List.Sublist.refl _ | apply List.Sublist.cons)) (by kernel_rfl)
  try replace ht12 := of_decide_eq_false ht12
  refine K.exit ?_
  refine K.exit_then ?_
  refine K.exit_then ?_
  refine K.exit_here ?_
  refine K.norm_then ?_
  refine sr ?_
  refine qm ?_
  refine qa ?_
  refine sn ?_
  refine K.ret ?_
  refine K.end_ret (fun w _ => K.res_tmp rfl w) ?_
  have e0 : k = m.ps.length := by omega
  exact K.rets_s K.m1 (by rw [e0]) (by rw [e0]) rfl

set_option maxRecDepth 100000 in
theorem c39 {m : Mod} {A B C : Option Addr} {c d e : Nat} {w : World} (hH : K.Rd w A 1 K.eI m.hs) (hP : K.Rd w B 5 eN m.ps) (hS : K.Rd w C 4 eS m.ss) (hn : m.hs.length ≤ 4611686018427387904) (hm : m.ps.length ≤ 4611686018427387904) (hk : m.ss.length ≤ 4611686018427387904) (hcd : m.ps.length ≤ d) (hT : Tab w) (hc : (chk m).2.2 = 0) :
    Calls Tryd.prog 39 [.agg #[.int .i64 m.W, .int .i64 m.D, .slice A m.hs.length c, .slice B m.ps.length d, .slice C m.ss.length e]].toArray w (K.Gives (.bool (allB m)) w) := by
  refine K.enter (args := [.agg #[.int .i64 m.W, .int .i64 m.D, .slice A m.hs.length c, .slice B m.ps.length d, .slice C m.ss.length e]]) Tryd.func39 rfl (n := 30) rfl ?_
  simp only [List.replicate, List.cons_append, List.nil_append]
  refine sr ?_
  refine K.seq_new (K.box) rfl ?_
  intro b1
  refine zN ?_
  refine qa ?_
  refine sn ?_
  refine K.seq ?_
  refine sr ?_
  refine qa ?_
  refine sn ?_
  refine K.block ?_
  refine K.loopW [3] [2, 4, 5, 6, 7, 8, 9, 10, 11, 12, 13, 14, 15, 16, 17, 18, 19, 20, 21, 22, 23, 24, 25, 26, 27, 28, 29, 30] (fun vi L => ∃ s : Nat, vi = [.int .i64 (s : Int)] ∧ L = [K.blk b1 26 [.int .i64 m.W, .int .i64 m.D, .slice A m.hs.length c, .slice B m.ps.length d, .slice C m.ss.length e]] ∧ s ≤ m.ss.length ∧ ∀ j : Nat, j < s → (sureL m j).length = m.ps.length) (fun vi => m.ss.length - (intOf (K.nth vi 0)).toNat) ?_ ?_
  · exact ⟨0, rfl, rfl, Nat.zero_le _, fun j hj => absurd hj (Nat.not_lt_zero j)⟩
  intro vi vr L hJ
  obtain ⟨s, rfl, rfl, hsn, hall⟩ := hJ
  try dsimp only [setd, setn, ev, nth, over, cl, eI, eP, eT, eN, eS, setM, setF, List.map, List.append, List.drop, List.take]
  refine K.seq ?_
  refine sr ?_
  refine qm ?_
  refine qp (K.fieldAddr_lit fo_26_4 rfl) ?_
  refine K.seq_sil (K.load1_own one_24 rfl (K.m0) rfl) rfl ?_
  refine zN ?_
  refine qp (K.len_sl sl_24 rfl) ?_
  refine qp (K.lss rfl rfl) ?_
  refine sn ?_
  refine K.cond rfl (fun ht11 => ?_) (fun ht11 => ?_)
  · try replace ht11 := of_decide_eq_true ht11
    have hs : s < m.ss.length := by omega
    have hse := seen_0 hc hs
    have hsl := sure_len6 (m := m) (s := s)
    refine K.skip ?_
    refine K.norm_then ?_
    refine K.seq ?_
    refine K.block ?_
    refine sr ?_
    refine K.seq_sil (K.loadA_own ag_26 rfl (K.m0) rfl) rfl ?_
    refine zN ?_
    refine qm ?_
    refine K.seq_loud (K.call_f cal_21 (fun F w hF hw => c21 (hH.pass hw) (hP.pass hw) (hS.pass hw) hn hm hk hcd (hT.pass hw))) rfl ?_
    rintro ⟨⟨A3, a3⟩, ⟨A4, a4⟩⟩ ⟨hq3, hq4⟩
    refine zN ?_
    refine qm ?_
    refine qx ?_
    refine qx ?_
    refine qx ?_
    iterate 3 refine qa ?_
    refine sn ?_
    refine sr ?_
    refine qm ?_
    refine qp (K.Pure.eq (K.neq rfl rfl) (show _ = Value.bool false from congrArg Value.bool (by simp [hse]))) ?_
    iterate 2 refine qm ?_
    refine qp (K.len_sl sl_22 rfl) ?_
    refine qp (K.fieldAddr_lit fo_26_3 rfl) ?_
    refine K.seq_sil (K.load1_own one_23 rfl (K.m2) rfl) rfl ?_
    refine zN ?_
    refine qp (K.len_sl sl_23 rfl) ?_
    refine qp (K.neq rfl rfl) ?_
    refine qp (K.pick_f rfl) ?_
    refine sn ?_
    refine K.cond rfl (fun ht30 => ?_) (fun ht30 => ?_)
    · try replace ht30 := of_decide_eq_true ht30
      refine sr ?_
      refine qa ?_
      refine sn ?_
      refine K.ret ?_
      refine K.ret_block ?_
      refine K.ret_then ?_
      refine K.ret_then ?_
      refine K.ret_block ?_
      refine K.ret_then ?_
      refine K.end_ret (fun w _ => K.res_tmp rfl w) ?_
      have ho : allB m = false := by
        cases e : allB m with
        | false => rfl
        | true => have := (all_iff hc).1 e s hs; omega
      exact K.gives (by rw [ho]; rfl)
    try replace ht30 := of_decide_eq_false ht30
    refine K.skip ?_
    refine K.norm_block ?_
    refine K.norm_then ?_
    refine K.region_lit ?_
    refine qm ?_
    refine qp (K.add_i64 rfl rfl (by omega)) ?_
    refine qa ?_
    refine K.seq_nil ?_
    exact K.round_endW (L'' := [K.blk b1 26 [.int .i64 m.W, .int .i64 m.D, .slice A m.hs.length c, .slice B m.ps.length d, .slice C m.ss.length e]]) [.int .i64 ((s : Int) + 1)] ⟨s + 1, rfl, rfl, by omega, K.lt_succ_case hall (by omega)⟩ (by simp [K.nth, intOf]; omega) (by repeat (first | exact List.Sublist.refl _ | apply List.Sublist.cons)) (by kernel_rfl)
  try replace ht11 := of_decide_eq_false ht11
  refine K.exit ?_
  refine K.exit_then ?_
  refine K.exit_then ?_
  refine K.exit_here ?_
  refine K.norm_then ?_
  refine sr ?_
  refine qa ?_
  refine sn ?_
  refine K.ret ?_
  refine K.end_ret (fun w _ => K.res_tmp rfl w) ?_
  have ho : allB m = true := (all_iff hc).2 (fun j hj => hall j (by omega))
  exact K.gives (by rw [ho]; rfl)

set_option maxRecDepth 100000 in
set_option maxHeartbeats 1000000 in
theorem c40 {m : Mod} {A B C : Option Addr} {c d e : Nat} {Q : Option Addr} {q : Nat} {l : List Int} {w : World} (hP : K.Rd w B 5 eN m.ps) (hL : K.Rd w Q 1 K.eI l) (hll : l.length = m.ps.length) (hgn : m.ps.length ≤ 6) :
    Calls Tryd.prog 40 [.agg #[.int .i64 m.W, .int .i64 m.D, .slice A m.hs.length c, .slice B m.ps.length d, .slice C m.ss.length e], .slice Q l.length q].toArray w (K.Ret (fun r : Option Addr × Nat => ((longM m l).ps.length = 0 ∨ ∃ b, r.1 = some ⟨b, 0, none⟩) ∧ (longM m l).ps.length ≤ r.2) (fun r => .agg #[.int .i64 m.W, .int .i64 m.D, .slice A m.hs.length c, .slice r.1 (longM m l).ps.length r.2, .slice C m.ss.length e]) (fun r => [K.row (.slice r.1 (longM m l).ps.length r.2) 54 5 (longM m l).ps.length ((longM m l).ps.flatMap eN)]) w) := by
  refine K.enter (args := [.agg #[.int .i64 m.W, .int .i64 m.D, .slice A m.hs.length c, .slice B m.ps.length d, .slice C m.ss.length e], .slice Q l.length q]) Tryd.func40 rfl (n := 25) rfl ?_
  simp only [List.replicate, List.cons_append, List.nil_append]
  refine sr ?_
  refine K.seq_new (K.box) rfl ?_
  intro b2
  refine zN ?_
  refine K.seq_new (K.alloc zr_26) rfl ?_
  intro b4
  refine zN ?_
  refine sn ?_
  refine sr ?_
  refine K.seq_new (K.buildSlice (bs0p)) rfl ?_
  intro b6
  refine zN ?_
  refine qp (K.fieldAddr_lit fo_26_3 rfl) ?_
  refine K.seq_sil (K.load1_own one_23 rfl (K.m2) rfl) rfl ?_
  refine zN ?_
  refine K.blk_row0 (size := 5) ?_
  refine K.seq_upd (K.appendS el_23 rfl rfl hP.sl eN_len (oneN _) (by omega) (by omega) (fun _ _ => K.rp0)) rfl ?_
  rintro ⟨A9, c9⟩ _
  refine zN ?_
  simp only [Nat.zero_add, List.nil_append]
  refine zN ?_
  refine qp (K.fieldAddr_lit fo_26_3 rfl) ?_
  refine K.seq_st (K.store sz_23 rfl rfl rfl rfl (K.rp2)) rfl ?_
  refine zN ?_
  refine sn ?_
  refine K.seq ?_
  refine K.seq ?_
  refine K.use_rowc K.m0 (fun hA9 hc9 => ?_)
  refine K.region_lit ?_
  refine qa ?_
  refine sn ?_
  refine K.block ?_
  refine K.loopW [5] [11, 12, 13, 14, 15, 16, 17, 18, 19, 20, 21, 22, 23, 24, 25] (fun vi L => ∃ k : Nat, vi = [.int .i64 (k : Int)] ∧ L = [K.row (.slice A9 m.ps.length c9) 54 5 m.ps.length ((lgP m l k).flatMap eN), K.blk b4 26 [.int .i64 0, .int .i64 0, .slice none 0 0, .slice none 0 0, .slice none 0 0], K.blk b2 26 [.int .i64 m.W, .int .i64 m.D, .slice A m.hs.length c, .slice A9 m.ps.length c9, .slice C m.ss.length e]] ∧ k ≤ l.length) (fun vi => l.length - (intOf (K.nth vi 0)).toNat) ?_ ?_
  · exact ⟨0, rfl, by rw [lg_0], Nat.zero_le _⟩
  intro vi vr L hJ
  obtain ⟨k, rfl, rfl, hkn⟩ := hJ
  try dsimp only [setd, setn, ev, nth, over, cl, eI, eP, eT, eN, eS, setM, setF, List.map, List.append, List.drop, List.take]
  refine K.seq ?_
  refine sr ?_
  iterate 2 refine qm ?_
  refine qp (K.len_sl sl_22 rfl) ?_
  refine qp (K.lss rfl rfl) ?_
  refine sn ?_
  refine K.cond rfl (fun ht14 => ?_) (fun ht14 => ?_)
  · try replace ht14 := of_decide_eq_true ht14
    have hk : k < l.length := by omega
    have hkp : k < m.ps.length := by omega
    obtain ⟨gb, rfl⟩ := hA9.resolve_left (by omega)
    have hlk : (lgP m l k).length = m.ps.length := lg_len
    have hfit : 0 + k * 5 + 3 + 1 ≤ ((lgP m l k).flatMap eN).length := by rw [K.flat_len (size := 5) eN_len]; omega
    have hset : K.over ((lgP m l k).flatMap eN) (0 + k * 5 + 3) [.int .i64 (l.getD k default)] = (lgP m l (k + 1)).flatMap eN := by rw [K.set_fld (x' := { (lgP m l k).getD k default with len := l.getD k default }) eN_len (by show 3 + 1 ≤ 5; decide) (by omega) rfl, lg_set hkp]
    refine K.skip ?_
    refine K.norm_then ?_
    refine K.seq ?_
    refine K.block ?_
    refine K.draw_L [9] Tryd_mixed ?_
    refine K.d_pure 0 rfl (K.fieldAddr_lit fo_26_3 rfl) (by kernel_rfl) rfl ?_
    refine zn ?_
    refine K.d_mem 1 rfl (K.load1_own one_23 rfl (K.m2) rfl) (fun _ h => h) (by kernel_rfl) (by kernel_rfl) rfl ?_
    refine zN ?_
    refine K.d_pure 2 rfl (K.move) (by kernel_rfl) rfl ?_
    refine zn ?_
    refine K.d_pure 3 rfl (K.move) (by kernel_rfl) rfl ?_
    refine zn ?_
    refine K.d_pure 4 rfl (K.move) (by kernel_rfl) rfl ?_
    refine zn ?_
    refine K.d_ix (M := []) 5 _ rfl hL.sl sl_22 rfl rfl rfl (by omega) (by kernel_rfl) rfl ?_
    intro p22 hp22
    refine zN ?_
    refine K.d_mem 6 rfl (K.load1 one_3 rfl (hp22.any)) (fun _ h => h) (by kernel_rfl) (by kernel_rfl) rfl ?_
    refine zN ?_
    refine K.d_pure 7 rfl (K.Pure.eq (K.indexAddr_sl sl_23 rfl rfl (by omega) (by omega)) (show _ = Value.pointer (some ⟨gb, 0 + k * 5, none⟩) from by rw [K.add_lit, Int.toNat_natCast])) (by kernel_rfl) rfl ?_
    refine zN ?_
    refine zN ?_
    refine K.d_pure 8 rfl (K.Pure.eq (K.fieldAddr fo_54_3 rfl) (show _ = Value.pointer (some ⟨gb, 0 + k * 5 + 3, none⟩) from by rw [K.add_lit])) (by kernel_rfl) rfl ?_
    refine zn ?_
    refine K.d_last 9 rfl (K.store_row (xs := (lgP m l k).flatMap eN) (j := 0 + k * 5 + 3) sz_3 rfl rfl hfit rfl (K.rpe K.rp0 (congrArg (K.row (.slice (some ⟨gb, 0, none⟩) m.ps.length c9) 54 5 m.ps.length) hset.symm))) rfl (by kernel_rfl) rfl ?_
    intro _ _
    refine zN ?_
    refine zN ?_
    refine K.d_done (by kernel_rfl) ?_
    refine K.norm_block ?_
    refine K.norm_then ?_
    refine K.region_lit ?_
    refine qm ?_
    refine qp (K.add_i64 rfl rfl (by omega)) ?_
    refine qa ?_
    refine K.seq_nil ?_
    exact K.round_endW (L'' := [K.row (.slice (some ⟨gb, 0, none⟩) m.ps.length c9) 54 5 m.ps.length ((lgP m l (k + 1)).flatMap eN), K.blk b4 26 [.int .i64 0, .int .i64 0, .slice none 0 0, .slice none 0 0, .slice none 0 0], K.blk b2 26 [.int .i64 m.W, .int .i64 m.D, .slice A m.hs.length c, .slice (some ⟨gb, 0, none⟩) m.ps.length c9, .slice C m.ss.length e]]) [.int .i64 ((k : Int) + 1)] ⟨k + 1, rfl, rfl, by omega⟩ (by simp [K.nth, intOf]; omega) (List.Sublist.refl _) (by kernel_rfl)
  try replace ht14 := of_decide_eq_false ht14
  refine K.exit ?_
  refine K.exit_then ?_
  refine K.exit_then ?_
  refine K.exit_here ?_
  refine K.norm_then ?_
  refine sr ?_
  refine K.seq_sil (K.loadA_own ag_26 rfl (K.m2) rfl) rfl ?_
  refine zN ?_
  refine K.seq_st (K.store_all sz_26 rfl rfl rfl rfl (K.rp1)) rfl ?_
  refine zN ?_
  refine sn ?_
  refine K.ret ?_
  refine K.end_ret (fun w hw => K.res_c rfl rfl (K.run_cellA ag_26 rfl (K.m1) rfl w hw)) ?_
  have e0 : k = m.ps.length := by omega
  have en : (longM m l).ps.length = m.ps.length := long_n
  have ep : lgP m l k = (longM m l).ps := by rw [e0]; rfl
  rw [en, ← ep]
  exact K.rets_v (A9, c9) ⟨hA9, hc9⟩ rfl rfl (List.Sublist.cons_cons _ (List.nil_sublist _))

set_option maxRecDepth 100000 in
theorem c46 {b n : Nat} {w : World} (hb : b < 256) (hn : n ≤ 6) :
    Calls Tryd.prog 46 [.int .u8 (b : Int), .int .i64 (n : Int)].toArray w (K.RetS 3 1 K.eI (ptsS n b) w) := by
  refine K.enter (args := [.int .u8 (b : Int), .int .i64 (n : Int)]) Tryd.func46 rfl (n := 20) rfl ?_
  simp only [List.replicate, List.cons_append, List.nil_append]
  refine sr ?_
  refine qa ?_
  refine sn ?_
  refine sr ?_
  refine qa ?_
  refine sn ?_
  refine K.seq ?_
  refine sr ?_
  refine K.nil_row (e := 3) (size := 1) ?_
  refine qa ?_
  refine sn ?_
  refine K.block ?_
  refine K.loopW [5, 6] [7, 8, 9, 10, 11, 12, 13, 14, 15, 16, 17, 18, 19, 20] (fun vi L => ∃ (k : Nat) (Q1 : Option Addr) (q1 : Nat), vi = [.slice Q1 (ptsS k b).length q1, .int .i64 (k : Int)] ∧ L = [K.row (.slice Q1 (ptsS k b).length q1) 3 1 (ptsS k b).length ((ptsS k b).flatMap K.eI)] ∧ k ≤ n) (fun vi => n - (intOf (K.nth vi 1)).toNat) ?_ ?_
  · exact ⟨0, none, 0, rfl, rfl, Nat.zero_le _⟩
  intro vi vr L hJ
  obtain ⟨k, Q1, q1, rfl, rfl, hkn⟩ := hJ
  try dsimp only [setd, setn, ev, nth, over, cl, eI, eP, eT, eN, eS, setM, setF, List.map, List.append, List.drop, List.take]
  refine K.seq ?_
  refine sr ?_
  iterate 2 refine qm ?_
  refine qp (K.lss rfl rfl) ?_
  refine sn ?_
  refine K.cond rfl (fun ht9 => ?_) (fun ht9 => ?_)
  · try replace ht9 := of_decide_eq_true ht9
    have hk : k < n := by omega
    have hpl := @pts_len k b
    refine K.skip ?_
    refine K.norm_then ?_
    refine K.seq ?_
    refine K.block ?_
    refine sr ?_
    iterate 2 refine qm ?_
    refine qp (K.shr_int rfl rfl (by omega)) ?_
    refine qp (K.rem_8 rfl rfl fdiv_nn (by decide)) ?_
    refine qp (K.Pure.eq (K.eql rfl rfl) (show _ = Value.bool (b.testBit k) from congrArg Value.bool (bit8 hb (by omega)))) ?_
    refine sn ?_
    refine K.cond rfl (fun ht16 => ?_) (fun ht16 => ?_)
    · try replace ht16 := of_decide_eq_true ht16
      refine K.region_lit ?_
      iterate 2 refine qm ?_
      refine K.seq_new (K.buildSlice (bs1 _)) rfl ?_
      intro b19
      refine zN ?_
      refine K.seq_upd (K.append el_22 rfl rfl (K.PtrL.own' (K.m0)) rfl rfl (by decide) (by omega) (by omega) (fun _ _ => K.rp1)) rfl ?_
      rintro ⟨g20, c20⟩ _
      refine zN ?_
      refine qa ?_
      refine K.seq_nil ?_
      refine K.norm_block ?_
      refine K.norm_then ?_
      refine K.region_lit ?_
      refine qm ?_
      refine qp (K.add_i64 rfl rfl (by omega)) ?_
      refine qa ?_
      refine K.seq_nil ?_
      have hb1 : b.testBit k = true := ht16
      have hfe : (ptsS (k + 1) b) = (ptsS k b) ++ [(k : Int)] := selN_yes (p := fun i => b.testBit i) hb1
      exact K.round_endW (L'' := [K.row (.slice (some ⟨g20, 0, none⟩) ((ptsS k b).length + 1) c20) 3 1 ((ptsS k b).length + 1) ((ptsS k b).flatMap K.eI ++ [.int .i64 (k : Int)])]) [.slice (some ⟨g20, 0, none⟩) ((ptsS k b).length + 1) c20, .int .i64 ((k : Int) + 1)] ⟨k + 1, some ⟨g20, 0, none⟩, c20, by rw [hfe, List.length_append]; rfl, by rw [hfe, List.length_append, List.flatMap_append]; rfl, by omega⟩ (by simp [K.nth, intOf]; omega) (by repeat (first | exact List.Sublist.refl _ | apply List.Sublist.cons)) (by kernel_rfl)
    try replace ht16 := of_decide_eq_false ht16
    refine K.skip ?_
    refine K.norm_block ?_
    refine K.norm_then ?_
    refine K.region_lit ?_
    refine qm ?_
    refine qp (K.add_i64 rfl rfl (by omega)) ?_
    refine qa ?_
    refine K.seq_nil ?_
    have hb0 : b.testBit k = false := ht16
    have hfe : (ptsS (k + 1) b) = (ptsS k b) := selN_no (p := fun i => b.testBit i) hb0
    exact K.round_endW (L'' := [K.row (.slice Q1 (ptsS k b).length q1) 3 1 (ptsS k b).length ((ptsS k b).flatMap K.eI)]) [.slice Q1 (ptsS k b).length q1, .int .i64 ((k : Int) + 1)] ⟨k + 1, Q1, q1, by rw [hfe]; rfl, by rw [hfe], by omega⟩ (by simp [K.nth, intOf]; omega) (by repeat (first | exact List.Sublist.refl _ | apply List.Sublist.cons)) (by kernel_rfl)
  try replace ht9 := of_decide_eq_false ht9
  refine K.exit ?_
  refine K.exit_then ?_
  refine K.exit_then ?_
  refine K.exit_here ?_
  refine K.norm_then ?_
  refine sr ?_
  refine qm ?_
  refine qa ?_
  refine sn ?_
  refine K.ret ?_
  refine K.end_ret (fun w _ => K.res_tmp rfl w) ?_
  have e0 : k = n := by omega
  exact K.rets_s K.m0 (by rw [e0]) (by rw [e0]) rfl

set_option maxRecDepth 100000 in
theorem c48 {Q : Option Addr} {q n : Nat} {l : List Int} {w : World} (hL : K.Rd w Q 1 K.eI l) (hl : l.length ≤ 1000000) :
    Calls Tryd.prog 48 [.slice Q l.length q, .int .i64 (n : Int)].toArray w (K.Gives (.bool (ascB l n)) w) := by
  refine K.enter (args := [.slice Q l.length q, .int .i64 (n : Int)]) Tryd.func48 rfl (n := 39) rfl ?_
  simp only [List.replicate, List.cons_append, List.nil_append]
  refine sr ?_
  refine qa ?_
  refine sn ?_
  refine K.seq ?_
  refine sr ?_
  refine qa ?_
  refine sn ?_
  refine K.block ?_
  refine K.loopW [5] [4, 6, 7, 8, 9, 10, 11, 12, 13, 14, 15, 16, 17, 18, 19, 20, 21, 22, 23, 24, 25, 26, 27, 28, 29, 30, 31, 32, 33, 34, 35, 36, 37, 38, 39, 40] (fun vi L => ∃ k : Nat, vi = [.int .i64 (k : Int)] ∧ L = [] ∧ k ≤ l.length ∧ ∀ j, j < k → ((0 ≤ l.getD j default ∧ l.getD j default < (n : Int)) ∧ (j = 0 ∨ l.getD (j - 1) default < l.getD j default))) (fun vi => l.length - (intOf (K.nth vi 0)).toNat) ?_ ?_
  · exact ⟨0, rfl, rfl, Nat.zero_le _, fun j hj => absurd hj (Nat.not_lt_zero j)⟩
  intro vi vr L hJ
  obtain ⟨k, rfl, rfl, hkn, hall⟩ := hJ
  try dsimp only [setd, setn, ev, nth, over, cl, eI, eP, eT, eN, eS, setM, setF, List.map, List.append, List.drop, List.take]
  refine K.seq ?_
  refine sr ?_
  iterate 2 refine qm ?_
  refine qp (K.len_sl sl_22 rfl) ?_
  refine qp (K.lss rfl rfl) ?_
  refine sn ?_
  refine K.cond rfl (fun ht9 => ?_) (fun ht9 => ?_)
  · try replace ht9 := of_decide_eq_true ht9
    have hk : k < l.length := by omega
    refine K.skip ?_
    refine K.norm_then ?_
    refine K.seq ?_
    refine K.block ?_
    refine K.seq ?_
    refine K.draw_L [] Tryd_mixed ?_
    refine K.d_pure 0 rfl (K.move) (by kernel_rfl) rfl ?_
    refine zn ?_
    refine K.d_pure 1 rfl (K.move) (by kernel_rfl) rfl ?_
    refine zn ?_
    refine K.d_ix (M := []) 2 _ rfl hL.sl sl_22 rfl rfl rfl (by omega) (by kernel_rfl) rfl ?_
    intro p14 hp14
    refine zN ?_
    refine K.d_mem 3 rfl (K.load1 one_3 rfl (hp14.any)) (fun _ h => h) (by kernel_rfl) (by kernel_rfl) rfl ?_
    refine zN ?_
    refine K.d_pure 4 rfl (K.lss rfl rfl) (by kernel_rfl) rfl ?_
    refine zn ?_
    refine K.d_pure 5 rfl (K.move) (by kernel_rfl) rfl ?_
    refine zn ?_
    refine K.dsplit 17 rfl (fun hg17 => ?_) (fun hg17 => ?_)
    · try replace hg17 := of_decide_eq_true hg17
      refine K.d_skip 6 rfl (by kernel_rfl) rfl ?_
      refine zN ?_
      refine K.d_skip 7 rfl (by kernel_rfl) rfl ?_
      refine zN ?_
      refine K.d_skip 8 rfl (by kernel_rfl) rfl ?_
      refine zN ?_
      refine K.d_skip 9 rfl (by kernel_rfl) rfl ?_
      refine zN ?_
      refine K.d_skip 10 rfl (by kernel_rfl) rfl ?_
      refine zN ?_
      refine K.d_skip 11 rfl (by kernel_rfl) rfl ?_
      refine zN ?_
      refine K.d_pure 12 rfl (K.pick_t rfl) (by kernel_rfl) rfl ?_
      refine zn ?_
      refine K.d_pure 13 rfl (K.move) (by kernel_rfl) rfl ?_
      refine zn ?_
      refine K.d_skip 14 rfl (by kernel_rfl) rfl ?_
      refine zN ?_
      refine K.d_skip 15 rfl (by kernel_rfl) rfl ?_
      refine zN ?_
      refine K.d_skip 16 rfl (by kernel_rfl) rfl ?_
      refine zN ?_
      refine K.d_skip 17 rfl (by kernel_rfl) rfl ?_
      refine zN ?_
      refine K.d_skip 18 rfl (by kernel_rfl) rfl ?_
      refine zN ?_
      refine K.d_skip 19 rfl (by kernel_rfl) rfl ?_
      refine zN ?_
      refine K.d_skip 20 rfl (by kernel_rfl) rfl ?_
      refine zN ?_
      refine K.d_skip 21 rfl (by kernel_rfl) rfl ?_
      refine zN ?_
      refine K.d_skip 22 rfl (by kernel_rfl) rfl ?_
      refine zN ?_
      refine K.d_skip 23 rfl (by kernel_rfl) rfl ?_
      refine zN ?_
      refine K.d_skip 24 rfl (by kernel_rfl) rfl ?_
      refine zN ?_
      refine K.d_skip 25 rfl (by kernel_rfl) rfl ?_
      refine zN ?_
      refine K.d_skip 26 rfl (by kernel_rfl) rfl ?_
      refine zN ?_
      refine K.d_skip 27 rfl (by kernel_rfl) rfl ?_
      refine zN ?_
      refine K.d_pure 28 rfl (K.pick_t rfl) (by kernel_rfl) rfl ?_
      refine zn ?_
      refine K.d_done (by kernel_rfl) ?_
      refine K.norm_then ?_
      refine K.cond_true rfl ?_
      refine sr ?_
      refine qa ?_
      refine sn ?_
      refine K.ret ?_
      refine K.ret_block ?_
      refine K.ret_then ?_
      refine K.ret_then ?_
      refine K.ret_block ?_
      refine K.ret_then ?_
      refine K.end_ret (fun w _ => K.res_tmp rfl w) ?_
      exact K.gives (by rw [asc_f hk (by omega)]; rfl)
    try replace hg17 := of_decide_eq_false hg17
    refine K.d_pure 6 rfl (K.move) (by kernel_rfl) rfl ?_
    refine zn ?_
    refine K.d_pure 7 rfl (K.move) (by kernel_rfl) rfl ?_
    refine zn ?_
    refine K.d_ix (M := []) 8 _ rfl hL.sl sl_22 rfl rfl rfl (by omega) (by kernel_rfl) rfl ?_
    intro p20 hp20
    refine zN ?_
    refine K.d_mem 9 rfl (K.load1 one_3 rfl (hp20.any)) (fun _ h => h) (by kernel_rfl) (by kernel_rfl) rfl ?_
    refine zN ?_
    refine K.d_pure 10 rfl (K.move) (by kernel_rfl) rfl ?_
    refine zn ?_
    refine K.d_pure 11 rfl (K.geq rfl rfl) (by kernel_rfl) rfl ?_
    refine zn ?_
    refine K.d_pure 12 rfl (K.pick_f rfl) (by kernel_rfl) rfl ?_
    refine zn ?_
    refine K.d_pure 13 rfl (K.move) (by kernel_rfl) rfl ?_
    refine zn ?_
    refine K.dsplit 25 rfl (fun hg25 => ?_) (fun hg25 => ?_)
    · try replace hg25 := of_decide_eq_true hg25
      refine K.d_skip 14 rfl (by kernel_rfl) rfl ?_
      refine zN ?_
      refine K.d_skip 15 rfl (by kernel_rfl) rfl ?_
      refine zN ?_
      refine K.d_skip 16 rfl (by kernel_rfl) rfl ?_
      refine zN ?_
      refine K.d_skip 17 rfl (by kernel_rfl) rfl ?_
      refine zN ?_
      refine K.d_skip 18 rfl (by kernel_rfl) rfl ?_
      refine zN ?_
      refine K.d_skip 19 rfl (by kernel_rfl) rfl ?_
      refine zN ?_
      refine K.d_skip 20 rfl (by kernel_rfl) rfl ?_
      refine zN ?_
      refine K.d_skip 21 rfl (by kernel_rfl) rfl ?_
      refine zN ?_
      refine K.d_skip 22 rfl (by kernel_rfl) rfl ?_
      refine zN ?_
      refine K.d_skip 23 rfl (by kernel_rfl) rfl ?_
      refine zN ?_
      refine K.d_skip 24 rfl (by kernel_rfl) rfl ?_
      refine zN ?_
      refine K.d_skip 25 rfl (by kernel_rfl) rfl ?_
      refine zN ?_
      refine K.d_skip 26 rfl (by kernel_rfl) rfl ?_
      refine zN ?_
      refine K.d_skip 27 rfl (by kernel_rfl) rfl ?_
      refine zN ?_
      refine K.d_pure 28 rfl (K.pick_t rfl) (by kernel_rfl) rfl ?_
      refine zn ?_
      refine K.d_done (by kernel_rfl) ?_
      refine K.norm_then ?_
      refine K.cond_true rfl ?_
      refine sr ?_
      refine qa ?_
      refine sn ?_
      refine K.ret ?_
      refine K.ret_block ?_
      refine K.ret_then ?_
      refine K.ret_then ?_
      refine K.ret_block ?_
      refine K.ret_then ?_
      refine K.end_ret (fun w _ => K.res_tmp rfl w) ?_
      exact K.gives (by rw [asc_f hk (by omega)]; rfl)
    try replace hg25 := of_decide_eq_false hg25
    refine K.d_pure 14 rfl (K.move) (by kernel_rfl) rfl ?_
    refine zn ?_
    refine K.d_pure 15 rfl (K.gtr rfl rfl) (by kernel_rfl) rfl ?_
    refine zn ?_
    refine K.d_pure 16 rfl (K.move) (by kernel_rfl) rfl ?_
    refine zn ?_
    refine K.dsplit 28 rfl (fun hg28 => ?_) (fun hg28 => ?_)
    · try replace hg28 := of_decide_eq_true hg28
      refine K.d_pure 17 rfl (K.move) (by kernel_rfl) rfl ?_
      refine zn ?_
      refine K.d_pure 18 rfl (K.move) (by kernel_rfl) rfl ?_
      refine zn ?_
      refine K.d_ix (M := []) 19 _ rfl hL.sl sl_22 rfl rfl rfl (by omega) (by kernel_rfl) rfl ?_
      intro p31 hp31
      refine zN ?_
      refine K.d_mem 20 rfl (K.load1 one_3 rfl (hp31.any)) (fun _ h => h) (by kernel_rfl) (by kernel_rfl) rfl ?_
      refine zN ?_
      refine K.d_pure 21 rfl (K.move) (by kernel_rfl) rfl ?_
      refine zn ?_
      refine K.d_pure 22 rfl (K.move) (by kernel_rfl) rfl ?_
      refine zn ?_
      refine K.d_pure 23 rfl (K.sub_i64 rfl rfl (by omega)) (by kernel_rfl) rfl ?_
      refine zn ?_
      refine K.d_ix (M := []) 24 (k - 1) rfl hL.sl sl_22 rfl rfl (by omega) (by omega) (by kernel_rfl) rfl ?_
      intro p36 hp36
      refine zN ?_
      refine K.d_mem 25 rfl (K.load1 one_3 rfl (hp36.any)) (fun _ h => h) (by kernel_rfl) (by kernel_rfl) rfl ?_
      refine zN ?_
      refine K.d_pure 26 rfl (K.leq rfl rfl) (by kernel_rfl) rfl ?_
      refine zn ?_
      refine K.d_pure 27 rfl (K.pick_t rfl) (by kernel_rfl) rfl ?_
      refine zn ?_
      refine K.d_pure 28 rfl (K.pick_f rfl) (by kernel_rfl) rfl ?_
      refine zn ?_
      refine K.d_done (by kernel_rfl) ?_
      refine K.norm_then ?_
      refine K.cond rfl (fun ht40 => ?_) (fun ht40 => ?_)
      · try replace ht40 := of_decide_eq_true ht40
        refine sr ?_
        refine qa ?_
        refine sn ?_
        refine K.ret ?_
        refine K.ret_block ?_
        refine K.ret_then ?_
        refine K.ret_then ?_
        refine K.ret_block ?_
        refine K.ret_then ?_
        refine K.end_ret (fun w _ => K.res_tmp rfl w) ?_
        exact K.gives (by rw [asc_f hk (by omega)]; rfl)
      try replace ht40 := of_decide_eq_false ht40
      refine K.skip ?_
      refine K.norm_block ?_
      refine K.norm_then ?_
      refine K.region_lit ?_
      refine qm ?_
      refine qp (K.add_i64 rfl rfl (by omega)) ?_
      refine qa ?_
      refine K.seq_nil ?_
      exact K.round_endW (L'' := []) [.int .i64 ((k : Int) + 1)] ⟨k + 1, rfl, rfl, by omega, K.lt_succ_case hall (by omega)⟩ (by simp [K.nth, intOf]; omega) (by repeat (first | exact List.Sublist.refl _ | apply List.Sublist.cons)) (by kernel_rfl)
    try replace hg28 := of_decide_eq_false hg28
    refine K.d_skip 17 rfl (by kernel_rfl) rfl ?_
    refine zN ?_
    refine K.d_skip 18 rfl (by kernel_rfl) rfl ?_
    refine zN ?_
    refine K.d_skip 19 rfl (by kernel_rfl) rfl ?_
    refine zN ?_
    refine K.d_skip 20 rfl (by kernel_rfl) rfl ?_
    refine zN ?_
    refine K.d_skip 21 rfl (by kernel_rfl) rfl ?_
    refine zN ?_
    refine K.d_skip 22 rfl (by kernel_rfl) rfl ?_
    refine zN ?_
    refine K.d_skip 23 rfl (by kernel_rfl) rfl ?_
    refine zN ?_
    refine K.d_skip 24 rfl (by kernel_rfl) rfl ?_
    refine zN ?_
    refine K.d_skip 25 rfl (by kernel_rfl) rfl ?_
    refine zN ?_
    refine K.d_skip 26 rfl (by kernel_rfl) rfl ?_
    refine zN ?_
    refine K.d_pure 27 rfl (K.pick_f rfl) (by kernel_rfl) rfl ?_
    refine zn ?_
    refine K.d_pure 28 rfl (K.pick_f rfl) (by kernel_rfl) rfl ?_
    refine zn ?_
    refine K.d_done (by kernel_rfl) ?_
    refine K.norm_then ?_
    refine K.cond_false rfl ?_
    refine K.skip ?_
    refine K.norm_block ?_
    refine K.norm_then ?_
    refine K.region_lit ?_
    refine qm ?_
    refine qp (K.add_i64 rfl rfl (by omega)) ?_
    refine qa ?_
    refine K.seq_nil ?_
    exact K.round_endW (L'' := []) [.int .i64 ((k : Int) + 1)] ⟨k + 1, rfl, rfl, by omega, K.lt_succ_case hall (by omega)⟩ (by simp [K.nth, intOf]; omega) (by repeat (first | exact List.Sublist.refl _ | apply List.Sublist.cons)) (by kernel_rfl)
  try replace ht9 := of_decide_eq_false ht9
  refine K.exit ?_
  refine K.exit_then ?_
  refine K.exit_then ?_
  refine K.exit_here ?_
  refine K.norm_then ?_
  refine sr ?_
  refine qa ?_
  refine sn ?_
  refine K.ret ?_
  refine K.end_ret (fun w _ => K.res_tmp rfl w) ?_
  exact K.gives (by rw [asc_t (fun j hj => hall j (by omega))]; rfl)

set_option maxRecDepth 100000 in
theorem c88 {m : Mod} {A B C : Option Addr} {c d e : Nat} {x y : Int} {t : Bool} {w : World} (hW : 1 ≤ m.W ∧ m.W ≤ 8) (hx : -100 ≤ x ∧ x ≤ 100) :
    Calls Tryd.prog 88 [.agg #[.int .i64 m.W, .int .i64 m.D, .slice A m.hs.length c, .slice B m.ps.length d, .slice C m.ss.length e], .int .i64 x, .int .i64 y, .bool t].toArray w (K.Gives (.tuple #[.int .i64 (ovX m.W t x y), .int .i64 (ovY t x y)]) w) := by
  refine K.enter (args := [.agg #[.int .i64 m.W, .int .i64 m.D, .slice A m.hs.length c, .slice B m.ps.length d, .slice C m.ss.length e], .int .i64 x, .int .i64 y, .bool t]) Tryd.func88 rfl (n := 15) rfl ?_
  simp only [List.replicate, List.cons_append, List.nil_append]
  refine sr ?_
  refine K.seq_new (K.box) rfl ?_
  intro b4
  refine zN ?_
  iterate 2 refine qa ?_
  refine sn ?_
  refine K.seq ?_
  refine sr ?_
  refine qm ?_
  refine sn ?_
  refine K.cond rfl (fun ht10 => ?_) (fun ht10 => ?_)
  · try replace ht10 := of_decide_eq_true ht10
    refine sr ?_
    iterate 2 refine qm ?_
    iterate 2 refine qa ?_
    refine sn ?_
    refine K.ret ?_
    refine K.ret_then ?_
    refine K.end_ret (fun w _ => K.res_tmp2 rfl w) ?_
    subst ht10
    exact K.gives rfl
  try replace ht10 := of_decide_eq_false ht10
  refine K.skip ?_
  refine K.norm_then ?_
  refine sr ?_
  refine qp (K.fieldAddr_lit fo_26_0 rfl) ?_
  refine K.seq_sil (K.load1_own one_3 rfl (K.m0) rfl) rfl ?_
  refine zN ?_
  refine qp (K.sub_i64 rfl rfl (by omega)) ?_
  refine qm ?_
  refine qp (K.sub_i64 rfl rfl (by omega)) ?_
  refine qm ?_
  iterate 2 refine qa ?_
  refine sn ?_
  refine K.ret ?_
  refine K.end_ret (fun w _ => K.res_tmp2 rfl w) ?_
  subst ht10
  exact K.gives rfl

end Go.Proofs.YthkgnhcknkjgdaaDoor
