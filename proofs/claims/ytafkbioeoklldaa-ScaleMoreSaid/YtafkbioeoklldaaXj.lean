/-
  Walks of the program's functions, printed by program: what each returns.
  Conditions stand in each theorem.
-/
import Derived.Test.YtafkbioeoklldaaKf
import Derived.Test.YtafkbioeoklldaaK2
import Derived.WalkArith
import Derived.Test.YtafkbioeoklldaaXh
import Derived.Test.YtafkbioeoklldaaXc
import Derived.Test.YtafkbioeoklldaaWm
import Derived.Test.YtafkbioeoklldaaWn
import Derived.Test.YtafkbioeoklldaaWo
import Derived.Test.YtafkbioeoklldaaWx
set_option linter.unusedSimpArgs false
set_option linter.unusedVariables false
namespace Go.Proofs.Ytafkbioeoklldaa
open Go.RowKit Go
open Go.K (setd setn ev nth over cl eI eP eT setM setF)
attribute [local irreducible] K.blk K.row
theorem c43f {a b c d : Int} (h1 : scE a b = 0) (h2 : scE c d = 0) (h : ¬ a * d < c * b) (w : World) : Calls Try.prog 43 [.agg #[.int .i64 a, .int .i64 b], .agg #[.int .i64 c, .int .i64 d]].toArray w (K.Gives (.bool false) w) := by
  have p1 := scE_parts h1
  have p2 := scE_parts h2
  have h3 := c43 (a := a) (b := b) (c := c) (d := d) (by omega) (by omega) (by omega) (by omega) (by omega) (by omega) (by omega) (by omega) w
  rw [decide_eq_false h] at h3
  exact h3
theorem c45t {A : Option Addr} {c : Nat} {xs : List (Int × Int)} {u v : Int} {w : World} (hX : K.Rd w A 2 K.eP xs) (hn : xs.length ≤ 4611686018427387904) (hm : (u, v) ∈ xs) : Calls Try.prog 45 [.slice A xs.length c, .agg #[.int .i64 u, .int .i64 v]].toArray w (K.Gives (.bool true) w) := by
  have h := c45 (c := c) (u := u) (v := v) hX hn
  rw [decide_eq_true hm] at h
  exact h

set_option maxRecDepth 100000 in
set_option maxHeartbeats 4000000 in
theorem c14 {kind base most : Int} {A B : Option Addr} {c d : Nat} {hs : List Int} {rs : List (Int × Int)} {x0 x1 x2 x3 x4 : Int} {Y : Option Addr} {cy : Nat} {ys : List Int} {w : World} (hH : K.Rd w A 1 K.eI hs) (hR : K.Rd w B 2 K.eP rs) (hn : hs.length ≤ 4611686018427387904) (hm : rs.length ≤ 4611686018427387904) (hcd : rs.length ≤ d) (hx0 : 0 ≤ x0 ∧ x0 ≤ 255) (hx1 : 0 ≤ x1 ∧ x1 ≤ 255) (hx2 : 0 ≤ x2 ∧ x2 ≤ 255) (hx3 : 0 ≤ x3 ∧ x3 ≤ 255) (hx4 : 0 ≤ x4 ∧ x4 ≤ 255) (hY : K.Rd w Y 1 eB ys) (hyb : ∀ x ∈ ys, 0 ≤ x ∧ x ≤ 255) (hyl : ys.length ≤ 140737488351232) :
    Calls Try.prog 14 [.agg #[.int .i64 kind, .int .i64 base, .int .i64 most, .slice A hs.length c, .slice B rs.length d], .agg #[.int .u8 x0, .int .u8 x1, .int .u8 x2, .int .u8 x3, .int .u8 x4], .slice Y ys.length cy].toArray w (K.Gives (.bool true) w) := by
  refine K.enter (args := [.agg #[.int .i64 kind, .int .i64 base, .int .i64 most, .slice A hs.length c, .slice B rs.length d], .agg #[.int .u8 x0, .int .u8 x1, .int .u8 x2, .int .u8 x3, .int .u8 x4], .slice Y ys.length cy]) Try.func14 rfl (n := 177) rfl ?_
  simp only [List.replicate, List.cons_append, List.nil_append]
  refine K.seq ?_
  refine K.region_lit ?_
  refine K.seq_new (K.box) rfl ?_
  intro b3
  try dsimp only [setd, setn, ev, nth, over, cl, eI, eP, eT, List.map, List.append, List.drop, List.take]
  refine K.seq_new (K.box) rfl ?_
  intro b4
  try dsimp only [setd, setn, ev, nth, over, cl, eI, eP, eT, List.map, List.append, List.drop, List.take]
  refine K.seq_pure (K.assign) rfl ?_
  dsimp only [setd, setn, ev, nth]
  refine K.seq_nil ?_
  refine K.norm_then ?_
  refine K.seq ?_
  refine K.seq ?_
  refine K.region_lit ?_
  refine K.seq_sil (K.loadA_own ag_25 rfl (K.m1) rfl) rfl ?_
  try dsimp only [setd, setn, ev, nth, over, cl, eI, eP, eT, List.map, List.append, List.drop, List.take]
  refine K.seq_call (K.call_g cal_39 (fun F w hF hw => c39 (hH.pass hw) (hR.pass hw) hn hm)) rfl ?_
  try dsimp only [setd, setn, ev, nth, over, cl, eI, eP, eT, List.map, List.append, List.drop, List.take]
  refine K.seq_pure (K.not_d rfl) rfl ?_
  dsimp only [setd, setn, ev, nth]
  refine K.seq_nil ?_
  refine K.norm_then ?_
  refine K.cond rfl (fun ht26 => ?_) (fun ht26 => ?_)
  · try replace ht26 := of_decide_eq_true ht26
    refine K.seq ?_
    refine K.region_lit ?_
    refine K.seq_call (K.call_g cal_26 (fun F w hF hw => c26 w)) rfl ?_
    try dsimp only [setd, setn, ev, nth, over, cl, eI, eP, eT, List.map, List.append, List.drop, List.take]
    refine K.seq_pure (K.assign) rfl ?_
    dsimp only [setd, setn, ev, nth]
    refine K.seq_nil ?_
    refine K.norm_then ?_
    refine K.ret ?_
    refine K.ret_then ?_
    refine K.end_ret (fun w _ => K.res_tmp rfl w) ?_
    exact K.gives rfl
  try replace ht26 := of_decide_eq_false ht26
  have hc0 : (chk kind base most hs rs).2.2 = 0 := Decidable.not_not.1 ht26
  have g := chk_good hc0
  have g1 := g.k
  have g2 := g.n
  have g3 := g.r
  have g4 := g.b
  have g5 := g.m
  have hM0 := Int.emod_nonneg x1 (show ((rs.length : Int) + 1) ≠ 0 by omega)
  have hM1 := Int.emod_lt_of_pos x1 (show 0 < ((rs.length : Int) + 1) by omega)
  have hlt : (rs.take (x1 % ((rs.length : Int) + 1)).toNat).length = (x1 % ((rs.length : Int) + 1)).toNat := by rw [List.length_take]; omega
  have hmt : (rs.take (x1 % ((rs.length : Int) + 1)).toNat).length ≤ 4611686018427387904 := by omega
  have gm : Good kind base (min 100000 (most + x0)) hs rs := g.more (by omega)
  have gf : Good kind base most hs (rs.take (x1 % ((rs.length : Int) + 1)).toNat) := g.few _
  refine K.skip ?_
  refine K.norm_then ?_
  refine K.seq ?_
  refine K.joinW [7, 8] [28, 29] (fun vi L => ∃ b7 b8 : Nat, vi = [.pointer (some ⟨b7, 0, none⟩), .pointer (some ⟨b8, 0, none⟩)] ∧ L = [K.blk b7 25 [.int .i64 kind, .int .i64 base, .int .i64 most, .slice A hs.length c, .slice B rs.length d], K.blk b8 25 [.int .i64 kind, .int .i64 base, .int .i64 most, .slice A hs.length c, .slice B rs.length d], K.blk b4 84 [.int .u8 x0, .int .u8 x1, .int .u8 x2, .int .u8 x3, .int .u8 x4], K.blk b3 25 [.int .i64 kind, .int .i64 base, .int .i64 most, .slice A hs.length c, .slice B rs.length d]]) ?_ ?_
  · refine K.draw_L [] Try_mixed ?_
    refine K.d_mem 0 rfl (K.loadA_own ag_25 rfl (K.m1) rfl) (fun _ h => h) (by kernel_rfl) (by kernel_rfl) rfl ?_
    try dsimp only [setd, setn, ev, nth, over, cl, eI, eP, eT, List.map, List.append, List.drop, List.take]
    refine K.d_mem 1 rfl (K.loadA_own ag_25 rfl (K.m1) rfl) (fun _ h => h) (by kernel_rfl) (by kernel_rfl) rfl ?_
    try dsimp only [setd, setn, ev, nth, over, cl, eI, eP, eT, List.map, List.append, List.drop, List.take]
    refine K.d_two 2 3 (by kernel_rfl) ?_ ?_
    · refine K.s_new 2 rfl (K.alloc zr_25) (fun _ h => h) (by kernel_rfl) rfl ?_
      intro b7
      try dsimp only [setd, setn, ev, nth, over, cl, eI, eP, eT, List.map, List.append, List.drop, List.take]
      refine K.d_new 3 rfl (K.alloc zr_25) (fun _ h => K.tl h) (by kernel_rfl) rfl ?_
      intro b8
      try dsimp only [setd, setn, ev, nth, over, cl, eI, eP, eT, List.map, List.append, List.drop, List.take]
      refine K.d_upd 4 rfl (K.store_all sz_25 rfl rfl rfl rfl (K.rp1)) (fun _ => fun _ h => K.tl (K.tl h)) (by kernel_rfl) rfl ?_
      intro _ _
      try dsimp only [setd, setn, ev, nth, over, cl, eI, eP, eT, List.map, List.append, List.drop, List.take]
      refine K.d_upd 5 rfl (K.store_all sz_25 rfl rfl rfl rfl (K.rp0)) (fun _ => fun _ h => K.tl (K.tl h)) (by kernel_rfl) rfl ?_
      intro _ _
      try dsimp only [setd, setn, ev, nth, over, cl, eI, eP, eT, List.map, List.append, List.drop, List.take]
      refine K.d_done (by kernel_rfl) ?_
      exact K.join_here (L' := [K.blk b7 25 [.int .i64 kind, .int .i64 base, .int .i64 most, .slice A hs.length c, .slice B rs.length d], K.blk b8 25 [.int .i64 kind, .int .i64 base, .int .i64 most, .slice A hs.length c, .slice B rs.length d], K.blk b4 84 [.int .u8 x0, .int .u8 x1, .int .u8 x2, .int .u8 x3, .int .u8 x4], K.blk b3 25 [.int .i64 kind, .int .i64 base, .int .i64 most, .slice A hs.length c, .slice B rs.length d]]) [.pointer (some ⟨b7, 0, none⟩), .pointer (some ⟨b8, 0, none⟩)] ⟨b7, b8, rfl, rfl⟩ (fun w h => (K.st_swap w h)) (by kernel_rfl)
    refine K.s_new 3 rfl (K.alloc zr_25) (fun _ h => h) (by kernel_rfl) rfl ?_
    intro b8
    try dsimp only [setd, setn, ev, nth, over, cl, eI, eP, eT, List.map, List.append, List.drop, List.take]
    refine K.d_new 2 rfl (K.alloc zr_25) (fun _ h => K.tl h) (by kernel_rfl) rfl ?_
    intro b7
    try dsimp only [setd, setn, ev, nth, over, cl, eI, eP, eT, List.map, List.append, List.drop, List.take]
    refine K.d_upd 4 rfl (K.store_all sz_25 rfl rfl rfl rfl (K.rp0)) (fun _ => fun _ h => K.tl (K.tl h)) (by kernel_rfl) rfl ?_
    intro _ _
    try dsimp only [setd, setn, ev, nth, over, cl, eI, eP, eT, List.map, List.append, List.drop, List.take]
    refine K.d_upd 5 rfl (K.store_all sz_25 rfl rfl rfl rfl (K.rp1)) (fun _ => fun _ h => K.tl (K.tl h)) (by kernel_rfl) rfl ?_
    intro _ _
    try dsimp only [setd, setn, ev, nth, over, cl, eI, eP, eT, List.map, List.append, List.drop, List.take]
    refine K.d_done (by kernel_rfl) ?_
    exact K.join_here (L' := [K.blk b7 25 [.int .i64 kind, .int .i64 base, .int .i64 most, .slice A hs.length c, .slice B rs.length d], K.blk b8 25 [.int .i64 kind, .int .i64 base, .int .i64 most, .slice A hs.length c, .slice B rs.length d], K.blk b4 84 [.int .u8 x0, .int .u8 x1, .int .u8 x2, .int .u8 x3, .int .u8 x4], K.blk b3 25 [.int .i64 kind, .int .i64 base, .int .i64 most, .slice A hs.length c, .slice B rs.length d]]) [.pointer (some ⟨b7, 0, none⟩), .pointer (some ⟨b8, 0, none⟩)] ⟨b7, b8, rfl, rfl⟩ (fun w h => h) (by kernel_rfl)
  intro vi vr L hJ
  obtain ⟨b7, b8, rfl, rfl⟩ := hJ
  try dsimp only [setd, setn, ev, nth, over, cl, eI, eP, eT, setM, setF, List.map, List.append, List.drop, List.take]
  refine K.norm_then ?_
  refine K.seq ?_
  refine K.region_lit ?_
  refine K.seq_pure (K.fieldAddr_lit fo_25_2 rfl) rfl ?_
  dsimp only [setd, setn, ev, nth]
  refine K.seq_sil (K.load1_own one_3 rfl (K.m3) rfl) rfl ?_
  try dsimp only [setd, setn, ev, nth, over, cl, eI, eP, eT, List.map, List.append, List.drop, List.take]
  refine K.seq_pure (K.indexAddr_ar ar_84 rfl rfl (by omega) (by omega)) rfl ?_
  try dsimp only [setd, setn, ev, nth, over, cl, eI, eP, eT, List.map, List.append, List.drop, List.take]
  refine K.seq_sil (K.load1_own one_5 rfl (K.m2) rfl) rfl ?_
  try dsimp only [setd, setn, ev, nth, over, cl, eI, eP, eT, List.map, List.append, List.drop, List.take]
  refine K.seq_pure (K.Pure.eq (K.conv_int ik_5 ik_3 rfl) (by rw [wrap8 hx0])) rfl ?_
  try dsimp only [setd, setn, ev, nth, over, cl, eI, eP, eT, List.map, List.append, List.drop, List.take]
  refine K.seq_pure (K.add_i64 rfl rfl (by omega)) rfl ?_
  dsimp only [setd, setn, ev, nth]
  refine K.seq_pure (K.min_int rfl rfl) rfl ?_
  dsimp only [setd, setn, ev, nth]
  refine K.seq_pure (K.fieldAddr_lit fo_25_2 rfl) rfl ?_
  dsimp only [setd, setn, ev, nth]
  refine K.seq_st (K.store sz_3 rfl rfl rfl rfl (K.rp0)) rfl ?_
  try dsimp only [setd, setn, ev, nth, over, cl, eI, eP, eT, List.map, List.append, List.drop, List.take]
  refine K.seq_nil ?_
  refine K.norm_then ?_
  refine K.seq ?_
  refine K.draw_L [12] Try_mixed ?_
  refine K.d_pure 0 rfl (K.fieldAddr_lit fo_25_4 rfl) (by kernel_rfl) rfl ?_
  dsimp only [setd, setn, ev, nth]
  refine K.d_mem 1 rfl (K.load1_own one_23 rfl (K.m3) rfl) (fun _ h => h) (by kernel_rfl) (by kernel_rfl) rfl ?_
  try dsimp only [setd, setn, ev, nth, over, cl, eI, eP, eT, List.map, List.append, List.drop, List.take]
  refine K.d_pure 2 rfl (K.indexAddr_ar ar_84 rfl rfl (by omega) (by omega)) (by kernel_rfl) rfl ?_
  try dsimp only [setd, setn, ev, nth, over, cl, eI, eP, eT, List.map, List.append, List.drop, List.take]
  refine K.d_mem 3 rfl (K.load1_own one_5 rfl (K.m2) rfl) (fun _ h => h) (by kernel_rfl) (by kernel_rfl) rfl ?_
  try dsimp only [setd, setn, ev, nth, over, cl, eI, eP, eT, List.map, List.append, List.drop, List.take]
  refine K.d_pure 4 rfl (K.Pure.eq (K.conv_int ik_5 ik_3 rfl) (by rw [wrap8 hx1])) (by kernel_rfl) rfl ?_
  try dsimp only [setd, setn, ev, nth, over, cl, eI, eP, eT, List.map, List.append, List.drop, List.take]
  refine K.d_pure 5 rfl (K.fieldAddr_lit fo_25_4 rfl) (by kernel_rfl) rfl ?_
  dsimp only [setd, setn, ev, nth]
  refine K.d_mem 6 rfl (K.load1_own one_23 rfl (K.m3) rfl) (fun _ h => h) (by kernel_rfl) (by kernel_rfl) rfl ?_
  try dsimp only [setd, setn, ev, nth, over, cl, eI, eP, eT, List.map, List.append, List.drop, List.take]
  refine K.d_pure 7 rfl (K.len_sl sl_23 rfl) (by kernel_rfl) rfl ?_
  dsimp only [setd, setn, ev, nth]
  refine K.d_pure 8 rfl (K.add_i64 rfl rfl (by omega)) (by kernel_rfl) rfl ?_
  dsimp only [setd, setn, ev, nth]
  refine K.d_pure 9 rfl (K.rem_i64 rfl rfl (by omega) (by omega)) (by kernel_rfl) rfl ?_
  dsimp only [setd, setn, ev, nth]
  refine K.d_pure 10 rfl (K.Pure.eq (K.slice_hi (x1 % ((rs.length : Int) + 1)).toNat sl_23 rfl rfl (by omega) (by omega)) (show _ = Value.slice B (rs.take (x1 % ((rs.length : Int) + 1)).toNat).length d from by rw [hlt])) (by kernel_rfl) rfl ?_
  try dsimp only [setd, setn, ev, nth, over, cl, eI, eP, eT, List.map, List.append, List.drop, List.take]
  refine K.d_pure 11 rfl (K.fieldAddr_lit fo_25_4 rfl) (by kernel_rfl) rfl ?_
  dsimp only [setd, setn, ev, nth]
  refine K.d_last 12 rfl (K.store sz_23 rfl rfl rfl rfl (K.rp1)) rfl (by kernel_rfl) rfl ?_
  intro _ _
  try dsimp only [setd, setn, ev, nth, over, cl, eI, eP, eT, List.map, List.append, List.drop, List.take]
  refine K.d_done (by kernel_rfl) ?_
  refine K.norm_then ?_
  refine K.seq ?_
  refine K.region_lit ?_
  refine K.seq_pure (K.indexAddr_ar ar_84 rfl rfl (by omega) (by omega)) rfl ?_
  try dsimp only [setd, setn, ev, nth, over, cl, eI, eP, eT, List.map, List.append, List.drop, List.take]
  refine K.seq_sil (K.load1_own one_5 rfl (K.m2) rfl) rfl ?_
  try dsimp only [setd, setn, ev, nth, over, cl, eI, eP, eT, List.map, List.append, List.drop, List.take]
  refine K.seq_pure (K.Pure.eq (K.conv_int ik_5 ik_3 rfl) (by rw [wrap8 hx2])) rfl ?_
  try dsimp only [setd, setn, ev, nth, over, cl, eI, eP, eT, List.map, List.append, List.drop, List.take]
  refine K.seq_pure (K.assign) rfl ?_
  dsimp only [setd, setn, ev, nth]
  refine K.seq_nil ?_
  refine K.norm_then ?_
  refine K.seq ?_
  refine K.region_lit ?_
  refine K.seq_sil (K.loadA_own ag_25 rfl (K.m3) rfl) rfl ?_
  try dsimp only [setd, setn, ev, nth, over, cl, eI, eP, eT, List.map, List.append, List.drop, List.take]
  refine K.seq_pure (K.move) rfl ?_
  dsimp only [setd, setn, ev, nth]
  refine K.seq_call (K.call_g cal_27 (fun F w hF hw => c27 (limit := x2) (hH.pass hw) (hR.pass hw) hn hm)) rfl ?_
  try dsimp only [setd, setn, ev, nth, over, cl, eI, eP, eT, List.map, List.append, List.drop, List.take]
  refine K.seq_pure (K.move) rfl ?_
  dsimp only [setd, setn, ev, nth]
  refine K.seq_pure (K.extract rfl rfl) rfl ?_
  dsimp only [setd, setn, ev, nth]
  refine K.seq_pure (K.extract rfl rfl) rfl ?_
  dsimp only [setd, setn, ev, nth]
  refine K.seq_new (K.alloc zr_27) rfl ?_
  intro b10
  try dsimp only [setd, setn, ev, nth, over, cl, eI, eP, eT, List.map, List.append, List.drop, List.take]
  refine K.seq_st (K.store_all sz_27 rfl rfl rfl rfl (K.rp0)) rfl ?_
  try dsimp only [setd, setn, ev, nth, over, cl, eI, eP, eT, List.map, List.append, List.drop, List.take]
  refine K.seq_pure (K.assign) rfl ?_
  dsimp only [setd, setn, ev, nth]
  refine K.seq_nil ?_
  refine K.norm_then ?_
  refine K.seq ?_
  refine K.region_lit ?_
  refine K.seq_sil (K.loadA_own ag_25 rfl (K.m1) rfl) rfl ?_
  try dsimp only [setd, setn, ev, nth, over, cl, eI, eP, eT, List.map, List.append, List.drop, List.take]
  refine K.seq_pure (K.move) rfl ?_
  dsimp only [setd, setn, ev, nth]
  refine K.seq_call (K.call_g cal_27 (fun F w hF hw => c27 (most := (min 100000 (most + x0))) (limit := x2) (hH.pass hw) (hR.pass hw) hn hm)) rfl ?_
  try dsimp only [setd, setn, ev, nth, over, cl, eI, eP, eT, List.map, List.append, List.drop, List.take]
  refine K.seq_pure (K.move) rfl ?_
  dsimp only [setd, setn, ev, nth]
  refine K.seq_pure (K.extract rfl rfl) rfl ?_
  dsimp only [setd, setn, ev, nth]
  refine K.seq_pure (K.extract rfl rfl) rfl ?_
  dsimp only [setd, setn, ev, nth]
  refine K.seq_new (K.alloc zr_27) rfl ?_
  intro b12
  try dsimp only [setd, setn, ev, nth, over, cl, eI, eP, eT, List.map, List.append, List.drop, List.take]
  refine K.seq_st (K.store_all sz_27 rfl rfl rfl rfl (K.rp0)) rfl ?_
  try dsimp only [setd, setn, ev, nth, over, cl, eI, eP, eT, List.map, List.append, List.drop, List.take]
  refine K.seq_pure (K.assign) rfl ?_
  dsimp only [setd, setn, ev, nth]
  refine K.seq_nil ?_
  refine K.norm_then ?_
  refine K.seq ?_
  refine K.region_lit ?_
  refine K.seq_sil (K.loadA_own ag_25 rfl (K.m5) rfl) rfl ?_
  try dsimp only [setd, setn, ev, nth, over, cl, eI, eP, eT, List.map, List.append, List.drop, List.take]
  refine K.seq_pure (K.move) rfl ?_
  dsimp only [setd, setn, ev, nth]
  refine K.seq_pure (K.indexAddr_ar ar_84 rfl rfl (by omega) (by omega)) rfl ?_
  try dsimp only [setd, setn, ev, nth, over, cl, eI, eP, eT, List.map, List.append, List.drop, List.take]
  refine K.seq_sil (K.load1_own one_5 rfl (K.m4) rfl) rfl ?_
  try dsimp only [setd, setn, ev, nth, over, cl, eI, eP, eT, List.map, List.append, List.drop, List.take]
  refine K.seq_pure (K.Pure.eq (K.conv_int ik_5 ik_3 rfl) (by rw [wrap8 hx0])) rfl ?_
  try dsimp only [setd, setn, ev, nth, over, cl, eI, eP, eT, List.map, List.append, List.drop, List.take]
  refine K.seq_pure (K.add_i64 rfl rfl (by omega)) rfl ?_
  dsimp only [setd, setn, ev, nth]
  refine K.seq_call (K.call_g cal_27 (fun F w hF hw => c27 (limit := x2 + x0) (hH.pass hw) (hR.pass hw) hn hm)) rfl ?_
  try dsimp only [setd, setn, ev, nth, over, cl, eI, eP, eT, List.map, List.append, List.drop, List.take]
  refine K.seq_pure (K.move) rfl ?_
  dsimp only [setd, setn, ev, nth]
  refine K.seq_pure (K.extract rfl rfl) rfl ?_
  dsimp only [setd, setn, ev, nth]
  refine K.seq_pure (K.extract rfl rfl) rfl ?_
  dsimp only [setd, setn, ev, nth]
  refine K.seq_new (K.alloc zr_27) rfl ?_
  intro b14
  try dsimp only [setd, setn, ev, nth, over, cl, eI, eP, eT, List.map, List.append, List.drop, List.take]
  refine K.seq_st (K.store_all sz_27 rfl rfl rfl rfl (K.rp0)) rfl ?_
  try dsimp only [setd, setn, ev, nth, over, cl, eI, eP, eT, List.map, List.append, List.drop, List.take]
  refine K.seq_pure (K.assign) rfl ?_
  dsimp only [setd, setn, ev, nth]
  refine K.seq_nil ?_
  refine K.norm_then ?_
  refine K.seq ?_
  refine K.region_lit ?_
  refine K.seq_sil (K.loadA_own ag_25 rfl (K.m4) rfl) rfl ?_
  try dsimp only [setd, setn, ev, nth, over, cl, eI, eP, eT, List.map, List.append, List.drop, List.take]
  refine K.seq_pure (K.move) rfl ?_
  dsimp only [setd, setn, ev, nth]
  refine K.seq_call (K.call_g cal_27 (fun F w hF hw => c27 (rs := (rs.take (x1 % ((rs.length : Int) + 1)).toNat)) (limit := x2) (hH.pass hw) ((hR.take (x1 % ((rs.length : Int) + 1)).toNat).pass hw) hn hmt)) rfl ?_
  try dsimp only [setd, setn, ev, nth, over, cl, eI, eP, eT, List.map, List.append, List.drop, List.take]
  refine K.seq_pure (K.move) rfl ?_
  dsimp only [setd, setn, ev, nth]
  refine K.seq_pure (K.extract rfl rfl) rfl ?_
  dsimp only [setd, setn, ev, nth]
  refine K.seq_pure (K.extract rfl rfl) rfl ?_
  dsimp only [setd, setn, ev, nth]
  refine K.seq_new (K.alloc zr_27) rfl ?_
  intro b16
  try dsimp only [setd, setn, ev, nth, over, cl, eI, eP, eT, List.map, List.append, List.drop, List.take]
  refine K.seq_st (K.store_all sz_27 rfl rfl rfl rfl (K.rp0)) rfl ?_
  try dsimp only [setd, setn, ev, nth, over, cl, eI, eP, eT, List.map, List.append, List.drop, List.take]
  refine K.seq_pure (K.assign) rfl ?_
  dsimp only [setd, setn, ev, nth]
  refine K.seq_nil ?_
  refine K.norm_then ?_
  refine K.seq ?_
  refine K.seq ?_
  refine K.joinW [109] [81, 82, 83, 84, 85, 86, 87, 88, 89, 90, 91, 92, 93, 94, 95, 96, 97, 98, 99, 100, 101, 102, 103, 104, 105, 106, 107, 108] (fun vi L => vi = [.bool false] ∧ L = [K.blk b16 27 [.int .i64 (grtR kind base most hs (rs.take (x1 % ((rs.length : Int) + 1)).toNat) x2).1.1, .int .i64 (grtR kind base most hs (rs.take (x1 % ((rs.length : Int) + 1)).toNat) x2).1.2], K.blk b14 27 [.int .i64 (grtR kind base most hs rs (x2 + x0)).1.1, .int .i64 (grtR kind base most hs rs (x2 + x0)).1.2], K.blk b12 27 [.int .i64 (grtR kind base (min 100000 (most + x0)) hs rs x2).1.1, .int .i64 (grtR kind base (min 100000 (most + x0)) hs rs x2).1.2], K.blk b10 27 [.int .i64 (grtR kind base most hs rs x2).1.1, .int .i64 (grtR kind base most hs rs x2).1.2], K.blk b7 25 [.int .i64 kind, .int .i64 base, .int .i64 (min 100000 (most + x0)), .slice A hs.length c, .slice B rs.length d], K.blk b8 25 [.int .i64 kind, .int .i64 base, .int .i64 most, .slice A hs.length c, .slice B (rs.take (x1 % ((rs.length : Int) + 1)).toNat).length d], K.blk b4 84 [.int .u8 x0, .int .u8 x1, .int .u8 x2, .int .u8 x3, .int .u8 x4], K.blk b3 25 [.int .i64 kind, .int .i64 base, .int .i64 most, .slice A hs.length c, .slice B rs.length d]]) ?_ ?_
  · refine K.region_lit ?_
    refine K.seq_pure (K.move) rfl ?_
    dsimp only [setd, setn, ev, nth]
    refine K.seq_pure (K.eql rfl rfl) rfl ?_
    dsimp only [setd, setn, ev, nth]
    refine K.seq_pure (K.move) rfl ?_
    dsimp only [setd, setn, ev, nth]
    refine K.split 83 rfl (fun hg83 => ?_) (fun hg83 => ?_)
    · try replace hg83 := of_decide_eq_true hg83
      have F1 := grt_mono g gm (limit := x2) (limit' := x2) (by omega) (fun x => Int.le_refl _) (by omega) (Int.le_refl _) (by omega) hg83
      have F2 := grt_mono g g (limit := x2) (limit' := x2 + x0) (Int.le_refl _) (fun x => Int.le_refl _) (by omega) (by omega) (by omega) hg83
      have F3 := grt_mono g gf (limit := x2) (limit' := x2) (Int.le_refl _) (fun x => worst_few) (by omega) (Int.le_refl _) (by omega) hg83
      refine K.seq_pure (K.move) rfl ?_
      dsimp only [setd, setn, ev, nth]
      refine K.seq_pure (K.Pure.eq (K.neq rfl rfl) (show _ = Value.bool false from congrArg Value.bool (decide_eq_false (fun h => h F1.1)))) rfl ?_
      dsimp only [setd, setn, ev, nth]
      refine K.seq_pure (K.move) rfl ?_
      dsimp only [setd, setn, ev, nth]
      refine K.seq_pure (K.move) rfl ?_
      dsimp only [setd, setn, ev, nth]
      refine K.seq_pure (K.Pure.eq (K.neq rfl rfl) (show _ = Value.bool false from congrArg Value.bool (decide_eq_false (fun h => h F2.1)))) rfl ?_
      dsimp only [setd, setn, ev, nth]
      refine K.seq_pure (K.pick_f rfl) rfl ?_
      dsimp only [setd, setn, ev, nth]
      refine K.seq_pure (K.move) rfl ?_
      dsimp only [setd, setn, ev, nth]
      refine K.seq_pure (K.move) rfl ?_
      dsimp only [setd, setn, ev, nth]
      refine K.seq_pure (K.Pure.eq (K.neq rfl rfl) (show _ = Value.bool false from congrArg Value.bool (decide_eq_false (fun h => h F3.1)))) rfl ?_
      dsimp only [setd, setn, ev, nth]
      refine K.seq_pure (K.pick_f rfl) rfl ?_
      dsimp only [setd, setn, ev, nth]
      refine K.seq_pure (K.move) rfl ?_
      dsimp only [setd, setn, ev, nth]
      refine K.seq_sil (K.loadA_own ag_27 rfl (K.m2) rfl) rfl ?_
      try dsimp only [setd, setn, ev, nth, over, cl, eI, eP, eT, List.map, List.append, List.drop, List.take]
      refine K.seq_sil (K.loadA_own ag_27 rfl (K.m3) rfl) rfl ?_
      try dsimp only [setd, setn, ev, nth, over, cl, eI, eP, eT, List.map, List.append, List.drop, List.take]
      refine K.seq_call (K.call_g cal_43 (fun F w hF hw => c43f (a := (grtR kind base (min 100000 (most + x0)) hs rs x2).1.1) (b := (grtR kind base (min 100000 (most + x0)) hs rs x2).1.2) (c := (grtR kind base most hs rs x2).1.1) (d := (grtR kind base most hs rs x2).1.2) F1.2.2.1 F1.2.1 F1.2.2.2 w)) rfl ?_
      try dsimp only [setd, setn, ev, nth, over, cl, eI, eP, eT, List.map, List.append, List.drop, List.take]
      refine K.seq_pure (K.pick_f rfl) rfl ?_
      dsimp only [setd, setn, ev, nth]
      refine K.seq_pure (K.move) rfl ?_
      dsimp only [setd, setn, ev, nth]
      refine K.seq_sil (K.loadA_own ag_27 rfl (K.m1) rfl) rfl ?_
      try dsimp only [setd, setn, ev, nth, over, cl, eI, eP, eT, List.map, List.append, List.drop, List.take]
      refine K.seq_sil (K.loadA_own ag_27 rfl (K.m3) rfl) rfl ?_
      try dsimp only [setd, setn, ev, nth, over, cl, eI, eP, eT, List.map, List.append, List.drop, List.take]
      refine K.seq_call (K.call_g cal_43 (fun F w hF hw => c43f (a := (grtR kind base most hs rs (x2 + x0)).1.1) (b := (grtR kind base most hs rs (x2 + x0)).1.2) (c := (grtR kind base most hs rs x2).1.1) (d := (grtR kind base most hs rs x2).1.2) F2.2.2.1 F2.2.1 F2.2.2.2 w)) rfl ?_
      try dsimp only [setd, setn, ev, nth, over, cl, eI, eP, eT, List.map, List.append, List.drop, List.take]
      refine K.seq_pure (K.pick_f rfl) rfl ?_
      dsimp only [setd, setn, ev, nth]
      refine K.seq_pure (K.move) rfl ?_
      dsimp only [setd, setn, ev, nth]
      refine K.seq_sil (K.loadA_own ag_27 rfl (K.m0) rfl) rfl ?_
      try dsimp only [setd, setn, ev, nth, over, cl, eI, eP, eT, List.map, List.append, List.drop, List.take]
      refine K.seq_sil (K.loadA_own ag_27 rfl (K.m3) rfl) rfl ?_
      try dsimp only [setd, setn, ev, nth, over, cl, eI, eP, eT, List.map, List.append, List.drop, List.take]
      refine K.seq_call (K.call_g cal_43 (fun F w hF hw => c43f (a := (grtR kind base most hs (rs.take (x1 % ((rs.length : Int) + 1)).toNat) x2).1.1) (b := (grtR kind base most hs (rs.take (x1 % ((rs.length : Int) + 1)).toNat) x2).1.2) (c := (grtR kind base most hs rs x2).1.1) (d := (grtR kind base most hs rs x2).1.2) F3.2.2.1 F3.2.1 F3.2.2.2 w)) rfl ?_
      try dsimp only [setd, setn, ev, nth, over, cl, eI, eP, eT, List.map, List.append, List.drop, List.take]
      refine K.seq_pure (K.pick_f rfl) rfl ?_
      dsimp only [setd, setn, ev, nth]
      refine K.seq_pure (K.pick_t rfl) rfl ?_
      dsimp only [setd, setn, ev, nth]
      refine K.seq_nil ?_
      exact K.join_here (L' := [K.blk b16 27 [.int .i64 (grtR kind base most hs (rs.take (x1 % ((rs.length : Int) + 1)).toNat) x2).1.1, .int .i64 (grtR kind base most hs (rs.take (x1 % ((rs.length : Int) + 1)).toNat) x2).1.2], K.blk b14 27 [.int .i64 (grtR kind base most hs rs (x2 + x0)).1.1, .int .i64 (grtR kind base most hs rs (x2 + x0)).1.2], K.blk b12 27 [.int .i64 (grtR kind base (min 100000 (most + x0)) hs rs x2).1.1, .int .i64 (grtR kind base (min 100000 (most + x0)) hs rs x2).1.2], K.blk b10 27 [.int .i64 (grtR kind base most hs rs x2).1.1, .int .i64 (grtR kind base most hs rs x2).1.2], K.blk b7 25 [.int .i64 kind, .int .i64 base, .int .i64 (min 100000 (most + x0)), .slice A hs.length c, .slice B rs.length d], K.blk b8 25 [.int .i64 kind, .int .i64 base, .int .i64 most, .slice A hs.length c, .slice B (rs.take (x1 % ((rs.length : Int) + 1)).toNat).length d], K.blk b4 84 [.int .u8 x0, .int .u8 x1, .int .u8 x2, .int .u8 x3, .int .u8 x4], K.blk b3 25 [.int .i64 kind, .int .i64 base, .int .i64 most, .slice A hs.length c, .slice B rs.length d]]) [.bool false] ⟨rfl, rfl⟩ (fun w h => h) (by kernel_rfl)
    try replace hg83 := of_decide_eq_false hg83
    refine K.seq_skip ?_ ?_
    · rfl
    try dsimp only [setd, setn, ev, nth, over, cl, eI, eP, eT, List.map, List.append, List.drop, List.take]
    refine K.seq_skip ?_ ?_
    · rfl
    try dsimp only [setd, setn, ev, nth, over, cl, eI, eP, eT, List.map, List.append, List.drop, List.take]
    refine K.seq_skip ?_ ?_
    · rfl
    try dsimp only [setd, setn, ev, nth, over, cl, eI, eP, eT, List.map, List.append, List.drop, List.take]
    refine K.seq_skip ?_ ?_
    · rfl
    try dsimp only [setd, setn, ev, nth, over, cl, eI, eP, eT, List.map, List.append, List.drop, List.take]
    refine K.seq_skip ?_ ?_
    · rfl
    try dsimp only [setd, setn, ev, nth, over, cl, eI, eP, eT, List.map, List.append, List.drop, List.take]
    refine K.seq_skip ?_ ?_
    · rfl
    try dsimp only [setd, setn, ev, nth, over, cl, eI, eP, eT, List.map, List.append, List.drop, List.take]
    refine K.seq_skip ?_ ?_
    · rfl
    try dsimp only [setd, setn, ev, nth, over, cl, eI, eP, eT, List.map, List.append, List.drop, List.take]
    refine K.seq_skip ?_ ?_
    · rfl
    try dsimp only [setd, setn, ev, nth, over, cl, eI, eP, eT, List.map, List.append, List.drop, List.take]
    refine K.seq_skip ?_ ?_
    · rfl
    try dsimp only [setd, setn, ev, nth, over, cl, eI, eP, eT, List.map, List.append, List.drop, List.take]
    refine K.seq_skip ?_ ?_
    · rfl
    try dsimp only [setd, setn, ev, nth, over, cl, eI, eP, eT, List.map, List.append, List.drop, List.take]
    refine K.seq_skip ?_ ?_
    · rfl
    try dsimp only [setd, setn, ev, nth, over, cl, eI, eP, eT, List.map, List.append, List.drop, List.take]
    refine K.seq_skip ?_ ?_
    · rfl
    try dsimp only [setd, setn, ev, nth, over, cl, eI, eP, eT, List.map, List.append, List.drop, List.take]
    refine K.seq_skip ?_ ?_
    · rfl
    try dsimp only [setd, setn, ev, nth, over, cl, eI, eP, eT, List.map, List.append, List.drop, List.take]
    refine K.seq_skip ?_ ?_
    · rfl
    try dsimp only [setd, setn, ev, nth, over, cl, eI, eP, eT, List.map, List.append, List.drop, List.take]
    refine K.seq_skip ?_ ?_
    · rfl
    try dsimp only [setd, setn, ev, nth, over, cl, eI, eP, eT, List.map, List.append, List.drop, List.take]
    refine K.seq_skip ?_ ?_
    · rfl
    try dsimp only [setd, setn, ev, nth, over, cl, eI, eP, eT, List.map, List.append, List.drop, List.take]
    refine K.seq_skip ?_ ?_
    · rfl
    try dsimp only [setd, setn, ev, nth, over, cl, eI, eP, eT, List.map, List.append, List.drop, List.take]
    refine K.seq_skip ?_ ?_
    · rfl
    try dsimp only [setd, setn, ev, nth, over, cl, eI, eP, eT, List.map, List.append, List.drop, List.take]
    refine K.seq_skip ?_ ?_
    · rfl
    try dsimp only [setd, setn, ev, nth, over, cl, eI, eP, eT, List.map, List.append, List.drop, List.take]
    refine K.seq_skip ?_ ?_
    · rfl
    try dsimp only [setd, setn, ev, nth, over, cl, eI, eP, eT, List.map, List.append, List.drop, List.take]
    refine K.seq_skip ?_ ?_
    · rfl
    try dsimp only [setd, setn, ev, nth, over, cl, eI, eP, eT, List.map, List.append, List.drop, List.take]
    refine K.seq_skip ?_ ?_
    · rfl
    try dsimp only [setd, setn, ev, nth, over, cl, eI, eP, eT, List.map, List.append, List.drop, List.take]
    refine K.seq_skip ?_ ?_
    · rfl
    try dsimp only [setd, setn, ev, nth, over, cl, eI, eP, eT, List.map, List.append, List.drop, List.take]
    refine K.seq_skip ?_ ?_
    · rfl
    try dsimp only [setd, setn, ev, nth, over, cl, eI, eP, eT, List.map, List.append, List.drop, List.take]
    refine K.seq_skip ?_ ?_
    · rfl
    try dsimp only [setd, setn, ev, nth, over, cl, eI, eP, eT, List.map, List.append, List.drop, List.take]
    refine K.seq_pure (K.pick_f rfl) rfl ?_
    dsimp only [setd, setn, ev, nth]
    refine K.seq_nil ?_
    exact K.join_here (L' := [K.blk b16 27 [.int .i64 (grtR kind base most hs (rs.take (x1 % ((rs.length : Int) + 1)).toNat) x2).1.1, .int .i64 (grtR kind base most hs (rs.take (x1 % ((rs.length : Int) + 1)).toNat) x2).1.2], K.blk b14 27 [.int .i64 (grtR kind base most hs rs (x2 + x0)).1.1, .int .i64 (grtR kind base most hs rs (x2 + x0)).1.2], K.blk b12 27 [.int .i64 (grtR kind base (min 100000 (most + x0)) hs rs x2).1.1, .int .i64 (grtR kind base (min 100000 (most + x0)) hs rs x2).1.2], K.blk b10 27 [.int .i64 (grtR kind base most hs rs x2).1.1, .int .i64 (grtR kind base most hs rs x2).1.2], K.blk b7 25 [.int .i64 kind, .int .i64 base, .int .i64 (min 100000 (most + x0)), .slice A hs.length c, .slice B rs.length d], K.blk b8 25 [.int .i64 kind, .int .i64 base, .int .i64 most, .slice A hs.length c, .slice B (rs.take (x1 % ((rs.length : Int) + 1)).toNat).length d], K.blk b4 84 [.int .u8 x0, .int .u8 x1, .int .u8 x2, .int .u8 x3, .int .u8 x4], K.blk b3 25 [.int .i64 kind, .int .i64 base, .int .i64 most, .slice A hs.length c, .slice B rs.length d]]) [.bool false] ⟨rfl, rfl⟩ (fun w h => h) (by kernel_rfl)
  intro vi vr L hJ
  obtain ⟨rfl, rfl⟩ := hJ
  try dsimp only [setd, setn, ev, nth, over, cl, eI, eP, eT, setM, setF, List.map, List.append, List.drop, List.take]
  refine K.norm_then ?_
  refine K.cond_false rfl ?_
  refine K.skip ?_
  refine K.norm_then ?_
  refine K.seq ?_
  refine K.region_lit ?_
  refine K.seq_sil (K.loadA_own ag_25 rfl (K.m7) rfl) rfl ?_
  try dsimp only [setd, setn, ev, nth, over, cl, eI, eP, eT, List.map, List.append, List.drop, List.take]
  refine K.seq_call (K.call_g cal_29 (fun F w hF hw => c29 (hH.pass hw) (hR.pass hw) hn hm)) rfl ?_
  try dsimp only [setd, setn, ev, nth, over, cl, eI, eP, eT, List.map, List.append, List.drop, List.take]
  refine K.seq_pure (K.move) rfl ?_
  dsimp only [setd, setn, ev, nth]
  refine K.seq_pure (K.extract rfl rfl) rfl ?_
  dsimp only [setd, setn, ev, nth]
  refine K.seq_pure (K.extract rfl rfl) rfl ?_
  dsimp only [setd, setn, ev, nth]
  refine K.seq_new (K.alloc zr_27) rfl ?_
  intro b18
  try dsimp only [setd, setn, ev, nth, over, cl, eI, eP, eT, List.map, List.append, List.drop, List.take]
  refine K.seq_st (K.store_all sz_27 rfl rfl rfl rfl (K.rp0)) rfl ?_
  try dsimp only [setd, setn, ev, nth, over, cl, eI, eP, eT, List.map, List.append, List.drop, List.take]
  refine K.seq_pure (K.assign) rfl ?_
  dsimp only [setd, setn, ev, nth]
  refine K.seq_nil ?_
  refine K.norm_then ?_
  refine K.seq ?_
  refine K.region_lit ?_
  refine K.seq_sil (K.loadA_own ag_25 rfl (K.m6) rfl) rfl ?_
  try dsimp only [setd, setn, ev, nth, over, cl, eI, eP, eT, List.map, List.append, List.drop, List.take]
  refine K.seq_call (K.call_g cal_29 (fun F w hF hw => c29 (rs := (rs.take (x1 % ((rs.length : Int) + 1)).toNat)) (hH.pass hw) ((hR.take (x1 % ((rs.length : Int) + 1)).toNat).pass hw) hn hmt)) rfl ?_
  try dsimp only [setd, setn, ev, nth, over, cl, eI, eP, eT, List.map, List.append, List.drop, List.take]
  refine K.seq_pure (K.move) rfl ?_
  dsimp only [setd, setn, ev, nth]
  refine K.seq_pure (K.extract rfl rfl) rfl ?_
  dsimp only [setd, setn, ev, nth]
  refine K.seq_pure (K.extract rfl rfl) rfl ?_
  dsimp only [setd, setn, ev, nth]
  refine K.seq_new (K.alloc zr_27) rfl ?_
  intro b19
  try dsimp only [setd, setn, ev, nth, over, cl, eI, eP, eT, List.map, List.append, List.drop, List.take]
  refine K.seq_st (K.store_all sz_27 rfl rfl rfl rfl (K.rp0)) rfl ?_
  try dsimp only [setd, setn, ev, nth, over, cl, eI, eP, eT, List.map, List.append, List.drop, List.take]
  refine K.seq_pure (K.assign) rfl ?_
  dsimp only [setd, setn, ev, nth]
  refine K.seq_nil ?_
  refine K.norm_then ?_
  refine K.seq ?_
  refine K.seq ?_
  refine K.joinW [130] [120, 121, 122, 123, 124, 125, 126, 127, 128, 129] (fun vi L => vi = [.bool false] ∧ L = [K.blk b19 27 [.int .i64 (lstR kind base most hs (rs.take (x1 % ((rs.length : Int) + 1)).toNat)).1.1, .int .i64 (lstR kind base most hs (rs.take (x1 % ((rs.length : Int) + 1)).toNat)).1.2], K.blk b18 27 [.int .i64 (lstR kind base most hs rs).1.1, .int .i64 (lstR kind base most hs rs).1.2], K.blk b16 27 [.int .i64 (grtR kind base most hs (rs.take (x1 % ((rs.length : Int) + 1)).toNat) x2).1.1, .int .i64 (grtR kind base most hs (rs.take (x1 % ((rs.length : Int) + 1)).toNat) x2).1.2], K.blk b14 27 [.int .i64 (grtR kind base most hs rs (x2 + x0)).1.1, .int .i64 (grtR kind base most hs rs (x2 + x0)).1.2], K.blk b12 27 [.int .i64 (grtR kind base (min 100000 (most + x0)) hs rs x2).1.1, .int .i64 (grtR kind base (min 100000 (most + x0)) hs rs x2).1.2], K.blk b10 27 [.int .i64 (grtR kind base most hs rs x2).1.1, .int .i64 (grtR kind base most hs rs x2).1.2], K.blk b7 25 [.int .i64 kind, .int .i64 base, .int .i64 (min 100000 (most + x0)), .slice A hs.length c, .slice B rs.length d], K.blk b8 25 [.int .i64 kind, .int .i64 base, .int .i64 most, .slice A hs.length c, .slice B (rs.take (x1 % ((rs.length : Int) + 1)).toNat).length d], K.blk b4 84 [.int .u8 x0, .int .u8 x1, .int .u8 x2, .int .u8 x3, .int .u8 x4], K.blk b3 25 [.int .i64 kind, .int .i64 base, .int .i64 most, .slice A hs.length c, .slice B rs.length d]]) ?_ ?_
  · refine K.region_lit ?_
    refine K.seq_pure (K.move) rfl ?_
    dsimp only [setd, setn, ev, nth]
    refine K.seq_pure (K.eql rfl rfl) rfl ?_
    dsimp only [setd, setn, ev, nth]
    refine K.seq_pure (K.move) rfl ?_
    dsimp only [setd, setn, ev, nth]
    refine K.split 122 rfl (fun hg122 => ?_) (fun hg122 => ?_)
    · try replace hg122 := of_decide_eq_true hg122
      have F4 := lst_few (n := (x1 % ((rs.length : Int) + 1)).toNat) g hg122
      refine K.seq_pure (K.move) rfl ?_
      dsimp only [setd, setn, ev, nth]
      refine K.seq_pure (K.Pure.eq (K.neq rfl rfl) (show _ = Value.bool false from congrArg Value.bool (decide_eq_false (fun h => h F4.1)))) rfl ?_
      dsimp only [setd, setn, ev, nth]
      refine K.seq_pure (K.move) rfl ?_
      dsimp only [setd, setn, ev, nth]
      refine K.seq_sil (K.loadA_own ag_27 rfl (K.m1) rfl) rfl ?_
      try dsimp only [setd, setn, ev, nth, over, cl, eI, eP, eT, List.map, List.append, List.drop, List.take]
      refine K.seq_sil (K.loadA_own ag_27 rfl (K.m0) rfl) rfl ?_
      try dsimp only [setd, setn, ev, nth, over, cl, eI, eP, eT, List.map, List.append, List.drop, List.take]
      refine K.seq_call (K.call_g cal_43 (fun F w hF hw => c43f (a := (lstR kind base most hs rs).1.1) (b := (lstR kind base most hs rs).1.2) (c := (lstR kind base most hs (rs.take (x1 % ((rs.length : Int) + 1)).toNat)).1.1) (d := (lstR kind base most hs (rs.take (x1 % ((rs.length : Int) + 1)).toNat)).1.2) F4.2.1 F4.2.2.1 F4.2.2.2 w)) rfl ?_
      try dsimp only [setd, setn, ev, nth, over, cl, eI, eP, eT, List.map, List.append, List.drop, List.take]
      refine K.seq_pure (K.pick_f rfl) rfl ?_
      dsimp only [setd, setn, ev, nth]
      refine K.seq_pure (K.pick_t rfl) rfl ?_
      dsimp only [setd, setn, ev, nth]
      refine K.seq_nil ?_
      exact K.join_here (L' := [K.blk b19 27 [.int .i64 (lstR kind base most hs (rs.take (x1 % ((rs.length : Int) + 1)).toNat)).1.1, .int .i64 (lstR kind base most hs (rs.take (x1 % ((rs.length : Int) + 1)).toNat)).1.2], K.blk b18 27 [.int .i64 (lstR kind base most hs rs).1.1, .int .i64 (lstR kind base most hs rs).1.2], K.blk b16 27 [.int .i64 (grtR kind base most hs (rs.take (x1 % ((rs.length : Int) + 1)).toNat) x2).1.1, .int .i64 (grtR kind base most hs (rs.take (x1 % ((rs.length : Int) + 1)).toNat) x2).1.2], K.blk b14 27 [.int .i64 (grtR kind base most hs rs (x2 + x0)).1.1, .int .i64 (grtR kind base most hs rs (x2 + x0)).1.2], K.blk b12 27 [.int .i64 (grtR kind base (min 100000 (most + x0)) hs rs x2).1.1, .int .i64 (grtR kind base (min 100000 (most + x0)) hs rs x2).1.2], K.blk b10 27 [.int .i64 (grtR kind base most hs rs x2).1.1, .int .i64 (grtR kind base most hs rs x2).1.2], K.blk b7 25 [.int .i64 kind, .int .i64 base, .int .i64 (min 100000 (most + x0)), .slice A hs.length c, .slice B rs.length d], K.blk b8 25 [.int .i64 kind, .int .i64 base, .int .i64 most, .slice A hs.length c, .slice B (rs.take (x1 % ((rs.length : Int) + 1)).toNat).length d], K.blk b4 84 [.int .u8 x0, .int .u8 x1, .int .u8 x2, .int .u8 x3, .int .u8 x4], K.blk b3 25 [.int .i64 kind, .int .i64 base, .int .i64 most, .slice A hs.length c, .slice B rs.length d]]) [.bool false] ⟨rfl, rfl⟩ (fun w h => h) (by kernel_rfl)
    try replace hg122 := of_decide_eq_false hg122
    refine K.seq_skip ?_ ?_
    · rfl
    try dsimp only [setd, setn, ev, nth, over, cl, eI, eP, eT, List.map, List.append, List.drop, List.take]
    refine K.seq_skip ?_ ?_
    · rfl
    try dsimp only [setd, setn, ev, nth, over, cl, eI, eP, eT, List.map, List.append, List.drop, List.take]
    refine K.seq_skip ?_ ?_
    · rfl
    try dsimp only [setd, setn, ev, nth, over, cl, eI, eP, eT, List.map, List.append, List.drop, List.take]
    refine K.seq_skip ?_ ?_
    · rfl
    try dsimp only [setd, setn, ev, nth, over, cl, eI, eP, eT, List.map, List.append, List.drop, List.take]
    refine K.seq_skip ?_ ?_
    · rfl
    try dsimp only [setd, setn, ev, nth, over, cl, eI, eP, eT, List.map, List.append, List.drop, List.take]
    refine K.seq_skip ?_ ?_
    · rfl
    try dsimp only [setd, setn, ev, nth, over, cl, eI, eP, eT, List.map, List.append, List.drop, List.take]
    refine K.seq_skip ?_ ?_
    · rfl
    try dsimp only [setd, setn, ev, nth, over, cl, eI, eP, eT, List.map, List.append, List.drop, List.take]
    refine K.seq_pure (K.pick_f rfl) rfl ?_
    dsimp only [setd, setn, ev, nth]
    refine K.seq_nil ?_
    exact K.join_here (L' := [K.blk b19 27 [.int .i64 (lstR kind base most hs (rs.take (x1 % ((rs.length : Int) + 1)).toNat)).1.1, .int .i64 (lstR kind base most hs (rs.take (x1 % ((rs.length : Int) + 1)).toNat)).1.2], K.blk b18 27 [.int .i64 (lstR kind base most hs rs).1.1, .int .i64 (lstR kind base most hs rs).1.2], K.blk b16 27 [.int .i64 (grtR kind base most hs (rs.take (x1 % ((rs.length : Int) + 1)).toNat) x2).1.1, .int .i64 (grtR kind base most hs (rs.take (x1 % ((rs.length : Int) + 1)).toNat) x2).1.2], K.blk b14 27 [.int .i64 (grtR kind base most hs rs (x2 + x0)).1.1, .int .i64 (grtR kind base most hs rs (x2 + x0)).1.2], K.blk b12 27 [.int .i64 (grtR kind base (min 100000 (most + x0)) hs rs x2).1.1, .int .i64 (grtR kind base (min 100000 (most + x0)) hs rs x2).1.2], K.blk b10 27 [.int .i64 (grtR kind base most hs rs x2).1.1, .int .i64 (grtR kind base most hs rs x2).1.2], K.blk b7 25 [.int .i64 kind, .int .i64 base, .int .i64 (min 100000 (most + x0)), .slice A hs.length c, .slice B rs.length d], K.blk b8 25 [.int .i64 kind, .int .i64 base, .int .i64 most, .slice A hs.length c, .slice B (rs.take (x1 % ((rs.length : Int) + 1)).toNat).length d], K.blk b4 84 [.int .u8 x0, .int .u8 x1, .int .u8 x2, .int .u8 x3, .int .u8 x4], K.blk b3 25 [.int .i64 kind, .int .i64 base, .int .i64 most, .slice A hs.length c, .slice B rs.length d]]) [.bool false] ⟨rfl, rfl⟩ (fun w h => h) (by kernel_rfl)
  intro vi vr L hJ
  obtain ⟨rfl, rfl⟩ := hJ
  try dsimp only [setd, setn, ev, nth, over, cl, eI, eP, eT, setM, setF, List.map, List.append, List.drop, List.take]
  refine K.norm_then ?_
  refine K.cond_false rfl ?_
  refine K.skip ?_
  refine K.norm_then ?_
  refine K.seq ?_
  refine K.draw_L [] Try_mixed ?_
  refine K.d_mem 0 rfl (K.loadA_own ag_25 rfl (K.m9) rfl) (fun _ h => h) (by kernel_rfl) (by kernel_rfl) rfl ?_
  try dsimp only [setd, setn, ev, nth, over, cl, eI, eP, eT, List.map, List.append, List.drop, List.take]
  refine K.d_pure 1 rfl (K.indexAddr_ar ar_84 rfl rfl (by omega) (by omega)) (by kernel_rfl) rfl ?_
  try dsimp only [setd, setn, ev, nth, over, cl, eI, eP, eT, List.map, List.append, List.drop, List.take]
  refine K.d_mem 2 rfl (K.load1_own one_5 rfl (K.m8) rfl) (fun _ h => h) (by kernel_rfl) (by kernel_rfl) rfl ?_
  try dsimp only [setd, setn, ev, nth, over, cl, eI, eP, eT, List.map, List.append, List.drop, List.take]
  refine K.d_pure 3 rfl (K.indexAddr_ar ar_84 rfl rfl (by omega) (by omega)) (by kernel_rfl) rfl ?_
  try dsimp only [setd, setn, ev, nth, over, cl, eI, eP, eT, List.map, List.append, List.drop, List.take]
  refine K.d_mem 4 rfl (K.load1_own one_5 rfl (K.m8) rfl) (fun _ h => h) (by kernel_rfl) (by kernel_rfl) rfl ?_
  try dsimp only [setd, setn, ev, nth, over, cl, eI, eP, eT, List.map, List.append, List.drop, List.take]
  refine K.d_pure 5 rfl (K.build (bl56 _ _)) (by kernel_rfl) rfl ?_
  try dsimp only [setd, setn, ev, nth, over, cl, eI, eP, eT, List.map, List.append, List.drop, List.take]
  refine K.d_pure 7 rfl (K.move) (by kernel_rfl) rfl ?_
  dsimp only [setd, setn, ev, nth]
  refine K.d_loud 6 rfl (K.call_f cal_40 (fun F w hF hw => c40 hx3 hx4 w)) (fun _ h => h) (by kernel_rfl) rfl ?_
  rintro ⟨u, v⟩ hsc
  try dsimp only [setd, setn, ev, nth, over, cl, eI, eP, eT, List.map, List.append, List.drop, List.take]
  refine K.d_loud 8 rfl (K.call_f cal_44 (fun F w hF hw => c44 (u := u) (v := v) (hH.pass hw) (hR.pass hw) g (scE_parts hsc) (hY.pass hw) hyb hyl)) (fun _ h => h) (by kernel_rfl) rfl ?_
  rintro ⟨AM, cM, ms⟩ ⟨hms, hm8⟩
  try dsimp only [setd, setn, ev, nth, over, cl, eI, eP, eT, List.map, List.append, List.drop, List.take]
  refine K.d_pure 9 rfl (K.assign) (by kernel_rfl) rfl ?_
  dsimp only [setd, setn, ev, nth]
  refine K.d_done (by kernel_rfl) ?_
  refine K.norm_then ?_
  refine K.seq ?_
  refine K.seq ?_
  refine K.use_rowc K.m0 (fun hAM hcM => ?_)
  have hm8' : ms.length ≤ 8 := hm8
  have hms' : ∀ y ∈ ms, mkOK (cuts kind base u v hs) y := hms
  refine K.region_lit ?_
  refine K.seq_pure (K.move) rfl ?_
  dsimp only [setd, setn, ev, nth]
  refine K.seq_pure (K.len_sl sl_41 rfl) rfl ?_
  dsimp only [setd, setn, ev, nth]
  refine K.seq_pure (K.eql rfl rfl) rfl ?_
  dsimp only [setd, setn, ev, nth]
  refine K.seq_nil ?_
  refine K.norm_then ?_
  refine K.cond rfl (fun ht142 => ?_) (fun ht142 => ?_)
  · try replace ht142 := of_decide_eq_true ht142
    refine K.seq ?_
    refine K.region_lit ?_
    refine K.seq_call (K.call_g cal_26 (fun F w hF hw => c26 w)) rfl ?_
    try dsimp only [setd, setn, ev, nth, over, cl, eI, eP, eT, List.map, List.append, List.drop, List.take]
    refine K.seq_pure (K.assign) rfl ?_
    dsimp only [setd, setn, ev, nth]
    refine K.seq_nil ?_
    refine K.norm_then ?_
    refine K.ret ?_
    refine K.ret_then ?_
    refine K.end_ret (fun w _ => K.res_tmp rfl w) ?_
    exact K.gives rfl
  try replace ht142 := of_decide_eq_false ht142
  have hml1 : (ms.take (ms.length - 1)).length = ms.length - 1 := by rw [List.length_take]; omega
  have hm0 := marks_ok g hms' hm8'
  have hm1 := marks_ok (ms := (ms.take (ms.length - 1))) g (fun y hy => hms' y (List.mem_of_mem_take hy)) (by omega)
  have hsl := @scalesR_ln kind base most hs rs ms
  have hsl1 := @scalesR_ln kind base most hs rs (ms.take (ms.length - 1))
  refine K.skip ?_
  refine K.norm_then ?_
  refine K.seq ?_
  refine K.draw_L [] Try_mixed ?_
  refine K.d_mem 0 rfl (K.loadA_own ag_25 rfl (K.m10) rfl) (fun _ h => h) (by kernel_rfl) (by kernel_rfl) rfl ?_
  try dsimp only [setd, setn, ev, nth, over, cl, eI, eP, eT, List.map, List.append, List.drop, List.take]
  refine K.d_pure 1 rfl (K.move) (by kernel_rfl) rfl ?_
  dsimp only [setd, setn, ev, nth]
  refine K.d_pure 2 rfl (K.move) (by kernel_rfl) rfl ?_
  dsimp only [setd, setn, ev, nth]
  refine K.d_pure 3 rfl (K.len_sl sl_41 rfl) (by kernel_rfl) rfl ?_
  dsimp only [setd, setn, ev, nth]
  refine K.d_pure 4 rfl (K.sub_i64 rfl rfl (by omega)) (by kernel_rfl) rfl ?_
  dsimp only [setd, setn, ev, nth]
  refine K.d_pure 5 rfl (K.Pure.eq (K.slice_hi (ms.length - 1) sl_41 rfl rfl (by omega) (by omega)) (show _ = Value.slice AM (ms.take (ms.length - 1)).length cM from by rw [hml1])) (by kernel_rfl) rfl ?_
  try dsimp only [setd, setn, ev, nth, over, cl, eI, eP, eT, List.map, List.append, List.drop, List.take]
  refine K.d_loud 6 rfl (K.call_f cal_31 (fun F w hF hw => c31 (ms := (ms.take (ms.length - 1))) (hH.pass hw) (hR.pass hw) hn hm ((K.Rd.own hw (hF _ (K.m0)) hAM (fun _ => rfl) (by decide)).take _) (by omega))) (fun _ h => h) (by kernel_rfl) rfl ?_
  rintro ⟨A1, c1⟩ hA1
  try dsimp only [setd, setn, ev, nth, over, cl, eI, eP, eT, List.map, List.append, List.drop, List.take]
  refine K.d_pure 7 rfl (K.move) (by kernel_rfl) rfl ?_
  dsimp only [setd, setn, ev, nth]
  refine K.d_pure 8 rfl (K.extract rfl rfl) (by kernel_rfl) rfl ?_
  dsimp only [setd, setn, ev, nth]
  refine K.d_pure 9 rfl (K.extract rfl rfl) (by kernel_rfl) rfl ?_
  dsimp only [setd, setn, ev, nth]
  refine K.d_pure 10 rfl (K.assign) (by kernel_rfl) rfl ?_
  dsimp only [setd, setn, ev, nth]
  refine K.d_pure 11 rfl (K.assign) (by kernel_rfl) rfl ?_
  dsimp only [setd, setn, ev, nth]
  refine K.d_done (by kernel_rfl) ?_
  refine K.norm_then ?_
  refine K.seq ?_
  refine K.region_lit ?_
  refine K.seq_sil (K.loadA_own ag_25 rfl (K.m11) rfl) rfl ?_
  try dsimp only [setd, setn, ev, nth, over, cl, eI, eP, eT, List.map, List.append, List.drop, List.take]
  refine K.seq_pure (K.move) rfl ?_
  dsimp only [setd, setn, ev, nth]
  refine K.seq_loud (K.call_f cal_31 (fun F w hF hw => c31 (ms := ms) (hH.pass hw) (hR.pass hw) hn hm (K.Rd.own hw (hF _ (K.m1)) hAM (fun _ => rfl) (by decide)) (by omega))) rfl ?_
  rintro ⟨A2, c2⟩ hA2
  try dsimp only [setd, setn, ev, nth, over, cl, eI, eP, eT, List.map, List.append, List.drop, List.take]
  refine K.seq_pure (K.move) rfl ?_
  dsimp only [setd, setn, ev, nth]
  refine K.seq_pure (K.extract rfl rfl) rfl ?_
  dsimp only [setd, setn, ev, nth]
  refine K.seq_pure (K.extract rfl rfl) rfl ?_
  dsimp only [setd, setn, ev, nth]
  refine K.seq_pure (K.assign) rfl ?_
  dsimp only [setd, setn, ev, nth]
  refine K.seq_pure (K.assign) rfl ?_
  dsimp only [setd, setn, ev, nth]
  refine K.seq_nil ?_
  refine K.norm_then ?_
  refine K.seq ?_
  refine K.seq ?_
  refine K.region_lit ?_
  refine K.seq_pure (K.move) rfl ?_
  dsimp only [setd, setn, ev, nth]
  refine K.seq_pure (K.Pure.eq (K.neq rfl rfl) (show _ = Value.bool false from congrArg Value.bool (decide_eq_false (fun h => h hm1)))) rfl ?_
  dsimp only [setd, setn, ev, nth]
  refine K.seq_pure (K.move) rfl ?_
  dsimp only [setd, setn, ev, nth]
  refine K.seq_pure (K.move) rfl ?_
  dsimp only [setd, setn, ev, nth]
  refine K.seq_pure (K.Pure.eq (K.neq rfl rfl) (show _ = Value.bool false from congrArg Value.bool (decide_eq_false (fun h => h hm0)))) rfl ?_
  dsimp only [setd, setn, ev, nth]
  refine K.seq_pure (K.pick_f rfl) rfl ?_
  dsimp only [setd, setn, ev, nth]
  refine K.seq_nil ?_
  refine K.norm_then ?_
  refine K.cond_false rfl ?_
  refine K.skip ?_
  refine K.norm_then ?_
  refine K.seq ?_
  refine K.seq ?_
  refine K.region_lit ?_
  refine K.seq_pure (K.assign) rfl ?_
  dsimp only [setd, setn, ev, nth]
  refine K.seq_nil ?_
  refine K.norm_then ?_
  refine K.block ?_
  refine K.loopW [23] [6, 166, 167, 168, 169, 170, 171, 172, 173, 174, 175, 176, 177, 178] (fun vi L => ∃ j : Nat, vi = [.int .i64 (j : Int)] ∧ L = [K.row (.slice A2 (scalesR kind base most hs rs ms).length c2) 27 2 (scalesR kind base most hs rs ms).length ((scalesR kind base most hs rs ms).flatMap K.eP), K.row (.slice A1 (scalesR kind base most hs rs (ms.take (ms.length - 1))).length c1) 27 2 (scalesR kind base most hs rs (ms.take (ms.length - 1))).length ((scalesR kind base most hs rs (ms.take (ms.length - 1))).flatMap K.eP), K.row (.slice AM ms.length cM) 53 3 ms.length (ms.flatMap K.eT), K.blk b19 27 [.int .i64 (lstR kind base most hs (rs.take (x1 % ((rs.length : Int) + 1)).toNat)).1.1, .int .i64 (lstR kind base most hs (rs.take (x1 % ((rs.length : Int) + 1)).toNat)).1.2], K.blk b18 27 [.int .i64 (lstR kind base most hs rs).1.1, .int .i64 (lstR kind base most hs rs).1.2], K.blk b16 27 [.int .i64 (grtR kind base most hs (rs.take (x1 % ((rs.length : Int) + 1)).toNat) x2).1.1, .int .i64 (grtR kind base most hs (rs.take (x1 % ((rs.length : Int) + 1)).toNat) x2).1.2], K.blk b14 27 [.int .i64 (grtR kind base most hs rs (x2 + x0)).1.1, .int .i64 (grtR kind base most hs rs (x2 + x0)).1.2], K.blk b12 27 [.int .i64 (grtR kind base (min 100000 (most + x0)) hs rs x2).1.1, .int .i64 (grtR kind base (min 100000 (most + x0)) hs rs x2).1.2], K.blk b10 27 [.int .i64 (grtR kind base most hs rs x2).1.1, .int .i64 (grtR kind base most hs rs x2).1.2], K.blk b7 25 [.int .i64 kind, .int .i64 base, .int .i64 (min 100000 (most + x0)), .slice A hs.length c, .slice B rs.length d], K.blk b8 25 [.int .i64 kind, .int .i64 base, .int .i64 most, .slice A hs.length c, .slice B (rs.take (x1 % ((rs.length : Int) + 1)).toNat).length d], K.blk b4 84 [.int .u8 x0, .int .u8 x1, .int .u8 x2, .int .u8 x3, .int .u8 x4], K.blk b3 25 [.int .i64 kind, .int .i64 base, .int .i64 most, .slice A hs.length c, .slice B rs.length d]] ∧ j ≤ (scalesR kind base most hs rs ms).length) (fun vi => (scalesR kind base most hs rs ms).length - (intOf (K.nth vi 0)).toNat) ?_ ?_
  · exact ⟨0, rfl, rfl, Nat.zero_le _⟩
  intro vi vr L hJ
  obtain ⟨j, rfl, rfl, hjn⟩ := hJ
  try dsimp only [setd, setn, ev, nth, over, cl, eI, eP, eT, setM, setF, List.map, List.append, List.drop, List.take]
  refine K.seq ?_
  refine K.seq ?_
  refine K.region_lit ?_
  refine K.seq_pure (K.move) rfl ?_
  dsimp only [setd, setn, ev, nth]
  refine K.seq_pure (K.move) rfl ?_
  dsimp only [setd, setn, ev, nth]
  refine K.seq_pure (K.len_sl sl_42 rfl) rfl ?_
  dsimp only [setd, setn, ev, nth]
  refine K.seq_pure (K.lss rfl rfl) rfl ?_
  dsimp only [setd, setn, ev, nth]
  refine K.seq_nil ?_
  refine K.norm_then ?_
  refine K.cond rfl (fun ht169 => ?_) (fun ht169 => ?_)
  · try replace ht169 := of_decide_eq_true ht169
    have hj : j < (scalesR kind base most hs rs ms).length := by omega
    refine K.skip ?_
    refine K.norm_then ?_
    refine K.seq ?_
    refine K.block ?_
    refine K.seq ?_
    refine K.region_lit ?_
    refine K.seq_pure (K.move) rfl ?_
    dsimp only [setd, setn, ev, nth]
    refine K.seq_pure (K.move) rfl ?_
    dsimp only [setd, setn, ev, nth]
    refine K.seq_pure (K.move) rfl ?_
    dsimp only [setd, setn, ev, nth]
    refine K.seq_ix (M := [_]) _ (K.Sl.own (t := 27) (c := c2) (size := 2) (e := K.eP) hA2 (fun _ => rfl)) sl_42 rfl rfl rfl (by omega) rfl ?_
    intro p175 hp175
    try dsimp only [setd, setn, ev, nth, over, cl, eI, eP, eT, List.map, List.append, List.drop, List.take]
    refine K.seq_sil (K.loadA_p ag_27 rfl (hp175.at1 (K.m0)) rfl) rfl ?_
    try dsimp only [setd, setn, ev, nth, over, cl, eI, eP, eT, List.map, List.append, List.drop, List.take]
    refine K.seq_call (K.call_g cal_45 (fun F w hF hw => c45t (xs := (scalesR kind base most hs rs (ms.take (ms.length - 1)))) (u := ((scalesR kind base most hs rs ms).getD j default).1) (v := ((scalesR kind base most hs rs ms).getD j default).2) (K.Rd.own hw (hF _ (K.m1)) hA1 (fun _ => rfl) (by decide)) (by omega) (sc_more hm0 hm1 (K.gt_mem hj)))) rfl ?_
    try dsimp only [setd, setn, ev, nth, over, cl, eI, eP, eT, List.map, List.append, List.drop, List.take]
    refine K.seq_pure (K.Pure.eq (K.not_ rfl) (show _ = Value.bool false from rfl)) rfl ?_
    dsimp only [setd, setn, ev, nth]
    refine K.seq_nil ?_
    refine K.norm_then ?_
    refine K.cond_false rfl ?_
    refine K.skip ?_
    refine K.norm_block ?_
    refine K.norm_then ?_
    refine K.region_lit ?_
    refine K.seq_pure (K.move) rfl ?_
    dsimp only [setd, setn, ev, nth]
    refine K.seq_pure (K.add_i64 rfl rfl (by omega)) rfl ?_
    dsimp only [setd, setn, ev, nth]
    refine K.seq_pure (K.assign) rfl ?_
    dsimp only [setd, setn, ev, nth]
    refine K.seq_nil ?_
    exact K.round_endW (L'' := [K.row (.slice A2 (scalesR kind base most hs rs ms).length c2) 27 2 (scalesR kind base most hs rs ms).length ((scalesR kind base most hs rs ms).flatMap K.eP), K.row (.slice A1 (scalesR kind base most hs rs (ms.take (ms.length - 1))).length c1) 27 2 (scalesR kind base most hs rs (ms.take (ms.length - 1))).length ((scalesR kind base most hs rs (ms.take (ms.length - 1))).flatMap K.eP), K.row (.slice AM ms.length cM) 53 3 ms.length (ms.flatMap K.eT), K.blk b19 27 [.int .i64 (lstR kind base most hs (rs.take (x1 % ((rs.length : Int) + 1)).toNat)).1.1, .int .i64 (lstR kind base most hs (rs.take (x1 % ((rs.length : Int) + 1)).toNat)).1.2], K.blk b18 27 [.int .i64 (lstR kind base most hs rs).1.1, .int .i64 (lstR kind base most hs rs).1.2], K.blk b16 27 [.int .i64 (grtR kind base most hs (rs.take (x1 % ((rs.length : Int) + 1)).toNat) x2).1.1, .int .i64 (grtR kind base most hs (rs.take (x1 % ((rs.length : Int) + 1)).toNat) x2).1.2], K.blk b14 27 [.int .i64 (grtR kind base most hs rs (x2 + x0)).1.1, .int .i64 (grtR kind base most hs rs (x2 + x0)).1.2], K.blk b12 27 [.int .i64 (grtR kind base (min 100000 (most + x0)) hs rs x2).1.1, .int .i64 (grtR kind base (min 100000 (most + x0)) hs rs x2).1.2], K.blk b10 27 [.int .i64 (grtR kind base most hs rs x2).1.1, .int .i64 (grtR kind base most hs rs x2).1.2], K.blk b7 25 [.int .i64 kind, .int .i64 base, .int .i64 (min 100000 (most + x0)), .slice A hs.length c, .slice B rs.length d], K.blk b8 25 [.int .i64 kind, .int .i64 base, .int .i64 most, .slice A hs.length c, .slice B (rs.take (x1 % ((rs.length : Int) + 1)).toNat).length d], K.blk b4 84 [.int .u8 x0, .int .u8 x1, .int .u8 x2, .int .u8 x3, .int .u8 x4], K.blk b3 25 [.int .i64 kind, .int .i64 base, .int .i64 most, .slice A hs.length c, .slice B rs.length d]]) [.int .i64 ((j : Int) + 1)] ⟨j + 1, rfl, rfl, by omega⟩ (by simp [K.nth, intOf]; omega) (by (repeat (first | exact List.Sublist.refl _ | apply List.Sublist.cons)); done) (by kernel_rfl)
  try replace ht169 := of_decide_eq_false ht169
  refine K.exit ?_
  refine K.exit_then ?_
  refine K.exit_then ?_
  refine K.exit_here ?_
  refine K.norm_then ?_
  refine K.seq ?_
  refine K.region_lit ?_
  refine K.seq_call (K.call_g cal_26 (fun F w hF hw => c26 w)) rfl ?_
  try dsimp only [setd, setn, ev, nth, over, cl, eI, eP, eT, List.map, List.append, List.drop, List.take]
  refine K.seq_pure (K.assign) rfl ?_
  dsimp only [setd, setn, ev, nth]
  refine K.seq_nil ?_
  refine K.norm_then ?_
  refine K.ret ?_
  refine K.end_ret (fun w _ => K.res_tmp rfl w) ?_
  exact K.gives rfl

end Go.Proofs.Ytafkbioeoklldaa
