/-
  Walks of the program's functions, printed by program: what each returns.
  Conditions stand in each theorem.
-/
import Derived.Test.YtafkbioeoklldaaKf
import Derived.Test.YtafkbioeoklldaaK2
import Derived.WalkArith
import Derived.Test.YtafkbioeoklldaaK3
import Derived.Test.YtafkbioeoklldaaS1
import Derived.Test.YtafkbioeoklldaaWa
import Derived.Test.YtafkbioeoklldaaWb
import Derived.Test.YtafkbioeoklldaaWd
import Derived.Test.YtafkbioeoklldaaWe
import Derived.Test.YtafkbioeoklldaaWf
import Derived.Test.YtafkbioeoklldaaWj
set_option linter.unusedSimpArgs false
set_option linter.unusedVariables false
namespace Go.Proofs.Ytafkbioeoklldaa
open Go.RowKit Go
open Go.K (setd setn ev nth over cl eI eP eT setM setF)
attribute [local irreducible] K.blk K.row

set_option maxRecDepth 100000 in
theorem e29 {kind base most : Int} {A B : Option Addr} {c d : Nat} {hs : List Int} {rs : List (Int × Int)} {w : World} (hH : K.Rd w A 1 K.eI hs) (hR : K.Rd w B 2 K.eP rs) (hn : hs.length ≤ 4611686018427387904) (hm : rs.length ≤ 4611686018427387904) (he : (chk kind base most hs rs).2.2 ≠ 0) :
    Calls Try.prog 29 [.agg #[.int .i64 kind, .int .i64 base, .int .i64 most, .slice A hs.length c, .slice B rs.length d]].toArray w (K.Gives (.tuple #[.agg #[.int .i64 0, .int .i64 0], .int .i64 (chk kind base most hs rs).2.2]) w) := by
  refine K.enter (args := [.agg #[.int .i64 kind, .int .i64 base, .int .i64 most, .slice A hs.length c, .slice B rs.length d]]) Try.func29 rfl (n := 34) rfl ?_
  simp only [List.replicate, List.cons_append, List.nil_append]
  refine K.seq ?_
  refine K.region_lit ?_
  refine K.seq_new (K.box) rfl ?_
  intro b1
  try dsimp only [setd, setn, ev, nth, over, cl, eI, eP, eT, List.map, List.append, List.drop, List.take]
  refine K.seq_new (K.alloc zr_27) rfl ?_
  intro b2
  try dsimp only [setd, setn, ev, nth, over, cl, eI, eP, eT, List.map, List.append, List.drop, List.take]
  refine K.seq_new (K.alloc zr_28) rfl ?_
  intro b3
  try dsimp only [setd, setn, ev, nth, over, cl, eI, eP, eT, List.map, List.append, List.drop, List.take]
  refine K.seq_nil ?_
  refine K.norm_then ?_
  refine K.seq ?_
  refine K.region_lit ?_
  refine K.seq_sil (K.loadA_own ag_25 rfl (K.m2) rfl) rfl ?_
  try dsimp only [setd, setn, ev, nth, over, cl, eI, eP, eT, List.map, List.append, List.drop, List.take]
  refine K.seq_call (K.call_g cal_58 (fun F w hF hw => e58 (l := []) (hH.pass hw) (hR.pass hw) hn hm he)) rfl ?_
  try dsimp only [setd, setn, ev, nth, over, cl, eI, eP, eT, List.map, List.append, List.drop, List.take]
  refine K.seq_pure (K.move) rfl ?_
  dsimp only [setd, setn, ev, nth]
  refine K.seq_pure (K.extract rfl rfl) rfl ?_
  dsimp only [setd, setn, ev, nth]
  refine K.seq_pure (K.extract rfl rfl) rfl ?_
  dsimp only [setd, setn, ev, nth]
  refine K.seq_new (K.alloc zr_97) rfl ?_
  intro b4
  try dsimp only [setd, setn, ev, nth, over, cl, eI, eP, eT, List.map, List.append, List.drop, List.take]
  refine K.seq_st (K.store_all sz_97 rfl rfl rfl rfl (K.rp0)) rfl ?_
  try dsimp only [setd, setn, ev, nth, over, cl, eI, eP, eT, List.map, List.append, List.drop, List.take]
  refine K.seq_pure (K.assign) rfl ?_
  dsimp only [setd, setn, ev, nth]
  refine K.seq_nil ?_
  refine K.norm_then ?_
  refine K.seq ?_
  refine K.seq ?_
  refine K.region_lit ?_
  refine K.seq_pure (K.move) rfl ?_
  dsimp only [setd, setn, ev, nth]
  refine K.seq_pure (K.neq rfl rfl) rfl ?_
  dsimp only [setd, setn, ev, nth]
  refine K.seq_nil ?_
  refine K.norm_then ?_
  refine K.cond rfl (fun ht15 => ?_) (fun ht15 => ?_)
  · try replace ht15 := of_decide_eq_true ht15
    refine K.seq ?_
    refine K.region_lit ?_
    refine K.seq_pure (K.build (bl27z)) rfl ?_
    try dsimp only [setd, setn, ev, nth, over, cl, eI, eP, eT, List.map, List.append, List.drop, List.take]
    refine K.seq_pure (K.move) rfl ?_
    dsimp only [setd, setn, ev, nth]
    refine K.seq_st (K.store_all sz_27 rfl rfl rfl rfl (K.rp2)) rfl ?_
    try dsimp only [setd, setn, ev, nth, over, cl, eI, eP, eT, List.map, List.append, List.drop, List.take]
    refine K.seq_st (K.store sz_28 rfl rfl rfl rfl (K.rp1)) rfl ?_
    try dsimp only [setd, setn, ev, nth, over, cl, eI, eP, eT, List.map, List.append, List.drop, List.take]
    refine K.seq_nil ?_
    refine K.norm_then ?_
    refine K.ret ?_
    refine K.ret_then ?_
    refine K.end_ret (fun w hw => K.res_cc rfl rfl rfl (K.run_cellA ag_27 rfl (K.m2) rfl w hw) (K.run_cell1 one_28 rfl (K.m1) w hw)) ?_
    exact K.gives rfl
  try replace ht15 := of_decide_eq_false ht15
  exact absurd he ht15

set_option maxRecDepth 100000 in
theorem g29 {kind base most : Int} {A B : Option Addr} {c d : Nat} {hs : List Int} {rs : List (Int × Int)} {w : World} (hH : K.Rd w A 1 K.eI hs) (hR : K.Rd w B 2 K.eP rs) (g : Good kind base most hs rs) :
    Calls Try.prog 29 [.agg #[.int .i64 kind, .int .i64 base, .int .i64 most, .slice A hs.length c, .slice B rs.length d]].toArray w (K.Gives (if frstG (okL kind base most hs rs) SB = (0, 0) then .tuple #[.agg #[.int .i64 0, .int .i64 0], .int .i64 9] else .tuple #[.agg #[.int .i64 (frstG (okL kind base most hs rs) SB).1, .int .i64 (frstG (okL kind base most hs rs) SB).2], .int .i64 0]) w) := by
  have g1 := g.k
  have g2 := g.n
  have g3 := g.r
  have g4 := g.b
  have g5 := g.m
  refine R.enter (args := [.agg #[.int .i64 kind, .int .i64 base, .int .i64 most, .slice A hs.length c, .slice B rs.length d]]) Try.func29 rfl (m := 34) rfl ?_
  simp only [List.replicate, List.cons_append, List.nil_append]
  refine R.seq ?_
  refine R.region_lit rfl ?_
  refine K.seq_new (K.box) rfl ?_
  intro b1
  try dsimp only [setd, setn, ev, nth, over, cl, eI, eP, eT, List.map, List.append, List.drop, List.take]
  refine K.seq_new (K.alloc zr_27) rfl ?_
  intro b2
  try dsimp only [setd, setn, ev, nth, over, cl, eI, eP, eT, List.map, List.append, List.drop, List.take]
  refine K.seq_new (K.alloc zr_28) rfl ?_
  intro b3
  try dsimp only [setd, setn, ev, nth, over, cl, eI, eP, eT, List.map, List.append, List.drop, List.take]
  refine K.seq_nil ?_
  refine R.out ?_
  refine R.norm_then ?_
  refine R.seq ?_
  refine R.region_lit rfl ?_
  refine K.seq_sil (K.loadA_own ag_25 rfl (K.m2) rfl) rfl ?_
  try dsimp only [setd, setn, ev, nth, over, cl, eI, eP, eT, List.map, List.append, List.drop, List.take]
  refine K.seq_call (K.call_g cal_58 (fun F w hF hw => c58 (l := []) (hH.pass hw) (hR.pass hw) g K.Rd.nil (by simp))) rfl ?_
  try dsimp only [setd, setn, ev, nth, over, cl, eI, eP, eT, List.map, List.append, List.drop, List.take]
  refine K.seq_pure (K.move) rfl ?_
  dsimp only [setd, setn, ev, nth]
  refine K.seq_pure (K.extract rfl rfl) rfl ?_
  dsimp only [setd, setn, ev, nth]
  refine K.seq_pure (K.extract rfl rfl) rfl ?_
  dsimp only [setd, setn, ev, nth]
  refine K.seq_new (K.alloc zr_97) rfl ?_
  intro b4
  try dsimp only [setd, setn, ev, nth, over, cl, eI, eP, eT, List.map, List.append, List.drop, List.take]
  refine K.seq_st (K.store_all sz_97 rfl rfl rfl rfl (K.rp0)) rfl ?_
  try dsimp only [setd, setn, ev, nth, over, cl, eI, eP, eT, List.map, List.append, List.drop, List.take]
  refine K.seq_pure (K.assign) rfl ?_
  dsimp only [setd, setn, ev, nth]
  refine K.seq_nil ?_
  refine R.out ?_
  refine R.norm_then ?_
  refine R.seq ?_
  refine R.seq ?_
  refine R.region_lit rfl ?_
  refine K.seq_pure (K.move) rfl ?_
  dsimp only [setd, setn, ev, nth]
  refine K.seq_pure (K.neq rfl rfl) rfl ?_
  dsimp only [setd, setn, ev, nth]
  refine K.seq_nil ?_
  refine R.out ?_
  refine R.norm_then ?_
  refine R.cond rfl (fun ht15 => ?_) (fun ht15 => ?_)
  · try replace ht15 := of_decide_eq_true ht15
    exact absurd rfl ht15
  try replace ht15 := of_decide_eq_false ht15
  refine R.skip ?_
  refine R.norm_then ?_
  refine R.seq ?_
  refine R.seq ?_
  refine R.region_lit rfl ?_
  refine K.seq_call (K.call_g cal_67 (fun F w hF hw => c67 w)) rfl ?_
  try dsimp only [setd, setn, ev, nth, over, cl, eI, eP, eT, List.map, List.append, List.drop, List.take]
  refine K.seq_nil ?_
  refine R.out ?_
  refine R.norm_then ?_
  refine R.block ?_
  refine R.rangeF (gf := 90) (enc := (fun x : Int × Int => Value.agg #[.int .i64 x.1, .int .i64 x.2])) (XS := SB) rfl cal_90 c90 (fun k L => L = [K.blk b4 97 [.int .i64 kind, .int .i64 base, .int .i64 most, .slice A hs.length c, .slice B rs.length d, .func (.func (98 + kind.toNat)) #[] #[]], K.blk b3 28 [.int .i64 0], K.blk b2 27 [.int .i64 0, .int .i64 0], K.blk b1 25 [.int .i64 kind, .int .i64 base, .int .i64 most, .slice A hs.length c, .slice B rs.length d]] ∧ ∀ s ∈ SB.take k, (okL kind base most hs rs) s = false) (fun cX L => cX = .ret ∧ ∃ best : Int × Int, L = [K.blk b4 97 [.int .i64 kind, .int .i64 base, .int .i64 most, .slice A hs.length c, .slice B rs.length d, .func (.func (98 + kind.toNat)) #[] #[]], K.blk b3 28 [.int .i64 0], K.blk b2 27 [.int .i64 best.1, .int .i64 best.2], K.blk b1 25 [.int .i64 kind, .int .i64 base, .int .i64 most, .slice A hs.length c, .slice B rs.length d]] ∧ best = frstG (okL kind base most hs rs) SB ∧ best ≠ (0, 0)) ?_ ?_ ?_ ?_
  · exact ⟨rfl, by simp⟩
  · intro k x L lr E hx hJ
    obtain ⟨rfl, hall⟩ := hJ
    have hp := sb_parts hx
    try dsimp only [List.cons_append, List.nil_append]
    try dsimp only [setd, setn, ev, nth, over, cl, eI, eP, eT, setM, setF, List.map, List.append, List.drop, List.take]
    refine R.region_lit rfl ?_
    refine K.seq_new (K.alloc zr_27) rfl ?_
    intro b6
    try dsimp only [setd, setn, ev, nth, over, cl, eI, eP, eT, List.map, List.append, List.drop, List.take]
    refine K.seq_st (K.store_all sz_27 rfl rfl rfl rfl (K.rp0)) rfl ?_
    try dsimp only [setd, setn, ev, nth, over, cl, eI, eP, eT, List.map, List.append, List.drop, List.take]
    refine K.seq_nil ?_
    refine R.out ?_
    refine R.norm_then ?_
    refine R.body' rfl (fun E => ?_)
    dsimp only [List.dropLast, List.cons_append, List.nil_append]
    try dsimp only [setd, setn, ev, nth, over, cl, eI, eP, eT, List.map, List.append, List.drop, List.take]
    refine R.block ?_
    refine R.seq ?_
    refine R.region_lit rfl ?_
    refine K.seq_sil (K.loadA_own ag_97 rfl (K.m1) rfl) rfl ?_
    try dsimp only [setd, setn, ev, nth, over, cl, eI, eP, eT, List.map, List.append, List.drop, List.take]
    refine K.seq_sil (K.loadA_own ag_27 rfl (K.m0) rfl) rfl ?_
    try dsimp only [setd, setn, ev, nth, over, cl, eI, eP, eT, List.map, List.append, List.drop, List.take]
    refine K.seq_call (K.call_g cal_59 (fun F w hF hw => c59 (u := x.1) (v := x.2) (hH.pass hw) g hp)) rfl ?_
    try dsimp only [setd, setn, ev, nth, over, cl, eI, eP, eT, List.map, List.append, List.drop, List.take]
    refine K.seq_pure (K.move) rfl ?_
    dsimp only [setd, setn, ev, nth]
    refine K.seq_pure (K.extract rfl rfl) rfl ?_
    dsimp only [setd, setn, ev, nth]
    refine K.seq_pure (K.extract rfl rfl) rfl ?_
    dsimp only [setd, setn, ev, nth]
    refine K.seq_new (K.alloc zr_101) rfl ?_
    intro b7
    try dsimp only [setd, setn, ev, nth, over, cl, eI, eP, eT, List.map, List.append, List.drop, List.take]
    refine K.seq_st (K.store_all sz_101 rfl rfl rfl rfl (K.rp0)) rfl ?_
    try dsimp only [setd, setn, ev, nth, over, cl, eI, eP, eT, List.map, List.append, List.drop, List.take]
    refine K.seq_pure (K.assign) rfl ?_
    dsimp only [setd, setn, ev, nth]
    refine K.seq_nil ?_
    refine R.out ?_
    refine R.norm_then ?_
    refine R.seq ?_
    refine R.region_lit rfl ?_
    refine K.seq_pure (K.move) rfl ?_
    dsimp only [setd, setn, ev, nth]
    refine K.seq_pure (K.move) rfl ?_
    dsimp only [setd, setn, ev, nth]
    refine K.split 27 rfl (fun hg27 => ?_) (fun hg27 => ?_)
    · try replace hg27 := of_decide_eq_true hg27
      refine K.seq_sil (K.loadA_own ag_97 rfl (K.m2) rfl) rfl ?_
      try dsimp only [setd, setn, ev, nth, over, cl, eI, eP, eT, List.map, List.append, List.drop, List.take]
      refine K.seq_sil (K.loadA_own ag_101 rfl ((K.m0)) rfl) rfl ?_
      try dsimp only [setd, setn, ev, nth, over, cl, eI, eP, eT, List.map, List.append, List.drop, List.take]
      refine K.seq_loud (K.call_f cal_64 (fun F w hF hw => c64 (cs := (cuts kind base x.1 x.2 hs)) (hH.pass hw) (hR.pass hw) (by omega) g.bdh (g.bdc hp) (fun i hi => g.road4 hi) (by omega))) rfl ?_
      rintro ⟨A1, c1⟩ hA1
      try dsimp only [setd, setn, ev, nth, over, cl, eI, eP, eT, List.map, List.append, List.drop, List.take]
      refine K.seq_pure (K.eql_slnil sl_22 rfl) rfl ?_
      dsimp only [setd, setn, ev, nth]
      refine K.seq_pure (K.pick_t rfl) rfl ?_
      dsimp only [setd, setn, ev, nth]
      refine K.seq_nil ?_
      refine R.out ?_
      refine R.norm_then ?_
      refine R.cond rfl (fun ht32 => ?_) (fun ht32 => ?_)
      · try replace ht32 := of_decide_eq_true ht32
        refine R.seq ?_
        refine R.region_lit rfl ?_
        refine K.seq_sil (K.loadA_own ag_27 rfl (K.m2) rfl) rfl ?_
        try dsimp only [setd, setn, ev, nth, over, cl, eI, eP, eT, List.map, List.append, List.drop, List.take]
        refine K.seq_st (K.store_all sz_27 rfl rfl rfl rfl (K.rp5)) rfl ?_
        try dsimp only [setd, setn, ev, nth, over, cl, eI, eP, eT, List.map, List.append, List.drop, List.take]
        refine K.seq_st (K.store sz_28 rfl rfl rfl rfl (K.rp4)) rfl ?_
        try dsimp only [setd, setn, ev, nth, over, cl, eI, eP, eT, List.map, List.append, List.drop, List.take]
        refine K.seq_nil ?_
        refine R.out ?_
        refine R.norm_then ?_
        refine R.ret ?_
        refine R.ret_block ?_
        exact R.rp_ret (L := [K.blk b4 97 [.int .i64 kind, .int .i64 base, .int .i64 most, .slice A hs.length c, .slice B rs.length d, .func (.func (98 + kind.toNat)) #[] #[]], K.blk b3 28 [.int .i64 0], K.blk b2 27 [.int .i64 x.1, .int .i64 x.2], K.blk b1 25 [.int .i64 kind, .int .i64 base, .int .i64 most, .slice A hs.length c, .slice B rs.length d]]) ⟨rfl, x, rfl, (frst_some hx hall (okL_t (by unfold fitP; exact hg27) (by rw [K.nnone hA1] at ht32; simpa using ht32))).symm, part_ne hp⟩ (by repeat (first | exact List.Sublist.refl _ | apply List.Sublist.cons))
      try replace ht32 := of_decide_eq_false ht32
      refine R.skip ?_
      refine R.norm_block ?_
      exact R.rp_normal (L := [K.blk b4 97 [.int .i64 kind, .int .i64 base, .int .i64 most, .slice A hs.length c, .slice B rs.length d, .func (.func (98 + kind.toNat)) #[] #[]], K.blk b3 28 [.int .i64 0], K.blk b2 27 [.int .i64 0, .int .i64 0], K.blk b1 25 [.int .i64 kind, .int .i64 base, .int .i64 most, .slice A hs.length c, .slice B rs.length d]]) ⟨rfl, all_snoc hx hall (okL_fn (by rw [K.nnone hA1] at ht32; simpa using ht32))⟩ (by repeat (first | exact List.Sublist.refl _ | apply List.Sublist.cons))
    try replace hg27 := of_decide_eq_false hg27
    refine K.seq_skip ?_ ?_
    · rfl
    try dsimp only [setd, setn, ev, nth, over, cl, eI, eP, eT, List.map, List.append, List.drop, List.take]
    refine K.seq_skip ?_ ?_
    · rfl
    try dsimp only [setd, setn, ev, nth, over, cl, eI, eP, eT, List.map, List.append, List.drop, List.take]
    refine K.seq_skip ?_ ?_
    · rfl
    try dsimp only [setd, setn, ev, nth, over, cl, eI, eP, eT, List.map, List.append, List.drop, List.take]
    refine K.seq_skip ?_ ?_
    · rfl
    try dsimp only [setd, setn, ev, nth, over, cl, eI, eP, eT, List.map, List.append, List.drop, List.take]
    refine K.seq_pure (K.pick_f rfl) rfl ?_
    dsimp only [setd, setn, ev, nth]
    refine K.seq_nil ?_
    refine R.out ?_
    refine R.norm_then ?_
    refine R.cond_false rfl ?_
    refine R.skip ?_
    refine R.norm_block ?_
    exact R.rp_normal (L := [K.blk b4 97 [.int .i64 kind, .int .i64 base, .int .i64 most, .slice A hs.length c, .slice B rs.length d, .func (.func (98 + kind.toNat)) #[] #[]], K.blk b3 28 [.int .i64 0], K.blk b2 27 [.int .i64 0, .int .i64 0], K.blk b1 25 [.int .i64 kind, .int .i64 base, .int .i64 most, .slice A hs.length c, .slice B rs.length d]]) ⟨rfl, all_snoc hx hall (okL_ff (by unfold fitP; exact hg27))⟩ (by repeat (first | exact List.Sublist.refl _ | apply List.Sublist.cons))
  · intro bD L hJ
    obtain ⟨rfl, hall⟩ := hJ
    rw [List.take_length] at hall
    try dsimp only [List.cons_append, List.nil_append]
    try dsimp only [setd, setn, ev, nth, over, cl, eI, eP, eT, setM, setF, List.map, List.append, List.drop, List.take]
    refine R.norm_block ?_
    refine R.norm_then ?_
    refine R.seq ?_
    refine R.region_lit rfl ?_
    refine K.seq_pure (K.build (bl27z)) rfl ?_
    try dsimp only [setd, setn, ev, nth, over, cl, eI, eP, eT, List.map, List.append, List.drop, List.take]
    refine K.seq_st (K.store_all sz_27 rfl rfl rfl rfl (K.rp2)) rfl ?_
    try dsimp only [setd, setn, ev, nth, over, cl, eI, eP, eT, List.map, List.append, List.drop, List.take]
    refine K.seq_st (K.store sz_28 rfl rfl rfl rfl (K.rp1)) rfl ?_
    try dsimp only [setd, setn, ev, nth, over, cl, eI, eP, eT, List.map, List.append, List.drop, List.take]
    refine K.seq_nil ?_
    refine R.out ?_
    refine R.norm_then ?_
    refine R.ret ?_
    refine R.end_ret1 rfl (by dsimp only [List.dropLast]; exact (fun w hw => K.res_cc rfl rfl rfl (K.run_cellA ag_27 rfl (K.m2) rfl w hw) (K.run_cell1 one_28 rfl (K.m1) w hw))) ?_
    dsimp only [List.dropLast]
    exact K.gives (by rw [if_pos (frst_none hall)])
  · intro bD cx L hJ
    obtain ⟨rfl, best, rfl, hbest, hne⟩ := hJ
    try dsimp only [List.cons_append, List.nil_append]
    try dsimp only [setd, setn, ev, nth, over, cl, eI, eP, eT, setM, setF, List.map, List.append, List.drop, List.take]
    refine R.ret ?_
    refine R.ret_block ?_
    refine R.ret_then ?_
    refine R.end_ret1 rfl (by dsimp only [List.dropLast]; exact (fun w hw => K.res_cc rfl rfl rfl (K.run_cellA ag_27 rfl (K.m2) rfl w hw) (K.run_cell1 one_28 rfl (K.m1) w hw))) ?_
    dsimp only [List.dropLast]
    exact K.gives (by rw [if_neg (by rw [← hbest]; exact hne), ← hbest])

end Go.Proofs.Ytafkbioeoklldaa
