/-
  Walks of the program's functions, printed by program: what each returns.
  Conditions stand in each theorem.
-/
import Derived.Test.YtafkbioeoklldaaKf
import Derived.Test.YtafkbioeoklldaaK2
import Derived.WalkArith
import Derived.Test.YtafkbioeoklldaaXh
import Derived.Test.YtafkbioeoklldaaXc
import Derived.Test.YtafkbioeoklldaaWm
import Derived.Test.YtafkbioeoklldaaWn
import Derived.Test.YtafkbioeoklldaaWo
set_option linter.unusedSimpArgs false
set_option linter.unusedVariables false
namespace Go.Proofs.Ytafkbioeoklldaa
open Go.RowKit Go
open Go.K (setd setn ev nth over cl eI eP eT setM setF)
attribute [local irreducible] K.blk K.row
theorem ul4 : Try.prog.underlying 4 = some .bool := by kernel_rfl
theorem not_f {b : Bool} (h : b = true) : (!b) = false := by rw [h]; rfl

set_option maxRecDepth 100000 in
set_option maxHeartbeats 4000000 in
theorem c8 {kind base most : Int} {A B : Option Addr} {c d : Nat} {hs : List Int} {rs : List (Int × Int)} {x0 x1 x2 x3 : Int} {Y : Option Addr} {cy : Nat} {ys : List Int} {w : World} (hH : K.Rd w A 1 K.eI hs) (hR : K.Rd w B 2 K.eP rs) (hn : hs.length ≤ 4611686018427387904) (hm : rs.length ≤ 4611686018427387904) (hx0 : 0 ≤ x0 ∧ x0 ≤ 255) (hx1 : 0 ≤ x1 ∧ x1 ≤ 255) (hx2 : 0 ≤ x2 ∧ x2 ≤ 255) (hx3 : 0 ≤ x3 ∧ x3 ≤ 255) (hY : K.Rd w Y 1 eB ys) (hyb : ∀ x ∈ ys, 0 ≤ x ∧ x ≤ 255) (hyl : ys.length ≤ 140737488351232) :
    Calls Try.prog 8 [.agg #[.int .i64 kind, .int .i64 base, .int .i64 most, .slice A hs.length c, .slice B rs.length d], .agg #[.int .u8 x0, .int .u8 x1, .int .u8 x2, .int .u8 x3], .slice Y ys.length cy].toArray w (K.Gives (.bool true) w) := by
  refine K.enter (args := [.agg #[.int .i64 kind, .int .i64 base, .int .i64 most, .slice A hs.length c, .slice B rs.length d], .agg #[.int .u8 x0, .int .u8 x1, .int .u8 x2, .int .u8 x3], .slice Y ys.length cy]) Try.func8 rfl (n := 122) rfl ?_
  simp only [List.replicate, List.cons_append, List.nil_append]
  refine K.seq ?_
  refine K.region_lit ?_
  refine K.seq_new (K.box) rfl ?_
  intro b3
  try dsimp only [setd, setn, ev, nth, over, cl, eI, eP, eT, List.map, List.append, List.drop, List.take]
  refine K.seq_new (K.box) rfl ?_
  intro b4
  try dsimp only [setd, setn, ev, nth, over, cl, eI, eP, eT, List.map, List.append, List.drop, List.take]
  refine K.seq_pure (K.assign) rfl ?_
  dsimp only [setd, setn, ev, nth]
  refine K.seq_nil ?_
  refine K.norm_then ?_
  refine K.seq ?_
  refine K.seq ?_
  refine K.region_lit ?_
  refine K.seq_sil (K.loadA_own ag_25 rfl (K.m1) rfl) rfl ?_
  try dsimp only [setd, setn, ev, nth, over, cl, eI, eP, eT, List.map, List.append, List.drop, List.take]
  refine K.seq_call (K.call_g cal_39 (fun F w hF hw => c39 (hH.pass hw) (hR.pass hw) hn hm)) rfl ?_
  try dsimp only [setd, setn, ev, nth, over, cl, eI, eP, eT, List.map, List.append, List.drop, List.take]
  refine K.seq_pure (K.not_d rfl) rfl ?_
  dsimp only [setd, setn, ev, nth]
  refine K.seq_nil ?_
  refine K.norm_then ?_
  refine K.cond rfl (fun ht17 => ?_) (fun ht17 => ?_)
  · try replace ht17 := of_decide_eq_true ht17
    refine K.seq ?_
    refine K.region_lit ?_
    refine K.seq_sil (K.loadA_own ag_25 rfl (K.m1) rfl) rfl ?_
    try dsimp only [setd, setn, ev, nth, over, cl, eI, eP, eT, List.map, List.append, List.drop, List.take]
    refine K.seq_loud (K.call_f cal_31 (fun F w hF hw => c31 (ms := []) (hH.pass hw) (hR.pass hw) hn hm K.Rd.nil (by simp))) rfl ?_
    rintro ⟨A1, c1⟩ hA1
    try dsimp only [setd, setn, ev, nth, over, cl, eI, eP, eT, List.map, List.append, List.drop, List.take]
    refine K.seq_pure (K.move) rfl ?_
    dsimp only [setd, setn, ev, nth]
    refine K.seq_pure (K.extract rfl rfl) rfl ?_
    dsimp only [setd, setn, ev, nth]
    refine K.seq_pure (K.extract rfl rfl) rfl ?_
    dsimp only [setd, setn, ev, nth]
    refine K.seq_pure (K.assign) rfl ?_
    dsimp only [setd, setn, ev, nth]
    refine K.seq_pure (K.assign) rfl ?_
    dsimp only [setd, setn, ev, nth]
    refine K.seq_nil ?_
    refine K.norm_then ?_
    refine K.seq ?_
    refine K.region_lit ?_
    refine K.seq_pure (K.move) rfl ?_
    dsimp only [setd, setn, ev, nth]
    refine K.seq_pure (K.Pure.eq (K.neq rfl rfl) (show _ = Value.bool true from congrArg Value.bool (decide_eq_true (by rw [mk_err ht17]; exact ht17)))) rfl ?_
    dsimp only [setd, setn, ev, nth]
    refine K.seq_pure (K.move) rfl ?_
    dsimp only [setd, setn, ev, nth]
    refine K.seq_call (K.call_g cal_26 (fun F w hF hw => c26 w)) rfl ?_
    try dsimp only [setd, setn, ev, nth, over, cl, eI, eP, eT, List.map, List.append, List.drop, List.take]
    refine K.seq_pure (K.pick_t rfl) rfl ?_
    dsimp only [setd, setn, ev, nth]
    refine K.seq_pure (K.assign) rfl ?_
    dsimp only [setd, setn, ev, nth]
    refine K.seq_nil ?_
    refine K.norm_then ?_
    refine K.ret ?_
    refine K.ret_then ?_
    refine K.end_ret (fun w _ => K.res_tmp rfl w) ?_
    exact K.gives rfl
  try replace ht17 := of_decide_eq_false ht17
  have hc0 : (chk kind base most hs rs).2.2 = 0 := Decidable.not_not.1 ht17
  have g := chk_good hc0
  have g1 := g.k
  have g2 := g.n
  have g3 := g.r
  have g4 := g.b
  have g5 := g.m
  refine K.skip ?_
  refine K.norm_then ?_
  refine K.seq ?_
  refine K.joinW [9, 10] [28, 29, 30, 31, 32, 33, 34, 35, 36, 37, 38, 39] (fun vi L => ∃ (b9 b10 : Nat) (u v u2 v2 : Int), vi = [.pointer (some ⟨b9, 0, none⟩), .pointer (some ⟨b10, 0, none⟩)] ∧ scE u v = 0 ∧ scE u2 v2 = 0 ∧ L = [K.blk b9 27 [.int .i64 u, .int .i64 v], K.blk b10 27 [.int .i64 u2, .int .i64 v2], K.blk b4 65 [.int .u8 x0, .int .u8 x1, .int .u8 x2, .int .u8 x3], K.blk b3 25 [.int .i64 kind, .int .i64 base, .int .i64 most, .slice A hs.length c, .slice B rs.length d]]) ?_ ?_
  · refine K.draw_L [] Try_mixed ?_
    refine K.d_pure 0 rfl (K.indexAddr_ar ar_65 rfl rfl (by omega) (by omega)) (by kernel_rfl) rfl ?_
    try dsimp only [setd, setn, ev, nth, over, cl, eI, eP, eT, List.map, List.append, List.drop, List.take]
    refine K.d_mem 1 rfl (K.load1_own one_5 rfl (K.m0) rfl) (fun _ h => h) (by kernel_rfl) (by kernel_rfl) rfl ?_
    try dsimp only [setd, setn, ev, nth, over, cl, eI, eP, eT, List.map, List.append, List.drop, List.take]
    refine K.d_pure 2 rfl (K.indexAddr_ar ar_65 rfl rfl (by omega) (by omega)) (by kernel_rfl) rfl ?_
    try dsimp only [setd, setn, ev, nth, over, cl, eI, eP, eT, List.map, List.append, List.drop, List.take]
    refine K.d_mem 3 rfl (K.load1_own one_5 rfl (K.m0) rfl) (fun _ h => h) (by kernel_rfl) (by kernel_rfl) rfl ?_
    try dsimp only [setd, setn, ev, nth, over, cl, eI, eP, eT, List.map, List.append, List.drop, List.take]
    refine K.d_pure 4 rfl (K.build (bl56 _ _)) (by kernel_rfl) rfl ?_
    try dsimp only [setd, setn, ev, nth, over, cl, eI, eP, eT, List.map, List.append, List.drop, List.take]
    refine K.d_pure 6 rfl (K.indexAddr_ar ar_65 rfl rfl (by omega) (by omega)) (by kernel_rfl) rfl ?_
    try dsimp only [setd, setn, ev, nth, over, cl, eI, eP, eT, List.map, List.append, List.drop, List.take]
    refine K.d_mem 7 rfl (K.load1_own one_5 rfl (K.m0) rfl) (fun _ h => h) (by kernel_rfl) (by kernel_rfl) rfl ?_
    try dsimp only [setd, setn, ev, nth, over, cl, eI, eP, eT, List.map, List.append, List.drop, List.take]
    refine K.d_pure 8 rfl (K.indexAddr_ar ar_65 rfl rfl (by omega) (by omega)) (by kernel_rfl) rfl ?_
    try dsimp only [setd, setn, ev, nth, over, cl, eI, eP, eT, List.map, List.append, List.drop, List.take]
    refine K.d_mem 9 rfl (K.load1_own one_5 rfl (K.m0) rfl) (fun _ h => h) (by kernel_rfl) (by kernel_rfl) rfl ?_
    try dsimp only [setd, setn, ev, nth, over, cl, eI, eP, eT, List.map, List.append, List.drop, List.take]
    refine K.d_pure 10 rfl (K.build (bl56 _ _)) (by kernel_rfl) rfl ?_
    try dsimp only [setd, setn, ev, nth, over, cl, eI, eP, eT, List.map, List.append, List.drop, List.take]
    refine K.d_three 5 12 13 (by kernel_rfl) ?_ ?_ ?_
    · refine K.s_loud 5 rfl (K.call_f cal_40 (fun F w hF hw => c40 hx0 hx1 w)) (fun _ h => h) (by kernel_rfl) rfl ?_
      rintro ⟨u, v⟩ hsc
      try dsimp only [setd, setn, ev, nth, over, cl, eI, eP, eT, List.map, List.append, List.drop, List.take]
      refine K.d_three 11 12 13 (by kernel_rfl) ?_ ?_ ?_
      · refine K.s_loud 11 rfl (K.call_f cal_40 (fun F w hF hw => c40 hx2 hx3 w)) (fun _ h => h) (by kernel_rfl) rfl ?_
        rintro ⟨u2, v2⟩ hsc2
        try dsimp only [setd, setn, ev, nth, over, cl, eI, eP, eT, List.map, List.append, List.drop, List.take]
        refine K.d_two 12 13 (by kernel_rfl) ?_ ?_
        · refine K.s_new 12 rfl (K.alloc zr_27) (fun _ h => h) (by kernel_rfl) rfl ?_
          intro b9
          try dsimp only [setd, setn, ev, nth, over, cl, eI, eP, eT, List.map, List.append, List.drop, List.take]
          refine K.d_new 13 rfl (K.alloc zr_27) (fun _ h => K.tl h) (by kernel_rfl) rfl ?_
          intro b10
          try dsimp only [setd, setn, ev, nth, over, cl, eI, eP, eT, List.map, List.append, List.drop, List.take]
          refine K.d_upd 14 rfl (K.store_all sz_27 rfl rfl rfl rfl (K.rp1)) (fun _ => fun _ h => K.tl (K.tl h)) (by kernel_rfl) rfl ?_
          intro _ _
          try dsimp only [setd, setn, ev, nth, over, cl, eI, eP, eT, List.map, List.append, List.drop, List.take]
          refine K.d_upd 15 rfl (K.store_all sz_27 rfl rfl rfl rfl (K.rp0)) (fun _ => fun _ h => K.tl (K.tl h)) (by kernel_rfl) rfl ?_
          intro _ _
          try dsimp only [setd, setn, ev, nth, over, cl, eI, eP, eT, List.map, List.append, List.drop, List.take]
          refine K.d_done (by kernel_rfl) ?_
          exact K.join_here (L' := [K.blk b9 27 [.int .i64 u, .int .i64 v], K.blk b10 27 [.int .i64 u2, .int .i64 v2], K.blk b4 65 [.int .u8 x0, .int .u8 x1, .int .u8 x2, .int .u8 x3], K.blk b3 25 [.int .i64 kind, .int .i64 base, .int .i64 most, .slice A hs.length c, .slice B rs.length d]]) [.pointer (some ⟨b9, 0, none⟩), .pointer (some ⟨b10, 0, none⟩)] ⟨b9, b10, u, v, u2, v2, rfl, hsc, hsc2, rfl⟩ (fun w h => (K.st_swap w h)) (by kernel_rfl)
        refine K.s_new 13 rfl (K.alloc zr_27) (fun _ h => h) (by kernel_rfl) rfl ?_
        intro b10
        try dsimp only [setd, setn, ev, nth, over, cl, eI, eP, eT, List.map, List.append, List.drop, List.take]
        refine K.d_new 12 rfl (K.alloc zr_27) (fun _ h => K.tl h) (by kernel_rfl) rfl ?_
        intro b9
        try dsimp only [setd, setn, ev, nth, over, cl, eI, eP, eT, List.map, List.append, List.drop, List.take]
        refine K.d_upd 14 rfl (K.store_all sz_27 rfl rfl rfl rfl (K.rp0)) (fun _ => fun _ h => K.tl (K.tl h)) (by kernel_rfl) rfl ?_
        intro _ _
        try dsimp only [setd, setn, ev, nth, over, cl, eI, eP, eT, List.map, List.append, List.drop, List.take]
        refine K.d_upd 15 rfl (K.store_all sz_27 rfl rfl rfl rfl (K.rp1)) (fun _ => fun _ h => K.tl (K.tl h)) (by kernel_rfl) rfl ?_
        intro _ _
        try dsimp only [setd, setn, ev, nth, over, cl, eI, eP, eT, List.map, List.append, List.drop, List.take]
        refine K.d_done (by kernel_rfl) ?_
        exact K.join_here (L' := [K.blk b9 27 [.int .i64 u, .int .i64 v], K.blk b10 27 [.int .i64 u2, .int .i64 v2], K.blk b4 65 [.int .u8 x0, .int .u8 x1, .int .u8 x2, .int .u8 x3], K.blk b3 25 [.int .i64 kind, .int .i64 base, .int .i64 most, .slice A hs.length c, .slice B rs.length d]]) [.pointer (some ⟨b9, 0, none⟩), .pointer (some ⟨b10, 0, none⟩)] ⟨b9, b10, u, v, u2, v2, rfl, hsc, hsc2, rfl⟩ (fun w h => h) (by kernel_rfl)
      · refine K.s_new 12 rfl (K.alloc zr_27) (fun _ h => h) (by kernel_rfl) rfl ?_
        intro b9
        try dsimp only [setd, setn, ev, nth, over, cl, eI, eP, eT, List.map, List.append, List.drop, List.take]
        refine K.d_two 11 13 (by kernel_rfl) ?_ ?_
        · refine K.s_loud 11 rfl (K.call_f cal_40 (fun F w hF hw => c40 hx2 hx3 w)) (fun _ h => K.tl h) (by kernel_rfl) rfl ?_
          rintro ⟨u2, v2⟩ hsc2
          try dsimp only [setd, setn, ev, nth, over, cl, eI, eP, eT, List.map, List.append, List.drop, List.take]
          refine K.d_new 13 rfl (K.alloc zr_27) (fun _ h => K.tl h) (by kernel_rfl) rfl ?_
          intro b10
          try dsimp only [setd, setn, ev, nth, over, cl, eI, eP, eT, List.map, List.append, List.drop, List.take]
          refine K.d_upd 14 rfl (K.store_all sz_27 rfl rfl rfl rfl (K.rp1)) (fun _ => fun _ h => K.tl (K.tl h)) (by kernel_rfl) rfl ?_
          intro _ _
          try dsimp only [setd, setn, ev, nth, over, cl, eI, eP, eT, List.map, List.append, List.drop, List.take]
          refine K.d_upd 15 rfl (K.store_all sz_27 rfl rfl rfl rfl (K.rp0)) (fun _ => fun _ h => K.tl (K.tl h)) (by kernel_rfl) rfl ?_
          intro _ _
          try dsimp only [setd, setn, ev, nth, over, cl, eI, eP, eT, List.map, List.append, List.drop, List.take]
          refine K.d_done (by kernel_rfl) ?_
          exact K.join_here (L' := [K.blk b9 27 [.int .i64 u, .int .i64 v], K.blk b10 27 [.int .i64 u2, .int .i64 v2], K.blk b4 65 [.int .u8 x0, .int .u8 x1, .int .u8 x2, .int .u8 x3], K.blk b3 25 [.int .i64 kind, .int .i64 base, .int .i64 most, .slice A hs.length c, .slice B rs.length d]]) [.pointer (some ⟨b9, 0, none⟩), .pointer (some ⟨b10, 0, none⟩)] ⟨b9, b10, u, v, u2, v2, rfl, hsc, hsc2, rfl⟩ (fun w h => (K.st_swap w h)) (by kernel_rfl)
        refine K.s_new 13 rfl (K.alloc zr_27) (fun _ h => K.tl h) (by kernel_rfl) rfl ?_
        intro b10
        try dsimp only [setd, setn, ev, nth, over, cl, eI, eP, eT, List.map, List.append, List.drop, List.take]
        refine K.d_loud 11 rfl (K.call_f cal_40 (fun F w hF hw => c40 hx2 hx3 w)) (fun _ h => K.tl (K.tl h)) (by kernel_rfl) rfl ?_
        rintro ⟨u2, v2⟩ hsc2
        try dsimp only [setd, setn, ev, nth, over, cl, eI, eP, eT, List.map, List.append, List.drop, List.take]
        refine K.d_upd 14 rfl (K.store_all sz_27 rfl rfl rfl rfl (K.rp1)) (fun _ => fun _ h => K.tl (K.tl h)) (by kernel_rfl) rfl ?_
        intro _ _
        try dsimp only [setd, setn, ev, nth, over, cl, eI, eP, eT, List.map, List.append, List.drop, List.take]
        refine K.d_upd 15 rfl (K.store_all sz_27 rfl rfl rfl rfl (K.rp0)) (fun _ => fun _ h => K.tl (K.tl h)) (by kernel_rfl) rfl ?_
        intro _ _
        try dsimp only [setd, setn, ev, nth, over, cl, eI, eP, eT, List.map, List.append, List.drop, List.take]
        refine K.d_done (by kernel_rfl) ?_
        exact K.join_here (L' := [K.blk b9 27 [.int .i64 u, .int .i64 v], K.blk b10 27 [.int .i64 u2, .int .i64 v2], K.blk b4 65 [.int .u8 x0, .int .u8 x1, .int .u8 x2, .int .u8 x3], K.blk b3 25 [.int .i64 kind, .int .i64 base, .int .i64 most, .slice A hs.length c, .slice B rs.length d]]) [.pointer (some ⟨b9, 0, none⟩), .pointer (some ⟨b10, 0, none⟩)] ⟨b9, b10, u, v, u2, v2, rfl, hsc, hsc2, rfl⟩ (fun w h => (K.st_swap w h)) (by kernel_rfl)
      refine K.s_new 13 rfl (K.alloc zr_27) (fun _ h => h) (by kernel_rfl) rfl ?_
      intro b10
      try dsimp only [setd, setn, ev, nth, over, cl, eI, eP, eT, List.map, List.append, List.drop, List.take]
      refine K.d_two 11 12 (by kernel_rfl) ?_ ?_
      · refine K.s_loud 11 rfl (K.call_f cal_40 (fun F w hF hw => c40 hx2 hx3 w)) (fun _ h => K.tl h) (by kernel_rfl) rfl ?_
        rintro ⟨u2, v2⟩ hsc2
        try dsimp only [setd, setn, ev, nth, over, cl, eI, eP, eT, List.map, List.append, List.drop, List.take]
        refine K.d_new 12 rfl (K.alloc zr_27) (fun _ h => K.tl h) (by kernel_rfl) rfl ?_
        intro b9
        try dsimp only [setd, setn, ev, nth, over, cl, eI, eP, eT, List.map, List.append, List.drop, List.take]
        refine K.d_upd 14 rfl (K.store_all sz_27 rfl rfl rfl rfl (K.rp0)) (fun _ => fun _ h => K.tl (K.tl h)) (by kernel_rfl) rfl ?_
        intro _ _
        try dsimp only [setd, setn, ev, nth, over, cl, eI, eP, eT, List.map, List.append, List.drop, List.take]
        refine K.d_upd 15 rfl (K.store_all sz_27 rfl rfl rfl rfl (K.rp1)) (fun _ => fun _ h => K.tl (K.tl h)) (by kernel_rfl) rfl ?_
        intro _ _
        try dsimp only [setd, setn, ev, nth, over, cl, eI, eP, eT, List.map, List.append, List.drop, List.take]
        refine K.d_done (by kernel_rfl) ?_
        exact K.join_here (L' := [K.blk b9 27 [.int .i64 u, .int .i64 v], K.blk b10 27 [.int .i64 u2, .int .i64 v2], K.blk b4 65 [.int .u8 x0, .int .u8 x1, .int .u8 x2, .int .u8 x3], K.blk b3 25 [.int .i64 kind, .int .i64 base, .int .i64 most, .slice A hs.length c, .slice B rs.length d]]) [.pointer (some ⟨b9, 0, none⟩), .pointer (some ⟨b10, 0, none⟩)] ⟨b9, b10, u, v, u2, v2, rfl, hsc, hsc2, rfl⟩ (fun w h => h) (by kernel_rfl)
      refine K.s_new 12 rfl (K.alloc zr_27) (fun _ h => K.tl h) (by kernel_rfl) rfl ?_
      intro b9
      try dsimp only [setd, setn, ev, nth, over, cl, eI, eP, eT, List.map, List.append, List.drop, List.take]
      refine K.d_loud 11 rfl (K.call_f cal_40 (fun F w hF hw => c40 hx2 hx3 w)) (fun _ h => K.tl (K.tl h)) (by kernel_rfl) rfl ?_
      rintro ⟨u2, v2⟩ hsc2
      try dsimp only [setd, setn, ev, nth, over, cl, eI, eP, eT, List.map, List.append, List.drop, List.take]
      refine K.d_upd 14 rfl (K.store_all sz_27 rfl rfl rfl rfl (K.rp0)) (fun _ => fun _ h => K.tl (K.tl h)) (by kernel_rfl) rfl ?_
      intro _ _
      try dsimp only [setd, setn, ev, nth, over, cl, eI, eP, eT, List.map, List.append, List.drop, List.take]
      refine K.d_upd 15 rfl (K.store_all sz_27 rfl rfl rfl rfl (K.rp1)) (fun _ => fun _ h => K.tl (K.tl h)) (by kernel_rfl) rfl ?_
      intro _ _
      try dsimp only [setd, setn, ev, nth, over, cl, eI, eP, eT, List.map, List.append, List.drop, List.take]
      refine K.d_done (by kernel_rfl) ?_
      exact K.join_here (L' := [K.blk b9 27 [.int .i64 u, .int .i64 v], K.blk b10 27 [.int .i64 u2, .int .i64 v2], K.blk b4 65 [.int .u8 x0, .int .u8 x1, .int .u8 x2, .int .u8 x3], K.blk b3 25 [.int .i64 kind, .int .i64 base, .int .i64 most, .slice A hs.length c, .slice B rs.length d]]) [.pointer (some ⟨b9, 0, none⟩), .pointer (some ⟨b10, 0, none⟩)] ⟨b9, b10, u, v, u2, v2, rfl, hsc, hsc2, rfl⟩ (fun w h => h) (by kernel_rfl)
    · refine K.s_new 12 rfl (K.alloc zr_27) (fun _ h => h) (by kernel_rfl) rfl ?_
      intro b9
      try dsimp only [setd, setn, ev, nth, over, cl, eI, eP, eT, List.map, List.append, List.drop, List.take]
      refine K.d_two 5 13 (by kernel_rfl) ?_ ?_
      · refine K.s_loud 5 rfl (K.call_f cal_40 (fun F w hF hw => c40 hx0 hx1 w)) (fun _ h => K.tl h) (by kernel_rfl) rfl ?_
        rintro ⟨u, v⟩ hsc
        try dsimp only [setd, setn, ev, nth, over, cl, eI, eP, eT, List.map, List.append, List.drop, List.take]
        refine K.d_two 11 13 (by kernel_rfl) ?_ ?_
        · refine K.s_loud 11 rfl (K.call_f cal_40 (fun F w hF hw => c40 hx2 hx3 w)) (fun _ h => K.tl h) (by kernel_rfl) rfl ?_
          rintro ⟨u2, v2⟩ hsc2
          try dsimp only [setd, setn, ev, nth, over, cl, eI, eP, eT, List.map, List.append, List.drop, List.take]
          refine K.d_new 13 rfl (K.alloc zr_27) (fun _ h => K.tl h) (by kernel_rfl) rfl ?_
          intro b10
          try dsimp only [setd, setn, ev, nth, over, cl, eI, eP, eT, List.map, List.append, List.drop, List.take]
          refine K.d_upd 14 rfl (K.store_all sz_27 rfl rfl rfl rfl (K.rp1)) (fun _ => fun _ h => K.tl (K.tl h)) (by kernel_rfl) rfl ?_
          intro _ _
          try dsimp only [setd, setn, ev, nth, over, cl, eI, eP, eT, List.map, List.append, List.drop, List.take]
          refine K.d_upd 15 rfl (K.store_all sz_27 rfl rfl rfl rfl (K.rp0)) (fun _ => fun _ h => K.tl (K.tl h)) (by kernel_rfl) rfl ?_
          intro _ _
          try dsimp only [setd, setn, ev, nth, over, cl, eI, eP, eT, List.map, List.append, List.drop, List.take]
          refine K.d_done (by kernel_rfl) ?_
          exact K.join_here (L' := [K.blk b9 27 [.int .i64 u, .int .i64 v], K.blk b10 27 [.int .i64 u2, .int .i64 v2], K.blk b4 65 [.int .u8 x0, .int .u8 x1, .int .u8 x2, .int .u8 x3], K.blk b3 25 [.int .i64 kind, .int .i64 base, .int .i64 most, .slice A hs.length c, .slice B rs.length d]]) [.pointer (some ⟨b9, 0, none⟩), .pointer (some ⟨b10, 0, none⟩)] ⟨b9, b10, u, v, u2, v2, rfl, hsc, hsc2, rfl⟩ (fun w h => (K.st_swap w h)) (by kernel_rfl)
        refine K.s_new 13 rfl (K.alloc zr_27) (fun _ h => K.tl h) (by kernel_rfl) rfl ?_
        intro b10
        try dsimp only [setd, setn, ev, nth, over, cl, eI, eP, eT, List.map, List.append, List.drop, List.take]
        refine K.d_loud 11 rfl (K.call_f cal_40 (fun F w hF hw => c40 hx2 hx3 w)) (fun _ h => K.tl (K.tl h)) (by kernel_rfl) rfl ?_
        rintro ⟨u2, v2⟩ hsc2
        try dsimp only [setd, setn, ev, nth, over, cl, eI, eP, eT, List.map, List.append, List.drop, List.take]
        refine K.d_upd 14 rfl (K.store_all sz_27 rfl rfl rfl rfl (K.rp1)) (fun _ => fun _ h => K.tl (K.tl h)) (by kernel_rfl) rfl ?_
        intro _ _
        try dsimp only [setd, setn, ev, nth, over, cl, eI, eP, eT, List.map, List.append, List.drop, List.take]
        refine K.d_upd 15 rfl (K.store_all sz_27 rfl rfl rfl rfl (K.rp0)) (fun _ => fun _ h => K.tl (K.tl h)) (by kernel_rfl) rfl ?_
        intro _ _
        try dsimp only [setd, setn, ev, nth, over, cl, eI, eP, eT, List.map, List.append, List.drop, List.take]
        refine K.d_done (by kernel_rfl) ?_
        exact K.join_here (L' := [K.blk b9 27 [.int .i64 u, .int .i64 v], K.blk b10 27 [.int .i64 u2, .int .i64 v2], K.blk b4 65 [.int .u8 x0, .int .u8 x1, .int .u8 x2, .int .u8 x3], K.blk b3 25 [.int .i64 kind, .int .i64 base, .int .i64 most, .slice A hs.length c, .slice B rs.length d]]) [.pointer (some ⟨b9, 0, none⟩), .pointer (some ⟨b10, 0, none⟩)] ⟨b9, b10, u, v, u2, v2, rfl, hsc, hsc2, rfl⟩ (fun w h => (K.st_swap w h)) (by kernel_rfl)
      refine K.s_new 13 rfl (K.alloc zr_27) (fun _ h => K.tl h) (by kernel_rfl) rfl ?_
      intro b10
      try dsimp only [setd, setn, ev, nth, over, cl, eI, eP, eT, List.map, List.append, List.drop, List.take]
      refine K.d_loud 5 rfl (K.call_f cal_40 (fun F w hF hw => c40 hx0 hx1 w)) (fun _ h => K.tl (K.tl h)) (by kernel_rfl) rfl ?_
      rintro ⟨u, v⟩ hsc
      try dsimp only [setd, setn, ev, nth, over, cl, eI, eP, eT, List.map, List.append, List.drop, List.take]
      refine K.d_loud 11 rfl (K.call_f cal_40 (fun F w hF hw => c40 hx2 hx3 w)) (fun _ h => K.tl (K.tl h)) (by kernel_rfl) rfl ?_
      rintro ⟨u2, v2⟩ hsc2
      try dsimp only [setd, setn, ev, nth, over, cl, eI, eP, eT, List.map, List.append, List.drop, List.take]
      refine K.d_upd 14 rfl (K.store_all sz_27 rfl rfl rfl rfl (K.rp1)) (fun _ => fun _ h => K.tl (K.tl h)) (by kernel_rfl) rfl ?_
      intro _ _
      try dsimp only [setd, setn, ev, nth, over, cl, eI, eP, eT, List.map, List.append, List.drop, List.take]
      refine K.d_upd 15 rfl (K.store_all sz_27 rfl rfl rfl rfl (K.rp0)) (fun _ => fun _ h => K.tl (K.tl h)) (by kernel_rfl) rfl ?_
      intro _ _
      try dsimp only [setd, setn, ev, nth, over, cl, eI, eP, eT, List.map, List.append, List.drop, List.take]
      refine K.d_done (by kernel_rfl) ?_
      exact K.join_here (L' := [K.blk b9 27 [.int .i64 u, .int .i64 v], K.blk b10 27 [.int .i64 u2, .int .i64 v2], K.blk b4 65 [.int .u8 x0, .int .u8 x1, .int .u8 x2, .int .u8 x3], K.blk b3 25 [.int .i64 kind, .int .i64 base, .int .i64 most, .slice A hs.length c, .slice B rs.length d]]) [.pointer (some ⟨b9, 0, none⟩), .pointer (some ⟨b10, 0, none⟩)] ⟨b9, b10, u, v, u2, v2, rfl, hsc, hsc2, rfl⟩ (fun w h => (K.st_swap w h)) (by kernel_rfl)
    refine K.s_new 13 rfl (K.alloc zr_27) (fun _ h => h) (by kernel_rfl) rfl ?_
    intro b10
    try dsimp only [setd, setn, ev, nth, over, cl, eI, eP, eT, List.map, List.append, List.drop, List.take]
    refine K.d_two 5 12 (by kernel_rfl) ?_ ?_
    · refine K.s_loud 5 rfl (K.call_f cal_40 (fun F w hF hw => c40 hx0 hx1 w)) (fun _ h => K.tl h) (by kernel_rfl) rfl ?_
      rintro ⟨u, v⟩ hsc
      try dsimp only [setd, setn, ev, nth, over, cl, eI, eP, eT, List.map, List.append, List.drop, List.take]
      refine K.d_two 11 12 (by kernel_rfl) ?_ ?_
      · refine K.s_loud 11 rfl (K.call_f cal_40 (fun F w hF hw => c40 hx2 hx3 w)) (fun _ h => K.tl h) (by kernel_rfl) rfl ?_
        rintro ⟨u2, v2⟩ hsc2
        try dsimp only [setd, setn, ev, nth, over, cl, eI, eP, eT, List.map, List.append, List.drop, List.take]
        refine K.d_new 12 rfl (K.alloc zr_27) (fun _ h => K.tl h) (by kernel_rfl) rfl ?_
        intro b9
        try dsimp only [setd, setn, ev, nth, over, cl, eI, eP, eT, List.map, List.append, List.drop, List.take]
        refine K.d_upd 14 rfl (K.store_all sz_27 rfl rfl rfl rfl (K.rp0)) (fun _ => fun _ h => K.tl (K.tl h)) (by kernel_rfl) rfl ?_
        intro _ _
        try dsimp only [setd, setn, ev, nth, over, cl, eI, eP, eT, List.map, List.append, List.drop, List.take]
        refine K.d_upd 15 rfl (K.store_all sz_27 rfl rfl rfl rfl (K.rp1)) (fun _ => fun _ h => K.tl (K.tl h)) (by kernel_rfl) rfl ?_
        intro _ _
        try dsimp only [setd, setn, ev, nth, over, cl, eI, eP, eT, List.map, List.append, List.drop, List.take]
        refine K.d_done (by kernel_rfl) ?_
        exact K.join_here (L' := [K.blk b9 27 [.int .i64 u, .int .i64 v], K.blk b10 27 [.int .i64 u2, .int .i64 v2], K.blk b4 65 [.int .u8 x0, .int .u8 x1, .int .u8 x2, .int .u8 x3], K.blk b3 25 [.int .i64 kind, .int .i64 base, .int .i64 most, .slice A hs.length c, .slice B rs.length d]]) [.pointer (some ⟨b9, 0, none⟩), .pointer (some ⟨b10, 0, none⟩)] ⟨b9, b10, u, v, u2, v2, rfl, hsc, hsc2, rfl⟩ (fun w h => h) (by kernel_rfl)
      refine K.s_new 12 rfl (K.alloc zr_27) (fun _ h => K.tl h) (by kernel_rfl) rfl ?_
      intro b9
      try dsimp only [setd, setn, ev, nth, over, cl, eI, eP, eT, List.map, List.append, List.drop, List.take]
      refine K.d_loud 11 rfl (K.call_f cal_40 (fun F w hF hw => c40 hx2 hx3 w)) (fun _ h => K.tl (K.tl h)) (by kernel_rfl) rfl ?_
      rintro ⟨u2, v2⟩ hsc2
      try dsimp only [setd, setn, ev, nth, over, cl, eI, eP, eT, List.map, List.append, List.drop, List.take]
      refine K.d_upd 14 rfl (K.store_all sz_27 rfl rfl rfl rfl (K.rp0)) (fun _ => fun _ h => K.tl (K.tl h)) (by kernel_rfl) rfl ?_
      intro _ _
      try dsimp only [setd, setn, ev, nth, over, cl, eI, eP, eT, List.map, List.append, List.drop, List.take]
      refine K.d_upd 15 rfl (K.store_all sz_27 rfl rfl rfl rfl (K.rp1)) (fun _ => fun _ h => K.tl (K.tl h)) (by kernel_rfl) rfl ?_
      intro _ _
      try dsimp only [setd, setn, ev, nth, over, cl, eI, eP, eT, List.map, List.append, List.drop, List.take]
      refine K.d_done (by kernel_rfl) ?_
      exact K.join_here (L' := [K.blk b9 27 [.int .i64 u, .int .i64 v], K.blk b10 27 [.int .i64 u2, .int .i64 v2], K.blk b4 65 [.int .u8 x0, .int .u8 x1, .int .u8 x2, .int .u8 x3], K.blk b3 25 [.int .i64 kind, .int .i64 base, .int .i64 most, .slice A hs.length c, .slice B rs.length d]]) [.pointer (some ⟨b9, 0, none⟩), .pointer (some ⟨b10, 0, none⟩)] ⟨b9, b10, u, v, u2, v2, rfl, hsc, hsc2, rfl⟩ (fun w h => h) (by kernel_rfl)
    refine K.s_new 12 rfl (K.alloc zr_27) (fun _ h => K.tl h) (by kernel_rfl) rfl ?_
    intro b9
    try dsimp only [setd, setn, ev, nth, over, cl, eI, eP, eT, List.map, List.append, List.drop, List.take]
    refine K.d_loud 5 rfl (K.call_f cal_40 (fun F w hF hw => c40 hx0 hx1 w)) (fun _ h => K.tl (K.tl h)) (by kernel_rfl) rfl ?_
    rintro ⟨u, v⟩ hsc
    try dsimp only [setd, setn, ev, nth, over, cl, eI, eP, eT, List.map, List.append, List.drop, List.take]
    refine K.d_loud 11 rfl (K.call_f cal_40 (fun F w hF hw => c40 hx2 hx3 w)) (fun _ h => K.tl (K.tl h)) (by kernel_rfl) rfl ?_
    rintro ⟨u2, v2⟩ hsc2
    try dsimp only [setd, setn, ev, nth, over, cl, eI, eP, eT, List.map, List.append, List.drop, List.take]
    refine K.d_upd 14 rfl (K.store_all sz_27 rfl rfl rfl rfl (K.rp0)) (fun _ => fun _ h => K.tl (K.tl h)) (by kernel_rfl) rfl ?_
    intro _ _
    try dsimp only [setd, setn, ev, nth, over, cl, eI, eP, eT, List.map, List.append, List.drop, List.take]
    refine K.d_upd 15 rfl (K.store_all sz_27 rfl rfl rfl rfl (K.rp1)) (fun _ => fun _ h => K.tl (K.tl h)) (by kernel_rfl) rfl ?_
    intro _ _
    try dsimp only [setd, setn, ev, nth, over, cl, eI, eP, eT, List.map, List.append, List.drop, List.take]
    refine K.d_done (by kernel_rfl) ?_
    exact K.join_here (L' := [K.blk b9 27 [.int .i64 u, .int .i64 v], K.blk b10 27 [.int .i64 u2, .int .i64 v2], K.blk b4 65 [.int .u8 x0, .int .u8 x1, .int .u8 x2, .int .u8 x3], K.blk b3 25 [.int .i64 kind, .int .i64 base, .int .i64 most, .slice A hs.length c, .slice B rs.length d]]) [.pointer (some ⟨b9, 0, none⟩), .pointer (some ⟨b10, 0, none⟩)] ⟨b9, b10, u, v, u2, v2, rfl, hsc, hsc2, rfl⟩ (fun w h => h) (by kernel_rfl)
  intro vi vr L hJ
  obtain ⟨b9, b10, u, v, u2, v2, rfl, hsc, hsc2, rfl⟩ := hJ
  try dsimp only [setd, setn, ev, nth, over, cl, eI, eP, eT, setM, setF, List.map, List.append, List.drop, List.take]
  refine K.norm_then ?_
  refine K.seq ?_
  have hp1 := scE_parts hsc
  have hp2 := scE_parts hsc2
  refine K.region_lit ?_
  refine K.seq_sil (K.loadA_own ag_25 rfl (K.m3) rfl) rfl ?_
  try dsimp only [setd, setn, ev, nth, over, cl, eI, eP, eT, List.map, List.append, List.drop, List.take]
  refine K.seq_sil (K.loadA_own ag_27 rfl (K.m0) rfl) rfl ?_
  try dsimp only [setd, setn, ev, nth, over, cl, eI, eP, eT, List.map, List.append, List.drop, List.take]
  refine K.seq_pure (K.move) rfl ?_
  dsimp only [setd, setn, ev, nth]
  refine K.seq_loud (K.call_f cal_44 (fun F w hF hw => c44 (u := u) (v := v) (hH.pass hw) (hR.pass hw) g hp1 (hY.pass hw) hyb hyl)) rfl ?_
  rintro ⟨AM, cM, ms⟩ ⟨hms, hm8⟩
  try dsimp only [setd, setn, ev, nth, over, cl, eI, eP, eT, List.map, List.append, List.drop, List.take]
  refine K.seq_pure (K.assign) rfl ?_
  dsimp only [setd, setn, ev, nth]
  refine K.seq_nil ?_
  refine K.norm_then ?_
  refine K.seq ?_
  refine K.use_row K.m0 (fun hAM => ?_)
  have hm8' : ms.length ≤ 8 := hm8
  have hms' : ∀ y ∈ ms, mkOK (cuts kind base u v hs) y := hms
  have hm0 := marks_ok g hms' hm8'
  have hpt := marks_pt hms'
  have hsl := @scalesR_ln kind base most hs rs ms
  refine K.region_lit ?_
  refine K.seq_sil (K.loadA_own ag_25 rfl (K.m4) rfl) rfl ?_
  try dsimp only [setd, setn, ev, nth, over, cl, eI, eP, eT, List.map, List.append, List.drop, List.take]
  refine K.seq_pure (K.move) rfl ?_
  dsimp only [setd, setn, ev, nth]
  refine K.seq_loud (K.call_f cal_31 (fun F w hF hw => c31 (ms := ms) (hH.pass hw) (hR.pass hw) hn hm (K.Rd.own hw (hF _ (K.m0)) hAM (fun _ => rfl) (by decide)) (by omega))) rfl ?_
  rintro ⟨A2, c2⟩ hA2
  try dsimp only [setd, setn, ev, nth, over, cl, eI, eP, eT, List.map, List.append, List.drop, List.take]
  refine K.seq_pure (K.move) rfl ?_
  dsimp only [setd, setn, ev, nth]
  refine K.seq_pure (K.extract rfl rfl) rfl ?_
  dsimp only [setd, setn, ev, nth]
  refine K.seq_pure (K.extract rfl rfl) rfl ?_
  dsimp only [setd, setn, ev, nth]
  refine K.seq_pure (K.assign) rfl ?_
  dsimp only [setd, setn, ev, nth]
  refine K.seq_pure (K.assign) rfl ?_
  dsimp only [setd, setn, ev, nth]
  refine K.seq_nil ?_
  refine K.norm_then ?_
  refine K.seq ?_
  refine K.seq ?_
  refine K.joinW [75] [50, 51, 52, 53, 54, 55, 56, 57, 58, 59, 60, 61, 62, 63, 64, 65, 66, 67, 68, 69, 70, 71, 72, 73, 74] (fun vi L => vi = [.bool false] ∧ L = [K.row (.slice A2 (scalesR kind base most hs rs ms).length c2) 27 2 (scalesR kind base most hs rs ms).length ((scalesR kind base most hs rs ms).flatMap K.eP), K.row (.slice AM ms.length cM) 53 3 ms.length (ms.flatMap K.eT), K.blk b9 27 [.int .i64 u, .int .i64 v], K.blk b10 27 [.int .i64 u2, .int .i64 v2], K.blk b4 65 [.int .u8 x0, .int .u8 x1, .int .u8 x2, .int .u8 x3], K.blk b3 25 [.int .i64 kind, .int .i64 base, .int .i64 most, .slice A hs.length c, .slice B rs.length d]]) ?_ ?_
  · have hq1 : decide ((u, v) ∈ (scalesR kind base most hs rs ms)) = fitB most (cuts kind base u v hs) := by rw [has_sc hm0 (x := (u, v)) hsc, marks_miss hms']; simp
    have hq0 := has_sc hm0 (x := (u2, v2)) hsc2
    refine K.draw_L [] Try_mixed ?_
    refine K.d_pure 0 rfl (K.move) (by kernel_rfl) rfl ?_
    dsimp only [setd, setn, ev, nth]
    refine K.d_pure 1 rfl (K.Pure.eq (K.neq rfl rfl) (show _ = Value.bool false from congrArg Value.bool (decide_eq_false (fun h => h hm0)))) (by kernel_rfl) rfl ?_
    dsimp only [setd, setn, ev, nth]
    refine K.d_pure 2 rfl (K.move) (by kernel_rfl) rfl ?_
    dsimp only [setd, setn, ev, nth]
    refine K.d_pure 3 rfl (K.move) (by kernel_rfl) rfl ?_
    dsimp only [setd, setn, ev, nth]
    refine K.d_mem 4 rfl (K.loadA_own ag_27 rfl (K.m2) rfl) (fun _ h => h) (by kernel_rfl) (by kernel_rfl) rfl ?_
    try dsimp only [setd, setn, ev, nth, over, cl, eI, eP, eT, List.map, List.append, List.drop, List.take]
    refine K.d_mem 6 rfl (K.loadA_own ag_25 rfl (K.m5) rfl) (fun _ h => h) (by kernel_rfl) (by kernel_rfl) rfl ?_
    try dsimp only [setd, setn, ev, nth, over, cl, eI, eP, eT, List.map, List.append, List.drop, List.take]
    refine K.d_mem 7 rfl (K.loadA_own ag_27 rfl (K.m2) rfl) (fun _ h => h) (by kernel_rfl) (by kernel_rfl) rfl ?_
    try dsimp only [setd, setn, ev, nth, over, cl, eI, eP, eT, List.map, List.append, List.drop, List.take]
    refine K.d_call 5 rfl (K.call_g cal_45 (fun F w hF hw => c45 (u := u) (v := v) (K.Rd.own hw (hF _ (K.m0)) hA2 (fun _ => rfl) (by decide)) (by omega))) (fun _ h => h) (by kernel_rfl) rfl ?_
    try dsimp only [setd, setn, ev, nth, over, cl, eI, eP, eT, List.map, List.append, List.drop, List.take]
    refine K.d_call 8 rfl (K.call_g cal_46 (fun F w hF hw => c46 (u := u) (v := v) (hH.pass hw) (hR.pass hw) g hp1)) (fun _ h => h) (by kernel_rfl) rfl ?_
    try dsimp only [setd, setn, ev, nth, over, cl, eI, eP, eT, List.map, List.append, List.drop, List.take]
    refine K.d_pure 9 rfl (K.Pure.eq (K.neq_b ul4 rfl rfl) (show _ = Value.bool false from congrArg Value.bool (decide_eq_false (fun h => h hq1)))) (by kernel_rfl) rfl ?_
    dsimp only [setd, setn, ev, nth]
    refine K.d_pure 10 rfl (K.pick_f rfl) (by kernel_rfl) rfl ?_
    dsimp only [setd, setn, ev, nth]
    refine K.d_pure 11 rfl (K.move) (by kernel_rfl) rfl ?_
    dsimp only [setd, setn, ev, nth]
    refine K.d_pure 12 rfl (K.move) (by kernel_rfl) rfl ?_
    dsimp only [setd, setn, ev, nth]
    refine K.d_mem 13 rfl (K.loadA_own ag_27 rfl (K.m3) rfl) (fun _ h => h) (by kernel_rfl) (by kernel_rfl) rfl ?_
    try dsimp only [setd, setn, ev, nth, over, cl, eI, eP, eT, List.map, List.append, List.drop, List.take]
    refine K.d_mem 15 rfl (K.loadA_own ag_25 rfl (K.m5) rfl) (fun _ h => h) (by kernel_rfl) (by kernel_rfl) rfl ?_
    try dsimp only [setd, setn, ev, nth, over, cl, eI, eP, eT, List.map, List.append, List.drop, List.take]
    refine K.d_mem 16 rfl (K.loadA_own ag_27 rfl (K.m3) rfl) (fun _ h => h) (by kernel_rfl) (by kernel_rfl) rfl ?_
    try dsimp only [setd, setn, ev, nth, over, cl, eI, eP, eT, List.map, List.append, List.drop, List.take]
    refine K.d_call 14 rfl (K.call_g cal_45 (fun F w hF hw => c45 (u := u2) (v := v2) (K.Rd.own hw (hF _ (K.m0)) hA2 (fun _ => rfl) (by decide)) (by omega))) (fun _ h => h) (by kernel_rfl) rfl ?_
    try dsimp only [setd, setn, ev, nth, over, cl, eI, eP, eT, List.map, List.append, List.drop, List.take]
    refine K.d_call 17 rfl (K.call_g cal_46 (fun F w hF hw => c46 (u := u2) (v := v2) (hH.pass hw) (hR.pass hw) g hp2)) (fun _ h => h) (by kernel_rfl) rfl ?_
    try dsimp only [setd, setn, ev, nth, over, cl, eI, eP, eT, List.map, List.append, List.drop, List.take]
    refine K.d_pure 18 rfl (K.move) (by kernel_rfl) rfl ?_
    dsimp only [setd, setn, ev, nth]
    refine K.dsplit 68 rfl (fun hg68 => ?_) (fun hg68 => ?_)
    · try replace hg68 := of_decide_eq_true hg68
      have hq2 : decide ((u2, v2) ∈ (scalesR kind base most hs rs ms)) = !(ms.any (missP (cuts kind base u2 v2 hs))) := by rw [hq0, hg68]; simp
      refine K.d_mem 19 rfl (K.loadA_own ag_25 rfl (K.m5) rfl) (fun _ h => h) (by kernel_rfl) (by kernel_rfl) rfl ?_
      try dsimp only [setd, setn, ev, nth, over, cl, eI, eP, eT, List.map, List.append, List.drop, List.take]
      refine K.d_mem 20 rfl (K.loadA_own ag_27 rfl (K.m3) rfl) (fun _ h => h) (by kernel_rfl) (by kernel_rfl) rfl ?_
      try dsimp only [setd, setn, ev, nth, over, cl, eI, eP, eT, List.map, List.append, List.drop, List.take]
      refine K.d_pure 21 rfl (K.move) (by kernel_rfl) rfl ?_
      dsimp only [setd, setn, ev, nth]
      refine K.d_call 22 rfl (K.call_g cal_47 (fun F w hF hw => c47 (u := u2) (v := v2) (ms := ms) (hH.pass hw) (hR.pass hw) g hp2 (K.Rd.own hw (hF _ (K.m1)) hAM (fun _ => rfl) (by decide)) (by omega) hpt)) (fun _ h => h) (by kernel_rfl) rfl ?_
      try dsimp only [setd, setn, ev, nth, over, cl, eI, eP, eT, List.map, List.append, List.drop, List.take]
      refine K.d_pure 23 rfl (K.pick_t rfl) (by kernel_rfl) rfl ?_
      dsimp only [setd, setn, ev, nth]
      refine K.d_pure 24 rfl (K.Pure.eq (K.neq_b ul4 rfl rfl) (show _ = Value.bool false from congrArg Value.bool (decide_eq_false (fun h => h hq2)))) (by kernel_rfl) rfl ?_
      dsimp only [setd, setn, ev, nth]
      refine K.d_pure 25 rfl (K.pick_f rfl) (by kernel_rfl) rfl ?_
      dsimp only [setd, setn, ev, nth]
      refine K.d_done (by kernel_rfl) ?_
      exact K.join_here (L' := [K.row (.slice A2 (scalesR kind base most hs rs ms).length c2) 27 2 (scalesR kind base most hs rs ms).length ((scalesR kind base most hs rs ms).flatMap K.eP), K.row (.slice AM ms.length cM) 53 3 ms.length (ms.flatMap K.eT), K.blk b9 27 [.int .i64 u, .int .i64 v], K.blk b10 27 [.int .i64 u2, .int .i64 v2], K.blk b4 65 [.int .u8 x0, .int .u8 x1, .int .u8 x2, .int .u8 x3], K.blk b3 25 [.int .i64 kind, .int .i64 base, .int .i64 most, .slice A hs.length c, .slice B rs.length d]]) [.bool false] ⟨rfl, rfl⟩ (fun w h => h) (by kernel_rfl)
    try replace hg68 := of_decide_eq_false hg68
    have hq2 : decide ((u2, v2) ∈ (scalesR kind base most hs rs ms)) = false := by rw [hq0, hg68]; rfl
    refine K.d_skip 19 rfl (by kernel_rfl) rfl ?_
    try dsimp only [setd, setn, ev, nth, over, cl, eI, eP, eT, List.map, List.append, List.drop, List.take]
    refine K.d_skip 20 rfl (by kernel_rfl) rfl ?_
    try dsimp only [setd, setn, ev, nth, over, cl, eI, eP, eT, List.map, List.append, List.drop, List.take]
    refine K.d_skip 21 rfl (by kernel_rfl) rfl ?_
    try dsimp only [setd, setn, ev, nth, over, cl, eI, eP, eT, List.map, List.append, List.drop, List.take]
    refine K.d_skip 22 rfl (by kernel_rfl) rfl ?_
    try dsimp only [setd, setn, ev, nth, over, cl, eI, eP, eT, List.map, List.append, List.drop, List.take]
    refine K.d_pure 23 rfl (K.pick_f rfl) (by kernel_rfl) rfl ?_
    dsimp only [setd, setn, ev, nth]
    refine K.d_pure 24 rfl (K.Pure.eq (K.neq_b ul4 rfl rfl) (show _ = Value.bool false from congrArg Value.bool (decide_eq_false (fun h => h hq2)))) (by kernel_rfl) rfl ?_
    dsimp only [setd, setn, ev, nth]
    refine K.d_pure 25 rfl (K.pick_f rfl) (by kernel_rfl) rfl ?_
    dsimp only [setd, setn, ev, nth]
    refine K.d_done (by kernel_rfl) ?_
    exact K.join_here (L' := [K.row (.slice A2 (scalesR kind base most hs rs ms).length c2) 27 2 (scalesR kind base most hs rs ms).length ((scalesR kind base most hs rs ms).flatMap K.eP), K.row (.slice AM ms.length cM) 53 3 ms.length (ms.flatMap K.eT), K.blk b9 27 [.int .i64 u, .int .i64 v], K.blk b10 27 [.int .i64 u2, .int .i64 v2], K.blk b4 65 [.int .u8 x0, .int .u8 x1, .int .u8 x2, .int .u8 x3], K.blk b3 25 [.int .i64 kind, .int .i64 base, .int .i64 most, .slice A hs.length c, .slice B rs.length d]]) [.bool false] ⟨rfl, rfl⟩ (fun w h => h) (by kernel_rfl)
  intro vi vr L hJ
  obtain ⟨rfl, rfl⟩ := hJ
  try dsimp only [setd, setn, ev, nth, over, cl, eI, eP, eT, setM, setF, List.map, List.append, List.drop, List.take]
  refine K.norm_then ?_
  refine K.cond_false rfl ?_
  refine K.skip ?_
  refine K.norm_then ?_
  refine K.seq ?_
  refine K.seq ?_
  refine K.region_lit ?_
  refine K.seq_pure (K.assign) rfl ?_
  dsimp only [setd, setn, ev, nth]
  refine K.seq_nil ?_
  refine K.norm_then ?_
  refine K.block ?_
  refine K.loopW [14] [6, 76, 77, 78, 79, 80, 81, 82, 83, 84, 85, 86, 87, 88, 89, 90, 91, 92, 93, 94, 95, 96, 97, 98, 99, 100, 101, 102, 103, 104, 105, 106, 107, 108, 109, 110, 111, 112, 113, 114, 115, 116, 117, 118, 119, 120, 121, 122, 123] (fun vi L => ∃ j : Nat, vi = [.int .i64 (j : Int)] ∧ L = [K.row (.slice A2 (scalesR kind base most hs rs ms).length c2) 27 2 (scalesR kind base most hs rs ms).length ((scalesR kind base most hs rs ms).flatMap K.eP), K.row (.slice AM ms.length cM) 53 3 ms.length (ms.flatMap K.eT), K.blk b9 27 [.int .i64 u, .int .i64 v], K.blk b10 27 [.int .i64 u2, .int .i64 v2], K.blk b4 65 [.int .u8 x0, .int .u8 x1, .int .u8 x2, .int .u8 x3], K.blk b3 25 [.int .i64 kind, .int .i64 base, .int .i64 most, .slice A hs.length c, .slice B rs.length d]] ∧ j ≤ (scalesR kind base most hs rs ms).length) (fun vi => (scalesR kind base most hs rs ms).length - (intOf (K.nth vi 0)).toNat) ?_ ?_
  · exact ⟨0, rfl, rfl, Nat.zero_le _⟩
  intro vi vr L hJ
  obtain ⟨j, rfl, rfl, hjn⟩ := hJ
  try dsimp only [setd, setn, ev, nth, over, cl, eI, eP, eT, setM, setF, List.map, List.append, List.drop, List.take]
  refine K.seq ?_
  refine K.seq ?_
  refine K.region_lit ?_
  refine K.seq_pure (K.move) rfl ?_
  dsimp only [setd, setn, ev, nth]
  refine K.seq_pure (K.move) rfl ?_
  dsimp only [setd, setn, ev, nth]
  refine K.seq_pure (K.len_sl sl_42 rfl) rfl ?_
  dsimp only [setd, setn, ev, nth]
  refine K.seq_pure (K.lss rfl rfl) rfl ?_
  dsimp only [setd, setn, ev, nth]
  refine K.seq_nil ?_
  refine K.norm_then ?_
  refine K.cond rfl (fun ht79 => ?_) (fun ht79 => ?_)
  · try replace ht79 := of_decide_eq_true ht79
    have hj : j < (scalesR kind base most hs rs ms).length := by omega
    obtain ⟨hs1, hs2, hs3⟩ := sc_at hm0 hj
    have hpx := scE_parts hs1
    refine K.skip ?_
    refine K.norm_then ?_
    refine K.seq ?_
    refine K.block ?_
    refine K.seq ?_
    refine K.joinW [123] [82, 83, 84, 85, 86, 87, 88, 89, 90, 91, 92, 93, 94, 95, 96, 97, 98, 99, 100, 101, 102, 103, 104, 105, 106, 107, 108, 109, 110, 111, 112, 113, 114, 115, 116, 117, 118, 119, 120, 121, 122] (fun vi L => vi = [.bool false] ∧ L = [K.row (.slice A2 (scalesR kind base most hs rs ms).length c2) 27 2 (scalesR kind base most hs rs ms).length ((scalesR kind base most hs rs ms).flatMap K.eP), K.row (.slice AM ms.length cM) 53 3 ms.length (ms.flatMap K.eT), K.blk b9 27 [.int .i64 u, .int .i64 v], K.blk b10 27 [.int .i64 u2, .int .i64 v2], K.blk b4 65 [.int .u8 x0, .int .u8 x1, .int .u8 x2, .int .u8 x3], K.blk b3 25 [.int .i64 kind, .int .i64 base, .int .i64 most, .slice A hs.length c, .slice B rs.length d]]) ?_ ?_
    · refine K.draw_L [] Try_mixed ?_
      refine K.d_pure 0 rfl (K.move) (by kernel_rfl) rfl ?_
      dsimp only [setd, setn, ev, nth]
      refine K.d_pure 1 rfl (K.move) (by kernel_rfl) rfl ?_
      dsimp only [setd, setn, ev, nth]
      refine K.d_ix (M := [_]) 2 _ rfl (K.Sl.own (t := 27) (c := c2) (size := 2) (e := K.eP) hA2 (fun _ => rfl)) sl_42 rfl rfl rfl (by omega) (by kernel_rfl) rfl ?_
      intro p84 hp84
      try dsimp only [setd, setn, ev, nth, over, cl, eI, eP, eT, List.map, List.append, List.drop, List.take]
      refine K.d_mem 3 rfl (K.loadA_p ag_27 rfl (hp84.at1 (K.m0)) rfl) (fun _ h => h) (by kernel_rfl) (by kernel_rfl) rfl ?_
      try dsimp only [setd, setn, ev, nth, over, cl, eI, eP, eT, List.map, List.append, List.drop, List.take]
      refine K.d_call 4 rfl (K.call_g cal_48 (fun F w hF hw => c48 w)) (fun _ h => h) (by kernel_rfl) rfl ?_
      try dsimp only [setd, setn, ev, nth, over, cl, eI, eP, eT, List.map, List.append, List.drop, List.take]
      refine K.d_pure 5 rfl (K.Pure.eq (K.neq rfl rfl) (show _ = Value.bool false from congrArg Value.bool (decide_eq_false (fun h => h hs1)))) (by kernel_rfl) rfl ?_
      dsimp only [setd, setn, ev, nth]
      refine K.d_pure 6 rfl (K.move) (by kernel_rfl) rfl ?_
      dsimp only [setd, setn, ev, nth]
      refine K.d_mem 7 rfl (K.loadA_own ag_25 rfl (K.m5) rfl) (fun _ h => h) (by kernel_rfl) (by kernel_rfl) rfl ?_
      try dsimp only [setd, setn, ev, nth, over, cl, eI, eP, eT, List.map, List.append, List.drop, List.take]
      refine K.d_pure 8 rfl (K.move) (by kernel_rfl) rfl ?_
      dsimp only [setd, setn, ev, nth]
      refine K.d_pure 9 rfl (K.move) (by kernel_rfl) rfl ?_
      dsimp only [setd, setn, ev, nth]
      refine K.d_ix (M := [_]) 10 _ rfl (K.Sl.own (t := 27) (c := c2) (size := 2) (e := K.eP) hA2 (fun _ => rfl)) sl_42 rfl rfl rfl (by omega) (by kernel_rfl) rfl ?_
      intro p92 hp92
      try dsimp only [setd, setn, ev, nth, over, cl, eI, eP, eT, List.map, List.append, List.drop, List.take]
      refine K.d_mem 11 rfl (K.loadA_p ag_27 rfl (hp92.at1 (K.m0)) rfl) (fun _ h => h) (by kernel_rfl) (by kernel_rfl) rfl ?_
      try dsimp only [setd, setn, ev, nth, over, cl, eI, eP, eT, List.map, List.append, List.drop, List.take]
      refine K.d_call 12 rfl (K.call_g cal_46 (fun F w hF hw => c46 (u := ((scalesR kind base most hs rs ms).getD j default).1) (v := ((scalesR kind base most hs rs ms).getD j default).2) (hH.pass hw) (hR.pass hw) g hpx)) (fun _ h => h) (by kernel_rfl) rfl ?_
      try dsimp only [setd, setn, ev, nth, over, cl, eI, eP, eT, List.map, List.append, List.drop, List.take]
      refine K.d_pure 13 rfl (K.Pure.eq (K.not_ rfl) (show _ = Value.bool false from congrArg Value.bool (not_f hs2))) (by kernel_rfl) rfl ?_
      dsimp only [setd, setn, ev, nth]
      refine K.d_pure 14 rfl (K.pick_f rfl) (by kernel_rfl) rfl ?_
      dsimp only [setd, setn, ev, nth]
      refine K.d_pure 15 rfl (K.move) (by kernel_rfl) rfl ?_
      dsimp only [setd, setn, ev, nth]
      refine K.d_mem 16 rfl (K.loadA_own ag_25 rfl (K.m5) rfl) (fun _ h => h) (by kernel_rfl) (by kernel_rfl) rfl ?_
      try dsimp only [setd, setn, ev, nth, over, cl, eI, eP, eT, List.map, List.append, List.drop, List.take]
      refine K.d_pure 17 rfl (K.move) (by kernel_rfl) rfl ?_
      dsimp only [setd, setn, ev, nth]
      refine K.d_pure 18 rfl (K.move) (by kernel_rfl) rfl ?_
      dsimp only [setd, setn, ev, nth]
      refine K.d_ix (M := [_]) 19 _ rfl (K.Sl.own (t := 27) (c := c2) (size := 2) (e := K.eP) hA2 (fun _ => rfl)) sl_42 rfl rfl rfl (by omega) (by kernel_rfl) rfl ?_
      intro p101 hp101
      try dsimp only [setd, setn, ev, nth, over, cl, eI, eP, eT, List.map, List.append, List.drop, List.take]
      refine K.d_mem 20 rfl (K.loadA_p ag_27 rfl (hp101.at1 (K.m0)) rfl) (fun _ h => h) (by kernel_rfl) (by kernel_rfl) rfl ?_
      try dsimp only [setd, setn, ev, nth, over, cl, eI, eP, eT, List.map, List.append, List.drop, List.take]
      refine K.d_pure 21 rfl (K.move) (by kernel_rfl) rfl ?_
      dsimp only [setd, setn, ev, nth]
      refine K.d_call 22 rfl (K.call_g cal_47 (fun F w hF hw => c47 (u := ((scalesR kind base most hs rs ms).getD j default).1) (v := ((scalesR kind base most hs rs ms).getD j default).2) (ms := ms) (hH.pass hw) (hR.pass hw) g hpx (K.Rd.own hw (hF _ (K.m1)) hAM (fun _ => rfl) (by decide)) (by omega) hpt)) (fun _ h => h) (by kernel_rfl) rfl ?_
      try dsimp only [setd, setn, ev, nth, over, cl, eI, eP, eT, List.map, List.append, List.drop, List.take]
      refine K.d_pure 23 rfl (K.Pure.eq (K.not_ rfl) (show _ = Value.bool false from congrArg Value.bool (by rw [hs3]; rfl))) (by kernel_rfl) rfl ?_
      dsimp only [setd, setn, ev, nth]
      refine K.d_pure 24 rfl (K.pick_f rfl) (by kernel_rfl) rfl ?_
      dsimp only [setd, setn, ev, nth]
      refine K.d_pure 25 rfl (K.move) (by kernel_rfl) rfl ?_
      dsimp only [setd, setn, ev, nth]
      refine K.d_pure 26 rfl (K.move) (by kernel_rfl) rfl ?_
      dsimp only [setd, setn, ev, nth]
      refine K.d_pure 27 rfl (K.gtr rfl rfl) (by kernel_rfl) rfl ?_
      dsimp only [setd, setn, ev, nth]
      refine K.d_pure 28 rfl (K.move) (by kernel_rfl) rfl ?_
      dsimp only [setd, setn, ev, nth]
      refine K.dsplit 110 rfl (fun hg110 => ?_) (fun hg110 => ?_)
      · try replace hg110 := of_decide_eq_true hg110
        have hj0 : j - 1 + 1 = j := by omega
        have hlt := sc_lt hm0 (j := j - 1) (by omega)
        rw [hj0] at hlt
        have hps := scE_parts (sc_at hm0 (j := j - 1) (by omega)).1
        refine K.d_pure 29 rfl (K.move) (by kernel_rfl) rfl ?_
        dsimp only [setd, setn, ev, nth]
        refine K.d_pure 30 rfl (K.move) (by kernel_rfl) rfl ?_
        dsimp only [setd, setn, ev, nth]
        refine K.d_pure 31 rfl (K.sub_i64 rfl rfl (by omega)) (by kernel_rfl) rfl ?_
        dsimp only [setd, setn, ev, nth]
        refine K.d_ix (M := [_]) 32 (j - 1) rfl (K.Sl.own (t := 27) (c := c2) (size := 2) (e := K.eP) hA2 (fun _ => rfl)) sl_42 rfl rfl (by omega) (by omega) (by kernel_rfl) rfl ?_
        intro p114 hp114
        try dsimp only [setd, setn, ev, nth, over, cl, eI, eP, eT, List.map, List.append, List.drop, List.take]
        refine K.d_mem 33 rfl (K.loadA_p ag_27 rfl (hp114.at1 (K.m0)) rfl) (fun _ h => h) (by kernel_rfl) (by kernel_rfl) rfl ?_
        try dsimp only [setd, setn, ev, nth, over, cl, eI, eP, eT, List.map, List.append, List.drop, List.take]
        refine K.d_pure 34 rfl (K.move) (by kernel_rfl) rfl ?_
        dsimp only [setd, setn, ev, nth]
        refine K.d_pure 35 rfl (K.move) (by kernel_rfl) rfl ?_
        dsimp only [setd, setn, ev, nth]
        refine K.d_ix (M := [_]) 36 _ rfl (K.Sl.own (t := 27) (c := c2) (size := 2) (e := K.eP) hA2 (fun _ => rfl)) sl_42 rfl rfl rfl (by omega) (by kernel_rfl) rfl ?_
        intro p118 hp118
        try dsimp only [setd, setn, ev, nth, over, cl, eI, eP, eT, List.map, List.append, List.drop, List.take]
        refine K.d_mem 37 rfl (K.loadA_p ag_27 rfl (hp118.at1 (K.m0)) rfl) (fun _ h => h) (by kernel_rfl) (by kernel_rfl) rfl ?_
        try dsimp only [setd, setn, ev, nth, over, cl, eI, eP, eT, List.map, List.append, List.drop, List.take]
        refine K.d_call 38 rfl (K.call_g cal_43 (fun F w hF hw => c43 (a := ((scalesR kind base most hs rs ms).getD (j - 1) default).1) (b := ((scalesR kind base most hs rs ms).getD (j - 1) default).2) (c := ((scalesR kind base most hs rs ms).getD j default).1) (d := ((scalesR kind base most hs rs ms).getD j default).2) (by omega) (by omega) (by omega) (by omega) (by omega) (by omega) (by omega) (by omega) w)) (fun _ h => h) (by kernel_rfl) rfl ?_
        try dsimp only [setd, setn, ev, nth, over, cl, eI, eP, eT, List.map, List.append, List.drop, List.take]
        refine K.d_pure 39 rfl (K.Pure.eq (K.not_d rfl) (show _ = Value.bool false from congrArg Value.bool (decide_eq_false (fun h => h hlt)))) (by kernel_rfl) rfl ?_
        dsimp only [setd, setn, ev, nth]
        refine K.d_pure 40 rfl (K.pick_t rfl) (by kernel_rfl) rfl ?_
        dsimp only [setd, setn, ev, nth]
        refine K.d_pure 41 rfl (K.pick_f rfl) (by kernel_rfl) rfl ?_
        dsimp only [setd, setn, ev, nth]
        refine K.d_done (by kernel_rfl) ?_
        exact K.join_here (L' := [K.row (.slice A2 (scalesR kind base most hs rs ms).length c2) 27 2 (scalesR kind base most hs rs ms).length ((scalesR kind base most hs rs ms).flatMap K.eP), K.row (.slice AM ms.length cM) 53 3 ms.length (ms.flatMap K.eT), K.blk b9 27 [.int .i64 u, .int .i64 v], K.blk b10 27 [.int .i64 u2, .int .i64 v2], K.blk b4 65 [.int .u8 x0, .int .u8 x1, .int .u8 x2, .int .u8 x3], K.blk b3 25 [.int .i64 kind, .int .i64 base, .int .i64 most, .slice A hs.length c, .slice B rs.length d]]) [.bool false] ⟨rfl, rfl⟩ (fun w h => h) (by kernel_rfl)
      try replace hg110 := of_decide_eq_false hg110
      refine K.d_skip 29 rfl (by kernel_rfl) rfl ?_
      try dsimp only [setd, setn, ev, nth, over, cl, eI, eP, eT, List.map, List.append, List.drop, List.take]
      refine K.d_skip 30 rfl (by kernel_rfl) rfl ?_
      try dsimp only [setd, setn, ev, nth, over, cl, eI, eP, eT, List.map, List.append, List.drop, List.take]
      refine K.d_skip 31 rfl (by kernel_rfl) rfl ?_
      try dsimp only [setd, setn, ev, nth, over, cl, eI, eP, eT, List.map, List.append, List.drop, List.take]
      refine K.d_skip 32 rfl (by kernel_rfl) rfl ?_
      try dsimp only [setd, setn, ev, nth, over, cl, eI, eP, eT, List.map, List.append, List.drop, List.take]
      refine K.d_skip 33 rfl (by kernel_rfl) rfl ?_
      try dsimp only [setd, setn, ev, nth, over, cl, eI, eP, eT, List.map, List.append, List.drop, List.take]
      refine K.d_skip 34 rfl (by kernel_rfl) rfl ?_
      try dsimp only [setd, setn, ev, nth, over, cl, eI, eP, eT, List.map, List.append, List.drop, List.take]
      refine K.d_skip 35 rfl (by kernel_rfl) rfl ?_
      try dsimp only [setd, setn, ev, nth, over, cl, eI, eP, eT, List.map, List.append, List.drop, List.take]
      refine K.d_skip 36 rfl (by kernel_rfl) rfl ?_
      try dsimp only [setd, setn, ev, nth, over, cl, eI, eP, eT, List.map, List.append, List.drop, List.take]
      refine K.d_skip 37 rfl (by kernel_rfl) rfl ?_
      try dsimp only [setd, setn, ev, nth, over, cl, eI, eP, eT, List.map, List.append, List.drop, List.take]
      refine K.d_skip 38 rfl (by kernel_rfl) rfl ?_
      try dsimp only [setd, setn, ev, nth, over, cl, eI, eP, eT, List.map, List.append, List.drop, List.take]
      refine K.d_skip 39 rfl (by kernel_rfl) rfl ?_
      try dsimp only [setd, setn, ev, nth, over, cl, eI, eP, eT, List.map, List.append, List.drop, List.take]
      refine K.d_pure 40 rfl (K.pick_f rfl) (by kernel_rfl) rfl ?_
      dsimp only [setd, setn, ev, nth]
      refine K.d_pure 41 rfl (K.pick_f rfl) (by kernel_rfl) rfl ?_
      dsimp only [setd, setn, ev, nth]
      refine K.d_done (by kernel_rfl) ?_
      exact K.join_here (L' := [K.row (.slice A2 (scalesR kind base most hs rs ms).length c2) 27 2 (scalesR kind base most hs rs ms).length ((scalesR kind base most hs rs ms).flatMap K.eP), K.row (.slice AM ms.length cM) 53 3 ms.length (ms.flatMap K.eT), K.blk b9 27 [.int .i64 u, .int .i64 v], K.blk b10 27 [.int .i64 u2, .int .i64 v2], K.blk b4 65 [.int .u8 x0, .int .u8 x1, .int .u8 x2, .int .u8 x3], K.blk b3 25 [.int .i64 kind, .int .i64 base, .int .i64 most, .slice A hs.length c, .slice B rs.length d]]) [.bool false] ⟨rfl, rfl⟩ (fun w h => h) (by kernel_rfl)
    intro vi vr L hJ
    obtain ⟨rfl, rfl⟩ := hJ
    try dsimp only [setd, setn, ev, nth, over, cl, eI, eP, eT, setM, setF, List.map, List.append, List.drop, List.take]
    refine K.norm_then ?_
    refine K.cond_false rfl ?_
    refine K.skip ?_
    refine K.norm_block ?_
    refine K.norm_then ?_
    refine K.region_lit ?_
    refine K.seq_pure (K.move) rfl ?_
    dsimp only [setd, setn, ev, nth]
    refine K.seq_pure (K.add_i64 rfl rfl (by omega)) rfl ?_
    dsimp only [setd, setn, ev, nth]
    refine K.seq_pure (K.assign) rfl ?_
    dsimp only [setd, setn, ev, nth]
    refine K.seq_nil ?_
    exact K.round_endW (L'' := [K.row (.slice A2 (scalesR kind base most hs rs ms).length c2) 27 2 (scalesR kind base most hs rs ms).length ((scalesR kind base most hs rs ms).flatMap K.eP), K.row (.slice AM ms.length cM) 53 3 ms.length (ms.flatMap K.eT), K.blk b9 27 [.int .i64 u, .int .i64 v], K.blk b10 27 [.int .i64 u2, .int .i64 v2], K.blk b4 65 [.int .u8 x0, .int .u8 x1, .int .u8 x2, .int .u8 x3], K.blk b3 25 [.int .i64 kind, .int .i64 base, .int .i64 most, .slice A hs.length c, .slice B rs.length d]]) [.int .i64 ((j : Int) + 1)] ⟨j + 1, rfl, rfl, by omega⟩ (by simp [K.nth, intOf]; omega) (by (repeat (first | exact List.Sublist.refl _ | apply List.Sublist.cons)); done) (by kernel_rfl)
  try replace ht79 := of_decide_eq_false ht79
  refine K.exit ?_
  refine K.exit_then ?_
  refine K.exit_then ?_
  refine K.exit_here ?_
  refine K.norm_then ?_
  refine K.seq ?_
  refine K.region_lit ?_
  refine K.seq_call (K.call_g cal_26 (fun F w hF hw => c26 w)) rfl ?_
  try dsimp only [setd, setn, ev, nth, over, cl, eI, eP, eT, List.map, List.append, List.drop, List.take]
  refine K.seq_pure (K.assign) rfl ?_
  dsimp only [setd, setn, ev, nth]
  refine K.seq_nil ?_
  refine K.norm_then ?_
  refine K.ret ?_
  refine K.end_ret (fun w _ => K.res_tmp rfl w) ?_
  exact K.gives rfl

end Go.Proofs.Ytafkbioeoklldaa
