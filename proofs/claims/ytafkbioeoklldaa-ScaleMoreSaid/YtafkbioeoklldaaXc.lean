/-
  Walks of the program's functions, printed by program: what each returns.
  Conditions stand in each theorem.
-/
import Derived.Test.YtafkbioeoklldaaKf
import Derived.Test.YtafkbioeoklldaaK2
import Derived.WalkArith
import Derived.Test.YtafkbioeoklldaaK4
import Derived.Test.YtafkbioeoklldaaS4
import Derived.Test.YtafkbioeoklldaaWy
import Derived.Test.YtafkbioeoklldaaWp
import Derived.Test.YtafkbioeoklldaaWs
set_option linter.unusedSimpArgs false
set_option linter.unusedVariables false
namespace Go.Proofs.Ytafkbioeoklldaa
open Go.RowKit Go
open Go.K (setd setn ev nth over cl eI eP eT setM setF)
attribute [local irreducible] K.blk K.row
theorem bl56 (a b : Int) : K.Bl Try.prog 56 [(0, .int .u8 a), (1, .int .u8 b)] (.agg #[.int .u8 a, .int .u8 b]) := fun w => by kernel_rfl

set_option maxRecDepth 100000 in
set_option maxHeartbeats 4000000 in
theorem c12 {kind base most : Int} {A B : Option Addr} {c d : Nat} {hs : List Int} {rs : List (Int × Int)} {x0 x1 x2 x3 : Int} {w : World} (hH : K.Rd w A 1 K.eI hs) (hR : K.Rd w B 2 K.eP rs) (hn : hs.length ≤ 4611686018427387904) (hm : rs.length ≤ 4611686018427387904) (hx0 : 0 ≤ x0 ∧ x0 ≤ 255) (hx1 : 0 ≤ x1 ∧ x1 ≤ 255) (hx2 : 0 ≤ x2 ∧ x2 ≤ 255) (hx3 : 0 ≤ x3 ∧ x3 ≤ 255) :
    Calls Try.prog 12 [.agg #[.int .i64 kind, .int .i64 base, .int .i64 most, .slice A hs.length c, .slice B rs.length d], .agg #[.int .u8 x0, .int .u8 x1, .int .u8 x2, .int .u8 x3]].toArray w (K.Gives (.bool true) w) := by
  refine K.enter (args := [.agg #[.int .i64 kind, .int .i64 base, .int .i64 most, .slice A hs.length c, .slice B rs.length d], .agg #[.int .u8 x0, .int .u8 x1, .int .u8 x2, .int .u8 x3]]) Try.func12 rfl (n := 210) rfl ?_
  simp only [List.replicate, List.cons_append, List.nil_append]
  refine K.seq ?_
  refine K.region_lit ?_
  refine K.seq_new (K.box) rfl ?_
  intro b2
  try dsimp only [setd, setn, ev, nth, over, cl, eI, eP, eT, List.map, List.append, List.drop, List.take]
  refine K.seq_new (K.box) rfl ?_
  intro b3
  try dsimp only [setd, setn, ev, nth, over, cl, eI, eP, eT, List.map, List.append, List.drop, List.take]
  refine K.seq_pure (K.assign) rfl ?_
  dsimp only [setd, setn, ev, nth]
  refine K.seq_nil ?_
  refine K.norm_then ?_
  refine K.seq ?_
  refine K.seq ?_
  refine K.region_lit ?_
  refine K.seq_sil (K.loadA_own ag_25 rfl (K.m1) rfl) rfl ?_
  try dsimp only [setd, setn, ev, nth, over, cl, eI, eP, eT, List.map, List.append, List.drop, List.take]
  refine K.seq_call (K.call_g cal_39 (fun F w hF hw => c39 (hH.pass hw) (hR.pass hw) hn hm)) rfl ?_
  try dsimp only [setd, setn, ev, nth, over, cl, eI, eP, eT, List.map, List.append, List.drop, List.take]
  refine K.seq_pure (K.not_d rfl) rfl ?_
  dsimp only [setd, setn, ev, nth]
  refine K.seq_nil ?_
  refine K.norm_then ?_
  refine K.cond rfl (fun ht25 => ?_) (fun ht25 => ?_)
  · try replace ht25 := of_decide_eq_true ht25
    refine K.seq ?_
    refine K.region_lit ?_
    refine K.seq_call (K.call_g cal_26 (fun F w hF hw => c26 w)) rfl ?_
    try dsimp only [setd, setn, ev, nth, over, cl, eI, eP, eT, List.map, List.append, List.drop, List.take]
    refine K.seq_pure (K.assign) rfl ?_
    dsimp only [setd, setn, ev, nth]
    refine K.seq_nil ?_
    refine K.norm_then ?_
    refine K.ret ?_
    refine K.ret_then ?_
    refine K.end_ret (fun w _ => K.res_tmp rfl w) ?_
    exact K.gives rfl
  try replace ht25 := of_decide_eq_false ht25
  have hc0 : (chk kind base most hs rs).2.2 = 0 := Decidable.not_not.1 ht25
  have g := chk_good hc0
  have g1 := g.k
  have g2 := g.n
  have g3 := g.r
  have g4 := g.b
  have g5 := g.m
  refine K.skip ?_
  refine K.norm_then ?_
  refine K.seq ?_
  refine K.joinW [5, 6] [27, 28, 29, 30, 31, 32, 33, 34, 35, 36, 37, 38] (fun vi L => ∃ (b5 b6 : Nat) (u v u2 v2 : Int), vi = [.pointer (some ⟨b5, 0, none⟩), .pointer (some ⟨b6, 0, none⟩)] ∧ scE u v = 0 ∧ scE u2 v2 = 0 ∧ L = [K.blk b5 27 [.int .i64 u, .int .i64 v], K.blk b6 27 [.int .i64 u2, .int .i64 v2], K.blk b3 65 [.int .u8 x0, .int .u8 x1, .int .u8 x2, .int .u8 x3], K.blk b2 25 [.int .i64 kind, .int .i64 base, .int .i64 most, .slice A hs.length c, .slice B rs.length d]]) ?_ ?_
  · refine K.draw_L [] Try_mixed ?_
    refine K.d_pure 0 rfl (K.indexAddr_ar ar_65 rfl rfl (by omega) (by omega)) (by kernel_rfl) rfl ?_
    try dsimp only [setd, setn, ev, nth, over, cl, eI, eP, eT, List.map, List.append, List.drop, List.take]
    refine K.d_mem 1 rfl (K.load1_own one_5 rfl (K.m0) rfl) (fun _ h => h) (by kernel_rfl) (by kernel_rfl) rfl ?_
    try dsimp only [setd, setn, ev, nth, over, cl, eI, eP, eT, List.map, List.append, List.drop, List.take]
    refine K.d_pure 2 rfl (K.indexAddr_ar ar_65 rfl rfl (by omega) (by omega)) (by kernel_rfl) rfl ?_
    try dsimp only [setd, setn, ev, nth, over, cl, eI, eP, eT, List.map, List.append, List.drop, List.take]
    refine K.d_mem 3 rfl (K.load1_own one_5 rfl (K.m0) rfl) (fun _ h => h) (by kernel_rfl) (by kernel_rfl) rfl ?_
    try dsimp only [setd, setn, ev, nth, over, cl, eI, eP, eT, List.map, List.append, List.drop, List.take]
    refine K.d_pure 4 rfl (K.build (bl56 _ _)) (by kernel_rfl) rfl ?_
    try dsimp only [setd, setn, ev, nth, over, cl, eI, eP, eT, List.map, List.append, List.drop, List.take]
    refine K.d_pure 6 rfl (K.indexAddr_ar ar_65 rfl rfl (by omega) (by omega)) (by kernel_rfl) rfl ?_
    try dsimp only [setd, setn, ev, nth, over, cl, eI, eP, eT, List.map, List.append, List.drop, List.take]
    refine K.d_mem 7 rfl (K.load1_own one_5 rfl (K.m0) rfl) (fun _ h => h) (by kernel_rfl) (by kernel_rfl) rfl ?_
    try dsimp only [setd, setn, ev, nth, over, cl, eI, eP, eT, List.map, List.append, List.drop, List.take]
    refine K.d_pure 8 rfl (K.indexAddr_ar ar_65 rfl rfl (by omega) (by omega)) (by kernel_rfl) rfl ?_
    try dsimp only [setd, setn, ev, nth, over, cl, eI, eP, eT, List.map, List.append, List.drop, List.take]
    refine K.d_mem 9 rfl (K.load1_own one_5 rfl (K.m0) rfl) (fun _ h => h) (by kernel_rfl) (by kernel_rfl) rfl ?_
    try dsimp only [setd, setn, ev, nth, over, cl, eI, eP, eT, List.map, List.append, List.drop, List.take]
    refine K.d_pure 10 rfl (K.build (bl56 _ _)) (by kernel_rfl) rfl ?_
    try dsimp only [setd, setn, ev, nth, over, cl, eI, eP, eT, List.map, List.append, List.drop, List.take]
    refine K.d_three 5 12 13 (by kernel_rfl) ?_ ?_ ?_
    · refine K.s_loud 5 rfl (K.call_f cal_40 (fun F w hF hw => c40 hx0 hx1 w)) (fun _ h => h) (by kernel_rfl) rfl ?_
      rintro ⟨u, v⟩ hsc
      try dsimp only [setd, setn, ev, nth, over, cl, eI, eP, eT, List.map, List.append, List.drop, List.take]
      refine K.d_three 11 12 13 (by kernel_rfl) ?_ ?_ ?_
      · refine K.s_loud 11 rfl (K.call_f cal_40 (fun F w hF hw => c40 hx2 hx3 w)) (fun _ h => h) (by kernel_rfl) rfl ?_
        rintro ⟨u2, v2⟩ hsc2
        try dsimp only [setd, setn, ev, nth, over, cl, eI, eP, eT, List.map, List.append, List.drop, List.take]
        refine K.d_two 12 13 (by kernel_rfl) ?_ ?_
        · refine K.s_new 12 rfl (K.alloc zr_27) (fun _ h => h) (by kernel_rfl) rfl ?_
          intro b5
          try dsimp only [setd, setn, ev, nth, over, cl, eI, eP, eT, List.map, List.append, List.drop, List.take]
          refine K.d_new 13 rfl (K.alloc zr_27) (fun _ h => K.tl h) (by kernel_rfl) rfl ?_
          intro b6
          try dsimp only [setd, setn, ev, nth, over, cl, eI, eP, eT, List.map, List.append, List.drop, List.take]
          refine K.d_upd 14 rfl (K.store_all sz_27 rfl rfl rfl rfl (K.rp1)) (fun _ => fun _ h => K.tl (K.tl h)) (by kernel_rfl) rfl ?_
          intro _ _
          try dsimp only [setd, setn, ev, nth, over, cl, eI, eP, eT, List.map, List.append, List.drop, List.take]
          refine K.d_upd 15 rfl (K.store_all sz_27 rfl rfl rfl rfl (K.rp0)) (fun _ => fun _ h => K.tl (K.tl h)) (by kernel_rfl) rfl ?_
          intro _ _
          try dsimp only [setd, setn, ev, nth, over, cl, eI, eP, eT, List.map, List.append, List.drop, List.take]
          refine K.d_done (by kernel_rfl) ?_
          exact K.join_here (L' := [K.blk b5 27 [.int .i64 u, .int .i64 v], K.blk b6 27 [.int .i64 u2, .int .i64 v2], K.blk b3 65 [.int .u8 x0, .int .u8 x1, .int .u8 x2, .int .u8 x3], K.blk b2 25 [.int .i64 kind, .int .i64 base, .int .i64 most, .slice A hs.length c, .slice B rs.length d]]) [.pointer (some ⟨b5, 0, none⟩), .pointer (some ⟨b6, 0, none⟩)] ⟨b5, b6, u, v, u2, v2, rfl, hsc, hsc2, rfl⟩ (fun w h => (K.st_swap w h)) (by kernel_rfl)
        refine K.s_new 13 rfl (K.alloc zr_27) (fun _ h => h) (by kernel_rfl) rfl ?_
        intro b6
        try dsimp only [setd, setn, ev, nth, over, cl, eI, eP, eT, List.map, List.append, List.drop, List.take]
        refine K.d_new 12 rfl (K.alloc zr_27) (fun _ h => K.tl h) (by kernel_rfl) rfl ?_
        intro b5
        try dsimp only [setd, setn, ev, nth, over, cl, eI, eP, eT, List.map, List.append, List.drop, List.take]
        refine K.d_upd 14 rfl (K.store_all sz_27 rfl rfl rfl rfl (K.rp0)) (fun _ => fun _ h => K.tl (K.tl h)) (by kernel_rfl) rfl ?_
        intro _ _
        try dsimp only [setd, setn, ev, nth, over, cl, eI, eP, eT, List.map, List.append, List.drop, List.take]
        refine K.d_upd 15 rfl (K.store_all sz_27 rfl rfl rfl rfl (K.rp1)) (fun _ => fun _ h => K.tl (K.tl h)) (by kernel_rfl) rfl ?_
        intro _ _
        try dsimp only [setd, setn, ev, nth, over, cl, eI, eP, eT, List.map, List.append, List.drop, List.take]
        refine K.d_done (by kernel_rfl) ?_
        exact K.join_here (L' := [K.blk b5 27 [.int .i64 u, .int .i64 v], K.blk b6 27 [.int .i64 u2, .int .i64 v2], K.blk b3 65 [.int .u8 x0, .int .u8 x1, .int .u8 x2, .int .u8 x3], K.blk b2 25 [.int .i64 kind, .int .i64 base, .int .i64 most, .slice A hs.length c, .slice B rs.length d]]) [.pointer (some ⟨b5, 0, none⟩), .pointer (some ⟨b6, 0, none⟩)] ⟨b5, b6, u, v, u2, v2, rfl, hsc, hsc2, rfl⟩ (fun w h => h) (by kernel_rfl)
      · refine K.s_new 12 rfl (K.alloc zr_27) (fun _ h => h) (by kernel_rfl) rfl ?_
        intro b5
        try dsimp only [setd, setn, ev, nth, over, cl, eI, eP, eT, List.map, List.append, List.drop, List.take]
        refine K.d_two 11 13 (by kernel_rfl) ?_ ?_
        · refine K.s_loud 11 rfl (K.call_f cal_40 (fun F w hF hw => c40 hx2 hx3 w)) (fun _ h => K.tl h) (by kernel_rfl) rfl ?_
          rintro ⟨u2, v2⟩ hsc2
          try dsimp only [setd, setn, ev, nth, over, cl, eI, eP, eT, List.map, List.append, List.drop, List.take]
          refine K.d_new 13 rfl (K.alloc zr_27) (fun _ h => K.tl h) (by kernel_rfl) rfl ?_
          intro b6
          try dsimp only [setd, setn, ev, nth, over, cl, eI, eP, eT, List.map, List.append, List.drop, List.take]
          refine K.d_upd 14 rfl (K.store_all sz_27 rfl rfl rfl rfl (K.rp1)) (fun _ => fun _ h => K.tl (K.tl h)) (by kernel_rfl) rfl ?_
          intro _ _
          try dsimp only [setd, setn, ev, nth, over, cl, eI, eP, eT, List.map, List.append, List.drop, List.take]
          refine K.d_upd 15 rfl (K.store_all sz_27 rfl rfl rfl rfl (K.rp0)) (fun _ => fun _ h => K.tl (K.tl h)) (by kernel_rfl) rfl ?_
          intro _ _
          try dsimp only [setd, setn, ev, nth, over, cl, eI, eP, eT, List.map, List.append, List.drop, List.take]
          refine K.d_done (by kernel_rfl) ?_
          exact K.join_here (L' := [K.blk b5 27 [.int .i64 u, .int .i64 v], K.blk b6 27 [.int .i64 u2, .int .i64 v2], K.blk b3 65 [.int .u8 x0, .int .u8 x1, .int .u8 x2, .int .u8 x3], K.blk b2 25 [.int .i64 kind, .int .i64 base, .int .i64 most, .slice A hs.length c, .slice B rs.length d]]) [.pointer (some ⟨b5, 0, none⟩), .pointer (some ⟨b6, 0, none⟩)] ⟨b5, b6, u, v, u2, v2, rfl, hsc, hsc2, rfl⟩ (fun w h => (K.st_swap w h)) (by kernel_rfl)
        refine K.s_new 13 rfl (K.alloc zr_27) (fun _ h => K.tl h) (by kernel_rfl) rfl ?_
        intro b6
        try dsimp only [setd, setn, ev, nth, over, cl, eI, eP, eT, List.map, List.append, List.drop, List.take]
        refine K.d_loud 11 rfl (K.call_f cal_40 (fun F w hF hw => c40 hx2 hx3 w)) (fun _ h => K.tl (K.tl h)) (by kernel_rfl) rfl ?_
        rintro ⟨u2, v2⟩ hsc2
        try dsimp only [setd, setn, ev, nth, over, cl, eI, eP, eT, List.map, List.append, List.drop, List.take]
        refine K.d_upd 14 rfl (K.store_all sz_27 rfl rfl rfl rfl (K.rp1)) (fun _ => fun _ h => K.tl (K.tl h)) (by kernel_rfl) rfl ?_
        intro _ _
        try dsimp only [setd, setn, ev, nth, over, cl, eI, eP, eT, List.map, List.append, List.drop, List.take]
        refine K.d_upd 15 rfl (K.store_all sz_27 rfl rfl rfl rfl (K.rp0)) (fun _ => fun _ h => K.tl (K.tl h)) (by kernel_rfl) rfl ?_
        intro _ _
        try dsimp only [setd, setn, ev, nth, over, cl, eI, eP, eT, List.map, List.append, List.drop, List.take]
        refine K.d_done (by kernel_rfl) ?_
        exact K.join_here (L' := [K.blk b5 27 [.int .i64 u, .int .i64 v], K.blk b6 27 [.int .i64 u2, .int .i64 v2], K.blk b3 65 [.int .u8 x0, .int .u8 x1, .int .u8 x2, .int .u8 x3], K.blk b2 25 [.int .i64 kind, .int .i64 base, .int .i64 most, .slice A hs.length c, .slice B rs.length d]]) [.pointer (some ⟨b5, 0, none⟩), .pointer (some ⟨b6, 0, none⟩)] ⟨b5, b6, u, v, u2, v2, rfl, hsc, hsc2, rfl⟩ (fun w h => (K.st_swap w h)) (by kernel_rfl)
      refine K.s_new 13 rfl (K.alloc zr_27) (fun _ h => h) (by kernel_rfl) rfl ?_
      intro b6
      try dsimp only [setd, setn, ev, nth, over, cl, eI, eP, eT, List.map, List.append, List.drop, List.take]
      refine K.d_two 11 12 (by kernel_rfl) ?_ ?_
      · refine K.s_loud 11 rfl (K.call_f cal_40 (fun F w hF hw => c40 hx2 hx3 w)) (fun _ h => K.tl h) (by kernel_rfl) rfl ?_
        rintro ⟨u2, v2⟩ hsc2
        try dsimp only [setd, setn, ev, nth, over, cl, eI, eP, eT, List.map, List.append, List.drop, List.take]
        refine K.d_new 12 rfl (K.alloc zr_27) (fun _ h => K.tl h) (by kernel_rfl) rfl ?_
        intro b5
        try dsimp only [setd, setn, ev, nth, over, cl, eI, eP, eT, List.map, List.append, List.drop, List.take]
        refine K.d_upd 14 rfl (K.store_all sz_27 rfl rfl rfl rfl (K.rp0)) (fun _ => fun _ h => K.tl (K.tl h)) (by kernel_rfl) rfl ?_
        intro _ _
        try dsimp only [setd, setn, ev, nth, over, cl, eI, eP, eT, List.map, List.append, List.drop, List.take]
        refine K.d_upd 15 rfl (K.store_all sz_27 rfl rfl rfl rfl (K.rp1)) (fun _ => fun _ h => K.tl (K.tl h)) (by kernel_rfl) rfl ?_
        intro _ _
        try dsimp only [setd, setn, ev, nth, over, cl, eI, eP, eT, List.map, List.append, List.drop, List.take]
        refine K.d_done (by kernel_rfl) ?_
        exact K.join_here (L' := [K.blk b5 27 [.int .i64 u, .int .i64 v], K.blk b6 27 [.int .i64 u2, .int .i64 v2], K.blk b3 65 [.int .u8 x0, .int .u8 x1, .int .u8 x2, .int .u8 x3], K.blk b2 25 [.int .i64 kind, .int .i64 base, .int .i64 most, .slice A hs.length c, .slice B rs.length d]]) [.pointer (some ⟨b5, 0, none⟩), .pointer (some ⟨b6, 0, none⟩)] ⟨b5, b6, u, v, u2, v2, rfl, hsc, hsc2, rfl⟩ (fun w h => h) (by kernel_rfl)
      refine K.s_new 12 rfl (K.alloc zr_27) (fun _ h => K.tl h) (by kernel_rfl) rfl ?_
      intro b5
      try dsimp only [setd, setn, ev, nth, over, cl, eI, eP, eT, List.map, List.append, List.drop, List.take]
      refine K.d_loud 11 rfl (K.call_f cal_40 (fun F w hF hw => c40 hx2 hx3 w)) (fun _ h => K.tl (K.tl h)) (by kernel_rfl) rfl ?_
      rintro ⟨u2, v2⟩ hsc2
      try dsimp only [setd, setn, ev, nth, over, cl, eI, eP, eT, List.map, List.append, List.drop, List.take]
      refine K.d_upd 14 rfl (K.store_all sz_27 rfl rfl rfl rfl (K.rp0)) (fun _ => fun _ h => K.tl (K.tl h)) (by kernel_rfl) rfl ?_
      intro _ _
      try dsimp only [setd, setn, ev, nth, over, cl, eI, eP, eT, List.map, List.append, List.drop, List.take]
      refine K.d_upd 15 rfl (K.store_all sz_27 rfl rfl rfl rfl (K.rp1)) (fun _ => fun _ h => K.tl (K.tl h)) (by kernel_rfl) rfl ?_
      intro _ _
      try dsimp only [setd, setn, ev, nth, over, cl, eI, eP, eT, List.map, List.append, List.drop, List.take]
      refine K.d_done (by kernel_rfl) ?_
      exact K.join_here (L' := [K.blk b5 27 [.int .i64 u, .int .i64 v], K.blk b6 27 [.int .i64 u2, .int .i64 v2], K.blk b3 65 [.int .u8 x0, .int .u8 x1, .int .u8 x2, .int .u8 x3], K.blk b2 25 [.int .i64 kind, .int .i64 base, .int .i64 most, .slice A hs.length c, .slice B rs.length d]]) [.pointer (some ⟨b5, 0, none⟩), .pointer (some ⟨b6, 0, none⟩)] ⟨b5, b6, u, v, u2, v2, rfl, hsc, hsc2, rfl⟩ (fun w h => h) (by kernel_rfl)
    · refine K.s_new 12 rfl (K.alloc zr_27) (fun _ h => h) (by kernel_rfl) rfl ?_
      intro b5
      try dsimp only [setd, setn, ev, nth, over, cl, eI, eP, eT, List.map, List.append, List.drop, List.take]
      refine K.d_two 5 13 (by kernel_rfl) ?_ ?_
      · refine K.s_loud 5 rfl (K.call_f cal_40 (fun F w hF hw => c40 hx0 hx1 w)) (fun _ h => K.tl h) (by kernel_rfl) rfl ?_
        rintro ⟨u, v⟩ hsc
        try dsimp only [setd, setn, ev, nth, over, cl, eI, eP, eT, List.map, List.append, List.drop, List.take]
        refine K.d_two 11 13 (by kernel_rfl) ?_ ?_
        · refine K.s_loud 11 rfl (K.call_f cal_40 (fun F w hF hw => c40 hx2 hx3 w)) (fun _ h => K.tl h) (by kernel_rfl) rfl ?_
          rintro ⟨u2, v2⟩ hsc2
          try dsimp only [setd, setn, ev, nth, over, cl, eI, eP, eT, List.map, List.append, List.drop, List.take]
          refine K.d_new 13 rfl (K.alloc zr_27) (fun _ h => K.tl h) (by kernel_rfl) rfl ?_
          intro b6
          try dsimp only [setd, setn, ev, nth, over, cl, eI, eP, eT, List.map, List.append, List.drop, List.take]
          refine K.d_upd 14 rfl (K.store_all sz_27 rfl rfl rfl rfl (K.rp1)) (fun _ => fun _ h => K.tl (K.tl h)) (by kernel_rfl) rfl ?_
          intro _ _
          try dsimp only [setd, setn, ev, nth, over, cl, eI, eP, eT, List.map, List.append, List.drop, List.take]
          refine K.d_upd 15 rfl (K.store_all sz_27 rfl rfl rfl rfl (K.rp0)) (fun _ => fun _ h => K.tl (K.tl h)) (by kernel_rfl) rfl ?_
          intro _ _
          try dsimp only [setd, setn, ev, nth, over, cl, eI, eP, eT, List.map, List.append, List.drop, List.take]
          refine K.d_done (by kernel_rfl) ?_
          exact K.join_here (L' := [K.blk b5 27 [.int .i64 u, .int .i64 v], K.blk b6 27 [.int .i64 u2, .int .i64 v2], K.blk b3 65 [.int .u8 x0, .int .u8 x1, .int .u8 x2, .int .u8 x3], K.blk b2 25 [.int .i64 kind, .int .i64 base, .int .i64 most, .slice A hs.length c, .slice B rs.length d]]) [.pointer (some ⟨b5, 0, none⟩), .pointer (some ⟨b6, 0, none⟩)] ⟨b5, b6, u, v, u2, v2, rfl, hsc, hsc2, rfl⟩ (fun w h => (K.st_swap w h)) (by kernel_rfl)
        refine K.s_new 13 rfl (K.alloc zr_27) (fun _ h => K.tl h) (by kernel_rfl) rfl ?_
        intro b6
        try dsimp only [setd, setn, ev, nth, over, cl, eI, eP, eT, List.map, List.append, List.drop, List.take]
        refine K.d_loud 11 rfl (K.call_f cal_40 (fun F w hF hw => c40 hx2 hx3 w)) (fun _ h => K.tl (K.tl h)) (by kernel_rfl) rfl ?_
        rintro ⟨u2, v2⟩ hsc2
        try dsimp only [setd, setn, ev, nth, over, cl, eI, eP, eT, List.map, List.append, List.drop, List.take]
        refine K.d_upd 14 rfl (K.store_all sz_27 rfl rfl rfl rfl (K.rp1)) (fun _ => fun _ h => K.tl (K.tl h)) (by kernel_rfl) rfl ?_
        intro _ _
        try dsimp only [setd, setn, ev, nth, over, cl, eI, eP, eT, List.map, List.append, List.drop, List.take]
        refine K.d_upd 15 rfl (K.store_all sz_27 rfl rfl rfl rfl (K.rp0)) (fun _ => fun _ h => K.tl (K.tl h)) (by kernel_rfl) rfl ?_
        intro _ _
        try dsimp only [setd, setn, ev, nth, over, cl, eI, eP, eT, List.map, List.append, List.drop, List.take]
        refine K.d_done (by kernel_rfl) ?_
        exact K.join_here (L' := [K.blk b5 27 [.int .i64 u, .int .i64 v], K.blk b6 27 [.int .i64 u2, .int .i64 v2], K.blk b3 65 [.int .u8 x0, .int .u8 x1, .int .u8 x2, .int .u8 x3], K.blk b2 25 [.int .i64 kind, .int .i64 base, .int .i64 most, .slice A hs.length c, .slice B rs.length d]]) [.pointer (some ⟨b5, 0, none⟩), .pointer (some ⟨b6, 0, none⟩)] ⟨b5, b6, u, v, u2, v2, rfl, hsc, hsc2, rfl⟩ (fun w h => (K.st_swap w h)) (by kernel_rfl)
      refine K.s_new 13 rfl (K.alloc zr_27) (fun _ h => K.tl h) (by kernel_rfl) rfl ?_
      intro b6
      try dsimp only [setd, setn, ev, nth, over, cl, eI, eP, eT, List.map, List.append, List.drop, List.take]
      refine K.d_loud 5 rfl (K.call_f cal_40 (fun F w hF hw => c40 hx0 hx1 w)) (fun _ h => K.tl (K.tl h)) (by kernel_rfl) rfl ?_
      rintro ⟨u, v⟩ hsc
      try dsimp only [setd, setn, ev, nth, over, cl, eI, eP, eT, List.map, List.append, List.drop, List.take]
      refine K.d_loud 11 rfl (K.call_f cal_40 (fun F w hF hw => c40 hx2 hx3 w)) (fun _ h => K.tl (K.tl h)) (by kernel_rfl) rfl ?_
      rintro ⟨u2, v2⟩ hsc2
      try dsimp only [setd, setn, ev, nth, over, cl, eI, eP, eT, List.map, List.append, List.drop, List.take]
      refine K.d_upd 14 rfl (K.store_all sz_27 rfl rfl rfl rfl (K.rp1)) (fun _ => fun _ h => K.tl (K.tl h)) (by kernel_rfl) rfl ?_
      intro _ _
      try dsimp only [setd, setn, ev, nth, over, cl, eI, eP, eT, List.map, List.append, List.drop, List.take]
      refine K.d_upd 15 rfl (K.store_all sz_27 rfl rfl rfl rfl (K.rp0)) (fun _ => fun _ h => K.tl (K.tl h)) (by kernel_rfl) rfl ?_
      intro _ _
      try dsimp only [setd, setn, ev, nth, over, cl, eI, eP, eT, List.map, List.append, List.drop, List.take]
      refine K.d_done (by kernel_rfl) ?_
      exact K.join_here (L' := [K.blk b5 27 [.int .i64 u, .int .i64 v], K.blk b6 27 [.int .i64 u2, .int .i64 v2], K.blk b3 65 [.int .u8 x0, .int .u8 x1, .int .u8 x2, .int .u8 x3], K.blk b2 25 [.int .i64 kind, .int .i64 base, .int .i64 most, .slice A hs.length c, .slice B rs.length d]]) [.pointer (some ⟨b5, 0, none⟩), .pointer (some ⟨b6, 0, none⟩)] ⟨b5, b6, u, v, u2, v2, rfl, hsc, hsc2, rfl⟩ (fun w h => (K.st_swap w h)) (by kernel_rfl)
    refine K.s_new 13 rfl (K.alloc zr_27) (fun _ h => h) (by kernel_rfl) rfl ?_
    intro b6
    try dsimp only [setd, setn, ev, nth, over, cl, eI, eP, eT, List.map, List.append, List.drop, List.take]
    refine K.d_two 5 12 (by kernel_rfl) ?_ ?_
    · refine K.s_loud 5 rfl (K.call_f cal_40 (fun F w hF hw => c40 hx0 hx1 w)) (fun _ h => K.tl h) (by kernel_rfl) rfl ?_
      rintro ⟨u, v⟩ hsc
      try dsimp only [setd, setn, ev, nth, over, cl, eI, eP, eT, List.map, List.append, List.drop, List.take]
      refine K.d_two 11 12 (by kernel_rfl) ?_ ?_
      · refine K.s_loud 11 rfl (K.call_f cal_40 (fun F w hF hw => c40 hx2 hx3 w)) (fun _ h => K.tl h) (by kernel_rfl) rfl ?_
        rintro ⟨u2, v2⟩ hsc2
        try dsimp only [setd, setn, ev, nth, over, cl, eI, eP, eT, List.map, List.append, List.drop, List.take]
        refine K.d_new 12 rfl (K.alloc zr_27) (fun _ h => K.tl h) (by kernel_rfl) rfl ?_
        intro b5
        try dsimp only [setd, setn, ev, nth, over, cl, eI, eP, eT, List.map, List.append, List.drop, List.take]
        refine K.d_upd 14 rfl (K.store_all sz_27 rfl rfl rfl rfl (K.rp0)) (fun _ => fun _ h => K.tl (K.tl h)) (by kernel_rfl) rfl ?_
        intro _ _
        try dsimp only [setd, setn, ev, nth, over, cl, eI, eP, eT, List.map, List.append, List.drop, List.take]
        refine K.d_upd 15 rfl (K.store_all sz_27 rfl rfl rfl rfl (K.rp1)) (fun _ => fun _ h => K.tl (K.tl h)) (by kernel_rfl) rfl ?_
        intro _ _
        try dsimp only [setd, setn, ev, nth, over, cl, eI, eP, eT, List.map, List.append, List.drop, List.take]
        refine K.d_done (by kernel_rfl) ?_
        exact K.join_here (L' := [K.blk b5 27 [.int .i64 u, .int .i64 v], K.blk b6 27 [.int .i64 u2, .int .i64 v2], K.blk b3 65 [.int .u8 x0, .int .u8 x1, .int .u8 x2, .int .u8 x3], K.blk b2 25 [.int .i64 kind, .int .i64 base, .int .i64 most, .slice A hs.length c, .slice B rs.length d]]) [.pointer (some ⟨b5, 0, none⟩), .pointer (some ⟨b6, 0, none⟩)] ⟨b5, b6, u, v, u2, v2, rfl, hsc, hsc2, rfl⟩ (fun w h => h) (by kernel_rfl)
      refine K.s_new 12 rfl (K.alloc zr_27) (fun _ h => K.tl h) (by kernel_rfl) rfl ?_
      intro b5
      try dsimp only [setd, setn, ev, nth, over, cl, eI, eP, eT, List.map, List.append, List.drop, List.take]
      refine K.d_loud 11 rfl (K.call_f cal_40 (fun F w hF hw => c40 hx2 hx3 w)) (fun _ h => K.tl (K.tl h)) (by kernel_rfl) rfl ?_
      rintro ⟨u2, v2⟩ hsc2
      try dsimp only [setd, setn, ev, nth, over, cl, eI, eP, eT, List.map, List.append, List.drop, List.take]
      refine K.d_upd 14 rfl (K.store_all sz_27 rfl rfl rfl rfl (K.rp0)) (fun _ => fun _ h => K.tl (K.tl h)) (by kernel_rfl) rfl ?_
      intro _ _
      try dsimp only [setd, setn, ev, nth, over, cl, eI, eP, eT, List.map, List.append, List.drop, List.take]
      refine K.d_upd 15 rfl (K.store_all sz_27 rfl rfl rfl rfl (K.rp1)) (fun _ => fun _ h => K.tl (K.tl h)) (by kernel_rfl) rfl ?_
      intro _ _
      try dsimp only [setd, setn, ev, nth, over, cl, eI, eP, eT, List.map, List.append, List.drop, List.take]
      refine K.d_done (by kernel_rfl) ?_
      exact K.join_here (L' := [K.blk b5 27 [.int .i64 u, .int .i64 v], K.blk b6 27 [.int .i64 u2, .int .i64 v2], K.blk b3 65 [.int .u8 x0, .int .u8 x1, .int .u8 x2, .int .u8 x3], K.blk b2 25 [.int .i64 kind, .int .i64 base, .int .i64 most, .slice A hs.length c, .slice B rs.length d]]) [.pointer (some ⟨b5, 0, none⟩), .pointer (some ⟨b6, 0, none⟩)] ⟨b5, b6, u, v, u2, v2, rfl, hsc, hsc2, rfl⟩ (fun w h => h) (by kernel_rfl)
    refine K.s_new 12 rfl (K.alloc zr_27) (fun _ h => K.tl h) (by kernel_rfl) rfl ?_
    intro b5
    try dsimp only [setd, setn, ev, nth, over, cl, eI, eP, eT, List.map, List.append, List.drop, List.take]
    refine K.d_loud 5 rfl (K.call_f cal_40 (fun F w hF hw => c40 hx0 hx1 w)) (fun _ h => K.tl (K.tl h)) (by kernel_rfl) rfl ?_
    rintro ⟨u, v⟩ hsc
    try dsimp only [setd, setn, ev, nth, over, cl, eI, eP, eT, List.map, List.append, List.drop, List.take]
    refine K.d_loud 11 rfl (K.call_f cal_40 (fun F w hF hw => c40 hx2 hx3 w)) (fun _ h => K.tl (K.tl h)) (by kernel_rfl) rfl ?_
    rintro ⟨u2, v2⟩ hsc2
    try dsimp only [setd, setn, ev, nth, over, cl, eI, eP, eT, List.map, List.append, List.drop, List.take]
    refine K.d_upd 14 rfl (K.store_all sz_27 rfl rfl rfl rfl (K.rp0)) (fun _ => fun _ h => K.tl (K.tl h)) (by kernel_rfl) rfl ?_
    intro _ _
    try dsimp only [setd, setn, ev, nth, over, cl, eI, eP, eT, List.map, List.append, List.drop, List.take]
    refine K.d_upd 15 rfl (K.store_all sz_27 rfl rfl rfl rfl (K.rp1)) (fun _ => fun _ h => K.tl (K.tl h)) (by kernel_rfl) rfl ?_
    intro _ _
    try dsimp only [setd, setn, ev, nth, over, cl, eI, eP, eT, List.map, List.append, List.drop, List.take]
    refine K.d_done (by kernel_rfl) ?_
    exact K.join_here (L' := [K.blk b5 27 [.int .i64 u, .int .i64 v], K.blk b6 27 [.int .i64 u2, .int .i64 v2], K.blk b3 65 [.int .u8 x0, .int .u8 x1, .int .u8 x2, .int .u8 x3], K.blk b2 25 [.int .i64 kind, .int .i64 base, .int .i64 most, .slice A hs.length c, .slice B rs.length d]]) [.pointer (some ⟨b5, 0, none⟩), .pointer (some ⟨b6, 0, none⟩)] ⟨b5, b6, u, v, u2, v2, rfl, hsc, hsc2, rfl⟩ (fun w h => h) (by kernel_rfl)
  intro vi vr L hJ
  obtain ⟨b5, b6, u, v, u2, v2, rfl, hsc, hsc2, rfl⟩ := hJ
  try dsimp only [setd, setn, ev, nth, over, cl, eI, eP, eT, setM, setF, List.map, List.append, List.drop, List.take]
  refine K.norm_then ?_
  refine K.seq ?_
  refine K.region_lit ?_
  refine K.seq_sil (K.loadA_own ag_25 rfl (K.m3) rfl) rfl ?_
  try dsimp only [setd, setn, ev, nth, over, cl, eI, eP, eT, List.map, List.append, List.drop, List.take]
  refine K.seq_sil (K.loadA_own ag_27 rfl (K.m0) rfl) rfl ?_
  try dsimp only [setd, setn, ev, nth, over, cl, eI, eP, eT, List.map, List.append, List.drop, List.take]
  refine K.seq_loud (K.call_f cal_17 (fun F w hF hw => c17 (u := u) (v := v) (hH.pass hw) (hR.pass hw) hn hm)) rfl ?_
  rintro ⟨A1, c1⟩ hA1
  try dsimp only [setd, setn, ev, nth, over, cl, eI, eP, eT, List.map, List.append, List.drop, List.take]
  refine K.seq_pure (K.move) rfl ?_
  dsimp only [setd, setn, ev, nth]
  refine K.seq_pure (K.extract rfl rfl) rfl ?_
  dsimp only [setd, setn, ev, nth]
  refine K.seq_pure (K.extract rfl rfl) rfl ?_
  dsimp only [setd, setn, ev, nth]
  refine K.seq_pure (K.assign) rfl ?_
  dsimp only [setd, setn, ev, nth]
  refine K.seq_pure (K.assign) rfl ?_
  dsimp only [setd, setn, ev, nth]
  refine K.seq_nil ?_
  refine K.norm_then ?_
  refine K.seq ?_
  refine K.region_lit ?_
  refine K.seq_sil (K.loadA_own ag_25 rfl (K.m4) rfl) rfl ?_
  try dsimp only [setd, setn, ev, nth, over, cl, eI, eP, eT, List.map, List.append, List.drop, List.take]
  refine K.seq_sil (K.loadA_own ag_27 rfl (K.m2) rfl) rfl ?_
  try dsimp only [setd, setn, ev, nth, over, cl, eI, eP, eT, List.map, List.append, List.drop, List.take]
  refine K.seq_loud (K.call_f cal_17 (fun F w hF hw => c17 (u := u2) (v := v2) (hH.pass hw) (hR.pass hw) hn hm)) rfl ?_
  rintro ⟨A2, c2⟩ hA2
  try dsimp only [setd, setn, ev, nth, over, cl, eI, eP, eT, List.map, List.append, List.drop, List.take]
  refine K.seq_pure (K.move) rfl ?_
  dsimp only [setd, setn, ev, nth]
  refine K.seq_pure (K.extract rfl rfl) rfl ?_
  dsimp only [setd, setn, ev, nth]
  refine K.seq_pure (K.extract rfl rfl) rfl ?_
  dsimp only [setd, setn, ev, nth]
  refine K.seq_pure (K.assign) rfl ?_
  dsimp only [setd, setn, ev, nth]
  refine K.seq_pure (K.assign) rfl ?_
  dsimp only [setd, setn, ev, nth]
  refine K.seq_nil ?_
  refine K.norm_then ?_
  refine K.seq ?_
  have hp1 := scE_parts hsc
  have hp2 := scE_parts hsc2
  have l1 := cutsR_ln g hsc
  have l2 := cutsR_ln g hsc2
  have l3 := cutsR_ln (g.kind (k := 1) (by omega)) hsc
  have l4 := cutsR_ln (g.kind (k := 2) (by omega)) hsc
  have l5 := cutsR_ln (g.kind (k := 3) (by omega)) hsc
  refine K.region_lit ?_
  refine K.seq_pure (K.fieldAddr_lit fo_25_3 rfl) rfl ?_
  dsimp only [setd, setn, ev, nth]
  refine K.seq_sil (K.load1_own one_22 rfl (K.m5) rfl) rfl ?_
  try dsimp only [setd, setn, ev, nth, over, cl, eI, eP, eT, List.map, List.append, List.drop, List.take]
  refine K.seq_pure (K.len_sl sl_22 rfl) rfl ?_
  dsimp only [setd, setn, ev, nth]
  refine K.seq_pure (K.assign) rfl ?_
  dsimp only [setd, setn, ev, nth]
  refine K.seq_nil ?_
  refine K.norm_then ?_
  refine K.seq ?_
  refine K.seq ?_
  refine K.region_lit ?_
  refine K.seq_pure (K.move) rfl ?_
  dsimp only [setd, setn, ev, nth]
  refine K.seq_pure (K.Pure.eq (K.neq rfl rfl) (show _ = Value.bool false from congrArg Value.bool (decide_eq_false (fun h => h (ask_ok g hsc))))) rfl ?_
  dsimp only [setd, setn, ev, nth]
  refine K.seq_pure (K.move) rfl ?_
  dsimp only [setd, setn, ev, nth]
  refine K.seq_pure (K.move) rfl ?_
  dsimp only [setd, setn, ev, nth]
  refine K.seq_pure (K.Pure.eq (K.neq rfl rfl) (show _ = Value.bool false from congrArg Value.bool (decide_eq_false (fun h => h (ask_ok g hsc2))))) rfl ?_
  dsimp only [setd, setn, ev, nth]
  refine K.seq_pure (K.pick_f rfl) rfl ?_
  dsimp only [setd, setn, ev, nth]
  refine K.seq_pure (K.move) rfl ?_
  dsimp only [setd, setn, ev, nth]
  refine K.seq_pure (K.move) rfl ?_
  dsimp only [setd, setn, ev, nth]
  refine K.seq_pure (K.len_sl sl_22 rfl) rfl ?_
  dsimp only [setd, setn, ev, nth]
  refine K.seq_pure (K.move) rfl ?_
  dsimp only [setd, setn, ev, nth]
  refine K.seq_pure (K.Pure.eq (K.neq rfl rfl) (show _ = Value.bool false from congrArg Value.bool (decide_eq_false (fun h => h (by rw [cutsR_ln g hsc]))))) rfl ?_
  dsimp only [setd, setn, ev, nth]
  refine K.seq_pure (K.pick_f rfl) rfl ?_
  dsimp only [setd, setn, ev, nth]
  refine K.seq_pure (K.move) rfl ?_
  dsimp only [setd, setn, ev, nth]
  refine K.seq_pure (K.move) rfl ?_
  dsimp only [setd, setn, ev, nth]
  refine K.seq_pure (K.len_sl sl_22 rfl) rfl ?_
  dsimp only [setd, setn, ev, nth]
  refine K.seq_pure (K.move) rfl ?_
  dsimp only [setd, setn, ev, nth]
  refine K.seq_pure (K.Pure.eq (K.neq rfl rfl) (show _ = Value.bool false from congrArg Value.bool (decide_eq_false (fun h => h (by rw [cutsR_ln g hsc2]))))) rfl ?_
  dsimp only [setd, setn, ev, nth]
  refine K.seq_pure (K.pick_f rfl) rfl ?_
  dsimp only [setd, setn, ev, nth]
  refine K.seq_nil ?_
  refine K.norm_then ?_
  refine K.cond_false rfl ?_
  refine K.skip ?_
  refine K.norm_then ?_
  refine K.seq ?_
  refine K.joinW [12, 13, 14] [72, 73, 74] (fun vi L => ∃ b12 b13 b14 : Nat, vi = [.pointer (some ⟨b12, 0, none⟩), .pointer (some ⟨b13, 0, none⟩), .pointer (some ⟨b14, 0, none⟩)] ∧ L = [K.blk b12 25 [.int .i64 kind, .int .i64 base, .int .i64 most, .slice A hs.length c, .slice B rs.length d], K.blk b13 25 [.int .i64 kind, .int .i64 base, .int .i64 most, .slice A hs.length c, .slice B rs.length d], K.blk b14 25 [.int .i64 kind, .int .i64 base, .int .i64 most, .slice A hs.length c, .slice B rs.length d], K.row (.slice A2 (cutsR kind base most hs rs u2 v2).length c2) 3 1 (cutsR kind base most hs rs u2 v2).length ((cutsR kind base most hs rs u2 v2).flatMap K.eI), K.row (.slice A1 (cutsR kind base most hs rs u v).length c1) 3 1 (cutsR kind base most hs rs u v).length ((cutsR kind base most hs rs u v).flatMap K.eI), K.blk b5 27 [.int .i64 u, .int .i64 v], K.blk b6 27 [.int .i64 u2, .int .i64 v2], K.blk b3 65 [.int .u8 x0, .int .u8 x1, .int .u8 x2, .int .u8 x3], K.blk b2 25 [.int .i64 kind, .int .i64 base, .int .i64 most, .slice A hs.length c, .slice B rs.length d]]) ?_ ?_
  · refine K.draw_L [] Try_mixed ?_
    refine K.d_mem 0 rfl (K.loadA_own ag_25 rfl (K.m5) rfl) (fun _ h => h) (by kernel_rfl) (by kernel_rfl) rfl ?_
    try dsimp only [setd, setn, ev, nth, over, cl, eI, eP, eT, List.map, List.append, List.drop, List.take]
    refine K.d_mem 1 rfl (K.loadA_own ag_25 rfl (K.m5) rfl) (fun _ h => h) (by kernel_rfl) (by kernel_rfl) rfl ?_
    try dsimp only [setd, setn, ev, nth, over, cl, eI, eP, eT, List.map, List.append, List.drop, List.take]
    refine K.d_mem 2 rfl (K.loadA_own ag_25 rfl (K.m5) rfl) (fun _ h => h) (by kernel_rfl) (by kernel_rfl) rfl ?_
    try dsimp only [setd, setn, ev, nth, over, cl, eI, eP, eT, List.map, List.append, List.drop, List.take]
    refine K.d_three 3 4 5 (by kernel_rfl) ?_ ?_ ?_
    · refine K.s_new 3 rfl (K.alloc zr_25) (fun _ h => h) (by kernel_rfl) rfl ?_
      intro b12
      try dsimp only [setd, setn, ev, nth, over, cl, eI, eP, eT, List.map, List.append, List.drop, List.take]
      refine K.d_two 4 5 (by kernel_rfl) ?_ ?_
      · refine K.s_new 4 rfl (K.alloc zr_25) (fun _ h => K.tl h) (by kernel_rfl) rfl ?_
        intro b13
        try dsimp only [setd, setn, ev, nth, over, cl, eI, eP, eT, List.map, List.append, List.drop, List.take]
        refine K.d_new 5 rfl (K.alloc zr_25) (fun _ h => K.tl (K.tl h)) (by kernel_rfl) rfl ?_
        intro b14
        try dsimp only [setd, setn, ev, nth, over, cl, eI, eP, eT, List.map, List.append, List.drop, List.take]
        refine K.d_upd 6 rfl (K.store_all sz_25 rfl rfl rfl rfl (K.rp2)) (fun _ => fun _ h => K.tl (K.tl (K.tl h))) (by kernel_rfl) rfl ?_
        intro _ _
        try dsimp only [setd, setn, ev, nth, over, cl, eI, eP, eT, List.map, List.append, List.drop, List.take]
        refine K.d_upd 7 rfl (K.store_all sz_25 rfl rfl rfl rfl (K.rp1)) (fun _ => fun _ h => K.tl (K.tl (K.tl h))) (by kernel_rfl) rfl ?_
        intro _ _
        try dsimp only [setd, setn, ev, nth, over, cl, eI, eP, eT, List.map, List.append, List.drop, List.take]
        refine K.d_upd 8 rfl (K.store_all sz_25 rfl rfl rfl rfl (K.rp0)) (fun _ => fun _ h => K.tl (K.tl (K.tl h))) (by kernel_rfl) rfl ?_
        intro _ _
        try dsimp only [setd, setn, ev, nth, over, cl, eI, eP, eT, List.map, List.append, List.drop, List.take]
        refine K.d_done (by kernel_rfl) ?_
        exact K.join_here (L' := [K.blk b12 25 [.int .i64 kind, .int .i64 base, .int .i64 most, .slice A hs.length c, .slice B rs.length d], K.blk b13 25 [.int .i64 kind, .int .i64 base, .int .i64 most, .slice A hs.length c, .slice B rs.length d], K.blk b14 25 [.int .i64 kind, .int .i64 base, .int .i64 most, .slice A hs.length c, .slice B rs.length d], K.row (.slice A2 (cutsR kind base most hs rs u2 v2).length c2) 3 1 (cutsR kind base most hs rs u2 v2).length ((cutsR kind base most hs rs u2 v2).flatMap K.eI), K.row (.slice A1 (cutsR kind base most hs rs u v).length c1) 3 1 (cutsR kind base most hs rs u v).length ((cutsR kind base most hs rs u v).flatMap K.eI), K.blk b5 27 [.int .i64 u, .int .i64 v], K.blk b6 27 [.int .i64 u2, .int .i64 v2], K.blk b3 65 [.int .u8 x0, .int .u8 x1, .int .u8 x2, .int .u8 x3], K.blk b2 25 [.int .i64 kind, .int .i64 base, .int .i64 most, .slice A hs.length c, .slice B rs.length d]]) [.pointer (some ⟨b12, 0, none⟩), .pointer (some ⟨b13, 0, none⟩), .pointer (some ⟨b14, 0, none⟩)] ⟨b12, b13, b14, rfl, rfl⟩ (fun w h => (K.st_swap1 w (K.st_swap w (K.st_swap1 w h)))) (by kernel_rfl)
      refine K.s_new 5 rfl (K.alloc zr_25) (fun _ h => K.tl h) (by kernel_rfl) rfl ?_
      intro b14
      try dsimp only [setd, setn, ev, nth, over, cl, eI, eP, eT, List.map, List.append, List.drop, List.take]
      refine K.d_new 4 rfl (K.alloc zr_25) (fun _ h => K.tl (K.tl h)) (by kernel_rfl) rfl ?_
      intro b13
      try dsimp only [setd, setn, ev, nth, over, cl, eI, eP, eT, List.map, List.append, List.drop, List.take]
      refine K.d_upd 6 rfl (K.store_all sz_25 rfl rfl rfl rfl (K.rp2)) (fun _ => fun _ h => K.tl (K.tl (K.tl h))) (by kernel_rfl) rfl ?_
      intro _ _
      try dsimp only [setd, setn, ev, nth, over, cl, eI, eP, eT, List.map, List.append, List.drop, List.take]
      refine K.d_upd 7 rfl (K.store_all sz_25 rfl rfl rfl rfl (K.rp0)) (fun _ => fun _ h => K.tl (K.tl (K.tl h))) (by kernel_rfl) rfl ?_
      intro _ _
      try dsimp only [setd, setn, ev, nth, over, cl, eI, eP, eT, List.map, List.append, List.drop, List.take]
      refine K.d_upd 8 rfl (K.store_all sz_25 rfl rfl rfl rfl (K.rp1)) (fun _ => fun _ h => K.tl (K.tl (K.tl h))) (by kernel_rfl) rfl ?_
      intro _ _
      try dsimp only [setd, setn, ev, nth, over, cl, eI, eP, eT, List.map, List.append, List.drop, List.take]
      refine K.d_done (by kernel_rfl) ?_
      exact K.join_here (L' := [K.blk b12 25 [.int .i64 kind, .int .i64 base, .int .i64 most, .slice A hs.length c, .slice B rs.length d], K.blk b13 25 [.int .i64 kind, .int .i64 base, .int .i64 most, .slice A hs.length c, .slice B rs.length d], K.blk b14 25 [.int .i64 kind, .int .i64 base, .int .i64 most, .slice A hs.length c, .slice B rs.length d], K.row (.slice A2 (cutsR kind base most hs rs u2 v2).length c2) 3 1 (cutsR kind base most hs rs u2 v2).length ((cutsR kind base most hs rs u2 v2).flatMap K.eI), K.row (.slice A1 (cutsR kind base most hs rs u v).length c1) 3 1 (cutsR kind base most hs rs u v).length ((cutsR kind base most hs rs u v).flatMap K.eI), K.blk b5 27 [.int .i64 u, .int .i64 v], K.blk b6 27 [.int .i64 u2, .int .i64 v2], K.blk b3 65 [.int .u8 x0, .int .u8 x1, .int .u8 x2, .int .u8 x3], K.blk b2 25 [.int .i64 kind, .int .i64 base, .int .i64 most, .slice A hs.length c, .slice B rs.length d]]) [.pointer (some ⟨b12, 0, none⟩), .pointer (some ⟨b13, 0, none⟩), .pointer (some ⟨b14, 0, none⟩)] ⟨b12, b13, b14, rfl, rfl⟩ (fun w h => (K.st_swap w (K.st_swap1 w h))) (by kernel_rfl)
    · refine K.s_new 4 rfl (K.alloc zr_25) (fun _ h => h) (by kernel_rfl) rfl ?_
      intro b13
      try dsimp only [setd, setn, ev, nth, over, cl, eI, eP, eT, List.map, List.append, List.drop, List.take]
      refine K.d_two 3 5 (by kernel_rfl) ?_ ?_
      · refine K.s_new 3 rfl (K.alloc zr_25) (fun _ h => K.tl h) (by kernel_rfl) rfl ?_
        intro b12
        try dsimp only [setd, setn, ev, nth, over, cl, eI, eP, eT, List.map, List.append, List.drop, List.take]
        refine K.d_new 5 rfl (K.alloc zr_25) (fun _ h => K.tl (K.tl h)) (by kernel_rfl) rfl ?_
        intro b14
        try dsimp only [setd, setn, ev, nth, over, cl, eI, eP, eT, List.map, List.append, List.drop, List.take]
        refine K.d_upd 6 rfl (K.store_all sz_25 rfl rfl rfl rfl (K.rp1)) (fun _ => fun _ h => K.tl (K.tl (K.tl h))) (by kernel_rfl) rfl ?_
        intro _ _
        try dsimp only [setd, setn, ev, nth, over, cl, eI, eP, eT, List.map, List.append, List.drop, List.take]
        refine K.d_upd 7 rfl (K.store_all sz_25 rfl rfl rfl rfl (K.rp2)) (fun _ => fun _ h => K.tl (K.tl (K.tl h))) (by kernel_rfl) rfl ?_
        intro _ _
        try dsimp only [setd, setn, ev, nth, over, cl, eI, eP, eT, List.map, List.append, List.drop, List.take]
        refine K.d_upd 8 rfl (K.store_all sz_25 rfl rfl rfl rfl (K.rp0)) (fun _ => fun _ h => K.tl (K.tl (K.tl h))) (by kernel_rfl) rfl ?_
        intro _ _
        try dsimp only [setd, setn, ev, nth, over, cl, eI, eP, eT, List.map, List.append, List.drop, List.take]
        refine K.d_done (by kernel_rfl) ?_
        exact K.join_here (L' := [K.blk b12 25 [.int .i64 kind, .int .i64 base, .int .i64 most, .slice A hs.length c, .slice B rs.length d], K.blk b13 25 [.int .i64 kind, .int .i64 base, .int .i64 most, .slice A hs.length c, .slice B rs.length d], K.blk b14 25 [.int .i64 kind, .int .i64 base, .int .i64 most, .slice A hs.length c, .slice B rs.length d], K.row (.slice A2 (cutsR kind base most hs rs u2 v2).length c2) 3 1 (cutsR kind base most hs rs u2 v2).length ((cutsR kind base most hs rs u2 v2).flatMap K.eI), K.row (.slice A1 (cutsR kind base most hs rs u v).length c1) 3 1 (cutsR kind base most hs rs u v).length ((cutsR kind base most hs rs u v).flatMap K.eI), K.blk b5 27 [.int .i64 u, .int .i64 v], K.blk b6 27 [.int .i64 u2, .int .i64 v2], K.blk b3 65 [.int .u8 x0, .int .u8 x1, .int .u8 x2, .int .u8 x3], K.blk b2 25 [.int .i64 kind, .int .i64 base, .int .i64 most, .slice A hs.length c, .slice B rs.length d]]) [.pointer (some ⟨b12, 0, none⟩), .pointer (some ⟨b13, 0, none⟩), .pointer (some ⟨b14, 0, none⟩)] ⟨b12, b13, b14, rfl, rfl⟩ (fun w h => (K.st_swap1 w (K.st_swap w h))) (by kernel_rfl)
      refine K.s_new 5 rfl (K.alloc zr_25) (fun _ h => K.tl h) (by kernel_rfl) rfl ?_
      intro b14
      try dsimp only [setd, setn, ev, nth, over, cl, eI, eP, eT, List.map, List.append, List.drop, List.take]
      refine K.d_new 3 rfl (K.alloc zr_25) (fun _ h => K.tl (K.tl h)) (by kernel_rfl) rfl ?_
      intro b12
      try dsimp only [setd, setn, ev, nth, over, cl, eI, eP, eT, List.map, List.append, List.drop, List.take]
      refine K.d_upd 6 rfl (K.store_all sz_25 rfl rfl rfl rfl (K.rp0)) (fun _ => fun _ h => K.tl (K.tl (K.tl h))) (by kernel_rfl) rfl ?_
      intro _ _
      try dsimp only [setd, setn, ev, nth, over, cl, eI, eP, eT, List.map, List.append, List.drop, List.take]
      refine K.d_upd 7 rfl (K.store_all sz_25 rfl rfl rfl rfl (K.rp2)) (fun _ => fun _ h => K.tl (K.tl (K.tl h))) (by kernel_rfl) rfl ?_
      intro _ _
      try dsimp only [setd, setn, ev, nth, over, cl, eI, eP, eT, List.map, List.append, List.drop, List.take]
      refine K.d_upd 8 rfl (K.store_all sz_25 rfl rfl rfl rfl (K.rp1)) (fun _ => fun _ h => K.tl (K.tl (K.tl h))) (by kernel_rfl) rfl ?_
      intro _ _
      try dsimp only [setd, setn, ev, nth, over, cl, eI, eP, eT, List.map, List.append, List.drop, List.take]
      refine K.d_done (by kernel_rfl) ?_
      exact K.join_here (L' := [K.blk b12 25 [.int .i64 kind, .int .i64 base, .int .i64 most, .slice A hs.length c, .slice B rs.length d], K.blk b13 25 [.int .i64 kind, .int .i64 base, .int .i64 most, .slice A hs.length c, .slice B rs.length d], K.blk b14 25 [.int .i64 kind, .int .i64 base, .int .i64 most, .slice A hs.length c, .slice B rs.length d], K.row (.slice A2 (cutsR kind base most hs rs u2 v2).length c2) 3 1 (cutsR kind base most hs rs u2 v2).length ((cutsR kind base most hs rs u2 v2).flatMap K.eI), K.row (.slice A1 (cutsR kind base most hs rs u v).length c1) 3 1 (cutsR kind base most hs rs u v).length ((cutsR kind base most hs rs u v).flatMap K.eI), K.blk b5 27 [.int .i64 u, .int .i64 v], K.blk b6 27 [.int .i64 u2, .int .i64 v2], K.blk b3 65 [.int .u8 x0, .int .u8 x1, .int .u8 x2, .int .u8 x3], K.blk b2 25 [.int .i64 kind, .int .i64 base, .int .i64 most, .slice A hs.length c, .slice B rs.length d]]) [.pointer (some ⟨b12, 0, none⟩), .pointer (some ⟨b13, 0, none⟩), .pointer (some ⟨b14, 0, none⟩)] ⟨b12, b13, b14, rfl, rfl⟩ (fun w h => (K.st_swap1 w h)) (by kernel_rfl)
    refine K.s_new 5 rfl (K.alloc zr_25) (fun _ h => h) (by kernel_rfl) rfl ?_
    intro b14
    try dsimp only [setd, setn, ev, nth, over, cl, eI, eP, eT, List.map, List.append, List.drop, List.take]
    refine K.d_two 3 4 (by kernel_rfl) ?_ ?_
    · refine K.s_new 3 rfl (K.alloc zr_25) (fun _ h => K.tl h) (by kernel_rfl) rfl ?_
      intro b12
      try dsimp only [setd, setn, ev, nth, over, cl, eI, eP, eT, List.map, List.append, List.drop, List.take]
      refine K.d_new 4 rfl (K.alloc zr_25) (fun _ h => K.tl (K.tl h)) (by kernel_rfl) rfl ?_
      intro b13
      try dsimp only [setd, setn, ev, nth, over, cl, eI, eP, eT, List.map, List.append, List.drop, List.take]
      refine K.d_upd 6 rfl (K.store_all sz_25 rfl rfl rfl rfl (K.rp1)) (fun _ => fun _ h => K.tl (K.tl (K.tl h))) (by kernel_rfl) rfl ?_
      intro _ _
      try dsimp only [setd, setn, ev, nth, over, cl, eI, eP, eT, List.map, List.append, List.drop, List.take]
      refine K.d_upd 7 rfl (K.store_all sz_25 rfl rfl rfl rfl (K.rp0)) (fun _ => fun _ h => K.tl (K.tl (K.tl h))) (by kernel_rfl) rfl ?_
      intro _ _
      try dsimp only [setd, setn, ev, nth, over, cl, eI, eP, eT, List.map, List.append, List.drop, List.take]
      refine K.d_upd 8 rfl (K.store_all sz_25 rfl rfl rfl rfl (K.rp2)) (fun _ => fun _ h => K.tl (K.tl (K.tl h))) (by kernel_rfl) rfl ?_
      intro _ _
      try dsimp only [setd, setn, ev, nth, over, cl, eI, eP, eT, List.map, List.append, List.drop, List.take]
      refine K.d_done (by kernel_rfl) ?_
      exact K.join_here (L' := [K.blk b12 25 [.int .i64 kind, .int .i64 base, .int .i64 most, .slice A hs.length c, .slice B rs.length d], K.blk b13 25 [.int .i64 kind, .int .i64 base, .int .i64 most, .slice A hs.length c, .slice B rs.length d], K.blk b14 25 [.int .i64 kind, .int .i64 base, .int .i64 most, .slice A hs.length c, .slice B rs.length d], K.row (.slice A2 (cutsR kind base most hs rs u2 v2).length c2) 3 1 (cutsR kind base most hs rs u2 v2).length ((cutsR kind base most hs rs u2 v2).flatMap K.eI), K.row (.slice A1 (cutsR kind base most hs rs u v).length c1) 3 1 (cutsR kind base most hs rs u v).length ((cutsR kind base most hs rs u v).flatMap K.eI), K.blk b5 27 [.int .i64 u, .int .i64 v], K.blk b6 27 [.int .i64 u2, .int .i64 v2], K.blk b3 65 [.int .u8 x0, .int .u8 x1, .int .u8 x2, .int .u8 x3], K.blk b2 25 [.int .i64 kind, .int .i64 base, .int .i64 most, .slice A hs.length c, .slice B rs.length d]]) [.pointer (some ⟨b12, 0, none⟩), .pointer (some ⟨b13, 0, none⟩), .pointer (some ⟨b14, 0, none⟩)] ⟨b12, b13, b14, rfl, rfl⟩ (fun w h => (K.st_swap w h)) (by kernel_rfl)
    refine K.s_new 4 rfl (K.alloc zr_25) (fun _ h => K.tl h) (by kernel_rfl) rfl ?_
    intro b13
    try dsimp only [setd, setn, ev, nth, over, cl, eI, eP, eT, List.map, List.append, List.drop, List.take]
    refine K.d_new 3 rfl (K.alloc zr_25) (fun _ h => K.tl (K.tl h)) (by kernel_rfl) rfl ?_
    intro b12
    try dsimp only [setd, setn, ev, nth, over, cl, eI, eP, eT, List.map, List.append, List.drop, List.take]
    refine K.d_upd 6 rfl (K.store_all sz_25 rfl rfl rfl rfl (K.rp0)) (fun _ => fun _ h => K.tl (K.tl (K.tl h))) (by kernel_rfl) rfl ?_
    intro _ _
    try dsimp only [setd, setn, ev, nth, over, cl, eI, eP, eT, List.map, List.append, List.drop, List.take]
    refine K.d_upd 7 rfl (K.store_all sz_25 rfl rfl rfl rfl (K.rp1)) (fun _ => fun _ h => K.tl (K.tl (K.tl h))) (by kernel_rfl) rfl ?_
    intro _ _
    try dsimp only [setd, setn, ev, nth, over, cl, eI, eP, eT, List.map, List.append, List.drop, List.take]
    refine K.d_upd 8 rfl (K.store_all sz_25 rfl rfl rfl rfl (K.rp2)) (fun _ => fun _ h => K.tl (K.tl (K.tl h))) (by kernel_rfl) rfl ?_
    intro _ _
    try dsimp only [setd, setn, ev, nth, over, cl, eI, eP, eT, List.map, List.append, List.drop, List.take]
    refine K.d_done (by kernel_rfl) ?_
    exact K.join_here (L' := [K.blk b12 25 [.int .i64 kind, .int .i64 base, .int .i64 most, .slice A hs.length c, .slice B rs.length d], K.blk b13 25 [.int .i64 kind, .int .i64 base, .int .i64 most, .slice A hs.length c, .slice B rs.length d], K.blk b14 25 [.int .i64 kind, .int .i64 base, .int .i64 most, .slice A hs.length c, .slice B rs.length d], K.row (.slice A2 (cutsR kind base most hs rs u2 v2).length c2) 3 1 (cutsR kind base most hs rs u2 v2).length ((cutsR kind base most hs rs u2 v2).flatMap K.eI), K.row (.slice A1 (cutsR kind base most hs rs u v).length c1) 3 1 (cutsR kind base most hs rs u v).length ((cutsR kind base most hs rs u v).flatMap K.eI), K.blk b5 27 [.int .i64 u, .int .i64 v], K.blk b6 27 [.int .i64 u2, .int .i64 v2], K.blk b3 65 [.int .u8 x0, .int .u8 x1, .int .u8 x2, .int .u8 x3], K.blk b2 25 [.int .i64 kind, .int .i64 base, .int .i64 most, .slice A hs.length c, .slice B rs.length d]]) [.pointer (some ⟨b12, 0, none⟩), .pointer (some ⟨b13, 0, none⟩), .pointer (some ⟨b14, 0, none⟩)] ⟨b12, b13, b14, rfl, rfl⟩ (fun w h => h) (by kernel_rfl)
  intro vi vr L hJ
  obtain ⟨b12, b13, b14, rfl, rfl⟩ := hJ
  try dsimp only [setd, setn, ev, nth, over, cl, eI, eP, eT, setM, setF, List.map, List.append, List.drop, List.take]
  refine K.norm_then ?_
  refine K.seq ?_
  refine K.region_lit ?_
  refine K.seq_pure (K.fieldAddr_lit fo_25_0 rfl) rfl ?_
  dsimp only [setd, setn, ev, nth]
  refine K.seq_st (K.store sz_3 rfl rfl rfl rfl (K.rp0)) rfl ?_
  try dsimp only [setd, setn, ev, nth, over, cl, eI, eP, eT, List.map, List.append, List.drop, List.take]
  refine K.seq_pure (K.fieldAddr_lit fo_25_0 rfl) rfl ?_
  dsimp only [setd, setn, ev, nth]
  refine K.seq_st (K.store sz_3 rfl rfl rfl rfl (K.rp1)) rfl ?_
  try dsimp only [setd, setn, ev, nth, over, cl, eI, eP, eT, List.map, List.append, List.drop, List.take]
  refine K.seq_pure (K.fieldAddr_lit fo_25_0 rfl) rfl ?_
  dsimp only [setd, setn, ev, nth]
  refine K.seq_st (K.store sz_3 rfl rfl rfl rfl (K.rp2)) rfl ?_
  try dsimp only [setd, setn, ev, nth, over, cl, eI, eP, eT, List.map, List.append, List.drop, List.take]
  refine K.seq_nil ?_
  refine K.norm_then ?_
  refine K.seq ?_
  refine K.region_lit ?_
  refine K.seq_sil (K.loadA_own ag_25 rfl (K.m0) rfl) rfl ?_
  try dsimp only [setd, setn, ev, nth, over, cl, eI, eP, eT, List.map, List.append, List.drop, List.take]
  refine K.seq_sil (K.loadA_own ag_27 rfl (K.m5) rfl) rfl ?_
  try dsimp only [setd, setn, ev, nth, over, cl, eI, eP, eT, List.map, List.append, List.drop, List.take]
  refine K.seq_loud (K.call_f cal_17 (fun F w hF hw => c17 (kind := 1) (u := u) (v := v) (hH.pass hw) (hR.pass hw) hn hm)) rfl ?_
  rintro ⟨A3, c3⟩ hA3
  try dsimp only [setd, setn, ev, nth, over, cl, eI, eP, eT, List.map, List.append, List.drop, List.take]
  refine K.seq_pure (K.move) rfl ?_
  dsimp only [setd, setn, ev, nth]
  refine K.seq_pure (K.extract rfl rfl) rfl ?_
  dsimp only [setd, setn, ev, nth]
  refine K.seq_pure (K.extract rfl rfl) rfl ?_
  dsimp only [setd, setn, ev, nth]
  refine K.seq_pure (K.assign) rfl ?_
  dsimp only [setd, setn, ev, nth]
  refine K.seq_pure (K.assign) rfl ?_
  dsimp only [setd, setn, ev, nth]
  refine K.seq_nil ?_
  refine K.norm_then ?_
  refine K.seq ?_
  refine K.region_lit ?_
  refine K.seq_sil (K.loadA_own ag_25 rfl (K.m2) rfl) rfl ?_
  try dsimp only [setd, setn, ev, nth, over, cl, eI, eP, eT, List.map, List.append, List.drop, List.take]
  refine K.seq_sil (K.loadA_own ag_27 rfl (K.m6) rfl) rfl ?_
  try dsimp only [setd, setn, ev, nth, over, cl, eI, eP, eT, List.map, List.append, List.drop, List.take]
  refine K.seq_loud (K.call_f cal_17 (fun F w hF hw => c17 (kind := 2) (u := u) (v := v) (hH.pass hw) (hR.pass hw) hn hm)) rfl ?_
  rintro ⟨A4, c4⟩ hA4
  try dsimp only [setd, setn, ev, nth, over, cl, eI, eP, eT, List.map, List.append, List.drop, List.take]
  refine K.seq_pure (K.move) rfl ?_
  dsimp only [setd, setn, ev, nth]
  refine K.seq_pure (K.extract rfl rfl) rfl ?_
  dsimp only [setd, setn, ev, nth]
  refine K.seq_pure (K.extract rfl rfl) rfl ?_
  dsimp only [setd, setn, ev, nth]
  refine K.seq_pure (K.assign) rfl ?_
  dsimp only [setd, setn, ev, nth]
  refine K.seq_pure (K.assign) rfl ?_
  dsimp only [setd, setn, ev, nth]
  refine K.seq_nil ?_
  refine K.norm_then ?_
  refine K.seq ?_
  refine K.region_lit ?_
  refine K.seq_sil (K.loadA_own ag_25 rfl (K.m4) rfl) rfl ?_
  try dsimp only [setd, setn, ev, nth, over, cl, eI, eP, eT, List.map, List.append, List.drop, List.take]
  refine K.seq_sil (K.loadA_own ag_27 rfl (K.m7) rfl) rfl ?_
  try dsimp only [setd, setn, ev, nth, over, cl, eI, eP, eT, List.map, List.append, List.drop, List.take]
  refine K.seq_loud (K.call_f cal_17 (fun F w hF hw => c17 (kind := 3) (u := u) (v := v) (hH.pass hw) (hR.pass hw) hn hm)) rfl ?_
  rintro ⟨A5, c5⟩ hA5
  try dsimp only [setd, setn, ev, nth, over, cl, eI, eP, eT, List.map, List.append, List.drop, List.take]
  refine K.seq_pure (K.move) rfl ?_
  dsimp only [setd, setn, ev, nth]
  refine K.seq_pure (K.extract rfl rfl) rfl ?_
  dsimp only [setd, setn, ev, nth]
  refine K.seq_pure (K.extract rfl rfl) rfl ?_
  dsimp only [setd, setn, ev, nth]
  refine K.seq_pure (K.assign) rfl ?_
  dsimp only [setd, setn, ev, nth]
  refine K.seq_pure (K.assign) rfl ?_
  dsimp only [setd, setn, ev, nth]
  refine K.seq_nil ?_
  refine K.norm_then ?_
  refine K.seq ?_
  refine K.seq ?_
  refine K.region_lit ?_
  refine K.seq_pure (K.move) rfl ?_
  dsimp only [setd, setn, ev, nth]
  refine K.seq_pure (K.Pure.eq (K.neq rfl rfl) (show _ = Value.bool false from congrArg Value.bool (decide_eq_false (fun h => h (ask_ok (g.kind (k := 1) (by omega)) hsc))))) rfl ?_
  dsimp only [setd, setn, ev, nth]
  refine K.seq_pure (K.move) rfl ?_
  dsimp only [setd, setn, ev, nth]
  refine K.seq_pure (K.move) rfl ?_
  dsimp only [setd, setn, ev, nth]
  refine K.seq_pure (K.Pure.eq (K.neq rfl rfl) (show _ = Value.bool false from congrArg Value.bool (decide_eq_false (fun h => h (ask_ok (g.kind (k := 2) (by omega)) hsc))))) rfl ?_
  dsimp only [setd, setn, ev, nth]
  refine K.seq_pure (K.pick_f rfl) rfl ?_
  dsimp only [setd, setn, ev, nth]
  refine K.seq_pure (K.move) rfl ?_
  dsimp only [setd, setn, ev, nth]
  refine K.seq_pure (K.move) rfl ?_
  dsimp only [setd, setn, ev, nth]
  refine K.seq_pure (K.Pure.eq (K.neq rfl rfl) (show _ = Value.bool false from congrArg Value.bool (decide_eq_false (fun h => h (ask_ok (g.kind (k := 3) (by omega)) hsc))))) rfl ?_
  dsimp only [setd, setn, ev, nth]
  refine K.seq_pure (K.pick_f rfl) rfl ?_
  dsimp only [setd, setn, ev, nth]
  refine K.seq_pure (K.move) rfl ?_
  dsimp only [setd, setn, ev, nth]
  refine K.seq_pure (K.move) rfl ?_
  dsimp only [setd, setn, ev, nth]
  refine K.seq_pure (K.len_sl sl_22 rfl) rfl ?_
  dsimp only [setd, setn, ev, nth]
  refine K.seq_pure (K.move) rfl ?_
  dsimp only [setd, setn, ev, nth]
  refine K.seq_pure (K.Pure.eq (K.neq rfl rfl) (show _ = Value.bool false from congrArg Value.bool (decide_eq_false (fun h => h (by rw [cutsR_ln (g.kind (k := 1) (by omega)) hsc]))))) rfl ?_
  dsimp only [setd, setn, ev, nth]
  refine K.seq_pure (K.pick_f rfl) rfl ?_
  dsimp only [setd, setn, ev, nth]
  refine K.seq_pure (K.move) rfl ?_
  dsimp only [setd, setn, ev, nth]
  refine K.seq_pure (K.move) rfl ?_
  dsimp only [setd, setn, ev, nth]
  refine K.seq_pure (K.len_sl sl_22 rfl) rfl ?_
  dsimp only [setd, setn, ev, nth]
  refine K.seq_pure (K.move) rfl ?_
  dsimp only [setd, setn, ev, nth]
  refine K.seq_pure (K.Pure.eq (K.neq rfl rfl) (show _ = Value.bool false from congrArg Value.bool (decide_eq_false (fun h => h (by rw [cutsR_ln (g.kind (k := 2) (by omega)) hsc]))))) rfl ?_
  dsimp only [setd, setn, ev, nth]
  refine K.seq_pure (K.pick_f rfl) rfl ?_
  dsimp only [setd, setn, ev, nth]
  refine K.seq_pure (K.move) rfl ?_
  dsimp only [setd, setn, ev, nth]
  refine K.seq_pure (K.move) rfl ?_
  dsimp only [setd, setn, ev, nth]
  refine K.seq_pure (K.len_sl sl_22 rfl) rfl ?_
  dsimp only [setd, setn, ev, nth]
  refine K.seq_pure (K.move) rfl ?_
  dsimp only [setd, setn, ev, nth]
  refine K.seq_pure (K.Pure.eq (K.neq rfl rfl) (show _ = Value.bool false from congrArg Value.bool (decide_eq_false (fun h => h (by rw [cutsR_ln (g.kind (k := 3) (by omega)) hsc]))))) rfl ?_
  dsimp only [setd, setn, ev, nth]
  refine K.seq_pure (K.pick_f rfl) rfl ?_
  dsimp only [setd, setn, ev, nth]
  refine K.seq_nil ?_
  refine K.norm_then ?_
  refine K.cond_false rfl ?_
  refine K.skip ?_
  refine K.norm_then ?_
  refine K.seq ?_
  refine K.seq ?_
  refine K.region_lit ?_
  refine K.seq_pure (K.assign) rfl ?_
  dsimp only [setd, setn, ev, nth]
  refine K.seq_nil ?_
  refine K.norm_then ?_
  refine K.block ?_
  refine K.loopW [21] [4, 22, 124, 125, 126, 127, 128, 129, 130, 131, 132, 133, 134, 135, 136, 137, 138, 139, 140, 141, 142, 143, 144, 145, 146, 147, 148, 149, 150, 151, 152, 153, 154, 155, 156, 157, 158, 159, 160, 161, 162, 163, 164, 165, 166, 167, 168, 169, 170, 171, 172, 173, 174, 175, 176, 177, 178, 179, 180, 181, 182, 183, 184, 185, 186, 187, 188, 189, 190, 191, 192, 193, 194, 195, 196, 197, 198, 199, 200, 201, 202, 203, 204, 205, 206, 207, 208, 209, 210] (fun vi L => ∃ k : Nat, vi = [.int .i64 (k : Int)] ∧ L = [K.row (.slice A5 (cutsR 3 base most hs rs u v).length c5) 3 1 (cutsR 3 base most hs rs u v).length ((cutsR 3 base most hs rs u v).flatMap K.eI), K.row (.slice A4 (cutsR 2 base most hs rs u v).length c4) 3 1 (cutsR 2 base most hs rs u v).length ((cutsR 2 base most hs rs u v).flatMap K.eI), K.row (.slice A3 (cutsR 1 base most hs rs u v).length c3) 3 1 (cutsR 1 base most hs rs u v).length ((cutsR 1 base most hs rs u v).flatMap K.eI), K.blk b12 25 [.int .i64 1, .int .i64 base, .int .i64 most, .slice A hs.length c, .slice B rs.length d], K.blk b13 25 [.int .i64 2, .int .i64 base, .int .i64 most, .slice A hs.length c, .slice B rs.length d], K.blk b14 25 [.int .i64 3, .int .i64 base, .int .i64 most, .slice A hs.length c, .slice B rs.length d], K.row (.slice A2 (cutsR kind base most hs rs u2 v2).length c2) 3 1 (cutsR kind base most hs rs u2 v2).length ((cutsR kind base most hs rs u2 v2).flatMap K.eI), K.row (.slice A1 (cutsR kind base most hs rs u v).length c1) 3 1 (cutsR kind base most hs rs u v).length ((cutsR kind base most hs rs u v).flatMap K.eI), K.blk b5 27 [.int .i64 u, .int .i64 v], K.blk b6 27 [.int .i64 u2, .int .i64 v2], K.blk b3 65 [.int .u8 x0, .int .u8 x1, .int .u8 x2, .int .u8 x3], K.blk b2 25 [.int .i64 kind, .int .i64 base, .int .i64 most, .slice A hs.length c, .slice B rs.length d]] ∧ k ≤ hs.length) (fun vi => hs.length - (intOf (K.nth vi 0)).toNat) ?_ ?_
  · exact ⟨0, rfl, rfl, Nat.zero_le _⟩
  intro vi vr L hJ
  obtain ⟨k, rfl, rfl, hkn⟩ := hJ
  try dsimp only [setd, setn, ev, nth, over, cl, eI, eP, eT, setM, setF, List.map, List.append, List.drop, List.take]
  refine K.seq ?_
  refine K.seq ?_
  refine K.region_lit ?_
  refine K.seq_pure (K.move) rfl ?_
  dsimp only [setd, setn, ev, nth]
  refine K.seq_pure (K.move) rfl ?_
  dsimp only [setd, setn, ev, nth]
  refine K.seq_pure (K.lss rfl rfl) rfl ?_
  dsimp only [setd, setn, ev, nth]
  refine K.seq_nil ?_
  refine K.norm_then ?_
  refine K.cond rfl (fun ht126 => ?_) (fun ht126 => ?_)
  · try replace ht126 := of_decide_eq_true ht126
    have hk : k < hs.length := by omega
    have hkk := hi_kind g hsc hk
    refine K.skip ?_
    refine K.norm_then ?_
    refine K.seq ?_
    refine K.block ?_
    refine K.seq ?_
    refine K.seq ?_
    refine K.joinW [183] [129, 130, 131, 132, 133, 134, 135, 136, 137, 138, 139, 140, 141, 142, 143, 144, 145, 146, 147, 148, 149, 150, 151, 152, 153, 154, 155, 156, 157, 158, 159, 160, 161, 162, 163, 164, 165, 166, 167, 168, 169, 170, 171, 172, 173, 174, 175, 176, 177, 178, 179, 180, 181, 182] (fun vi L => vi = [.bool false] ∧ L = [K.row (.slice A5 (cutsR 3 base most hs rs u v).length c5) 3 1 (cutsR 3 base most hs rs u v).length ((cutsR 3 base most hs rs u v).flatMap K.eI), K.row (.slice A4 (cutsR 2 base most hs rs u v).length c4) 3 1 (cutsR 2 base most hs rs u v).length ((cutsR 2 base most hs rs u v).flatMap K.eI), K.row (.slice A3 (cutsR 1 base most hs rs u v).length c3) 3 1 (cutsR 1 base most hs rs u v).length ((cutsR 1 base most hs rs u v).flatMap K.eI), K.blk b12 25 [.int .i64 1, .int .i64 base, .int .i64 most, .slice A hs.length c, .slice B rs.length d], K.blk b13 25 [.int .i64 2, .int .i64 base, .int .i64 most, .slice A hs.length c, .slice B rs.length d], K.blk b14 25 [.int .i64 3, .int .i64 base, .int .i64 most, .slice A hs.length c, .slice B rs.length d], K.row (.slice A2 (cutsR kind base most hs rs u2 v2).length c2) 3 1 (cutsR kind base most hs rs u2 v2).length ((cutsR kind base most hs rs u2 v2).flatMap K.eI), K.row (.slice A1 (cutsR kind base most hs rs u v).length c1) 3 1 (cutsR kind base most hs rs u v).length ((cutsR kind base most hs rs u v).flatMap K.eI), K.blk b5 27 [.int .i64 u, .int .i64 v], K.blk b6 27 [.int .i64 u2, .int .i64 v2], K.blk b3 65 [.int .u8 x0, .int .u8 x1, .int .u8 x2, .int .u8 x3], K.blk b2 25 [.int .i64 kind, .int .i64 base, .int .i64 most, .slice A hs.length c, .slice B rs.length d]]) ?_ ?_
    · refine K.draw_L [] Try_mixed ?_
      refine K.d_pure 0 rfl (K.move) (by kernel_rfl) rfl ?_
      dsimp only [setd, setn, ev, nth]
      refine K.d_pure 1 rfl (K.move) (by kernel_rfl) rfl ?_
      dsimp only [setd, setn, ev, nth]
      refine K.d_ix (M := [_]) 2 _ rfl (K.Sl.own (t := 3) (c := c1) (size := 1) (e := K.eI) hA1 (fun _ => rfl)) sl_22 rfl rfl rfl (by omega) (by kernel_rfl) rfl ?_
      intro p131 hp131
      try dsimp only [setd, setn, ev, nth, over, cl, eI, eP, eT, List.map, List.append, List.drop, List.take]
      refine K.d_mem 3 rfl (K.load1 one_3 rfl (hp131.at1 (K.m7))) (fun _ h => h) (by kernel_rfl) (by kernel_rfl) rfl ?_
      try dsimp only [setd, setn, ev, nth, over, cl, eI, eP, eT, List.map, List.append, List.drop, List.take]
      refine K.d_pure 4 rfl (K.Pure.eq (K.lss rfl rfl) (show _ = Value.bool false from congrArg Value.bool (decide_eq_false (hi_0 g hsc hk)))) (by kernel_rfl) rfl ?_
      dsimp only [setd, setn, ev, nth]
      refine K.d_pure 5 rfl (K.move) (by kernel_rfl) rfl ?_
      dsimp only [setd, setn, ev, nth]
      refine K.d_mem 6 rfl (K.loadA_own ag_27 rfl (K.m8) rfl) (fun _ h => h) (by kernel_rfl) (by kernel_rfl) rfl ?_
      try dsimp only [setd, setn, ev, nth, over, cl, eI, eP, eT, List.map, List.append, List.drop, List.take]
      refine K.d_mem 7 rfl (K.loadA_own ag_27 rfl (K.m9) rfl) (fun _ h => h) (by kernel_rfl) (by kernel_rfl) rfl ?_
      try dsimp only [setd, setn, ev, nth, over, cl, eI, eP, eT, List.map, List.append, List.drop, List.take]
      refine K.d_call 8 rfl (K.call_g cal_43 (fun F w hF hw => c43 (a := u) (b := v) (c := u2) (d := v2) (by omega) (by omega) (by omega) (by omega) (by omega) (by omega) (by omega) (by omega) w)) (fun _ h => h) (by kernel_rfl) rfl ?_
      try dsimp only [setd, setn, ev, nth, over, cl, eI, eP, eT, List.map, List.append, List.drop, List.take]
      refine K.d_pure 9 rfl (K.move) (by kernel_rfl) rfl ?_
      dsimp only [setd, setn, ev, nth]
      refine K.dsplit 138 rfl (fun hg138 => ?_) (fun hg138 => ?_)
      · try replace hg138 := of_decide_eq_true hg138
        refine K.d_pure 10 rfl (K.move) (by kernel_rfl) rfl ?_
        dsimp only [setd, setn, ev, nth]
        refine K.d_pure 11 rfl (K.move) (by kernel_rfl) rfl ?_
        dsimp only [setd, setn, ev, nth]
        refine K.d_ix (M := [_]) 12 _ rfl (K.Sl.own (t := 3) (c := c1) (size := 1) (e := K.eI) hA1 (fun _ => rfl)) sl_22 rfl rfl rfl (by omega) (by kernel_rfl) rfl ?_
        intro p141 hp141
        try dsimp only [setd, setn, ev, nth, over, cl, eI, eP, eT, List.map, List.append, List.drop, List.take]
        refine K.d_mem 13 rfl (K.load1 one_3 rfl (hp141.at1 (K.m7))) (fun _ h => h) (by kernel_rfl) (by kernel_rfl) rfl ?_
        try dsimp only [setd, setn, ev, nth, over, cl, eI, eP, eT, List.map, List.append, List.drop, List.take]
        refine K.d_pure 14 rfl (K.move) (by kernel_rfl) rfl ?_
        dsimp only [setd, setn, ev, nth]
        refine K.d_pure 15 rfl (K.move) (by kernel_rfl) rfl ?_
        dsimp only [setd, setn, ev, nth]
        refine K.d_ix (M := [_]) 16 _ rfl (K.Sl.own (t := 3) (c := c2) (size := 1) (e := K.eI) hA2 (fun _ => rfl)) sl_22 rfl rfl rfl (by omega) (by kernel_rfl) rfl ?_
        intro p145 hp145
        try dsimp only [setd, setn, ev, nth, over, cl, eI, eP, eT, List.map, List.append, List.drop, List.take]
        refine K.d_mem 17 rfl (K.load1 one_3 rfl (hp145.at1 (K.m6))) (fun _ h => h) (by kernel_rfl) (by kernel_rfl) rfl ?_
        try dsimp only [setd, setn, ev, nth, over, cl, eI, eP, eT, List.map, List.append, List.drop, List.take]
        refine K.d_pure 18 rfl (K.Pure.eq (K.gtr rfl rfl) (show _ = Value.bool false from congrArg Value.bool (decide_eq_false (hi_less g hsc hsc2 hg138 hk)))) (by kernel_rfl) rfl ?_
        dsimp only [setd, setn, ev, nth]
        refine K.d_pure 19 rfl (K.pick_t rfl) (by kernel_rfl) rfl ?_
        dsimp only [setd, setn, ev, nth]
        refine K.d_pure 20 rfl (K.pick_f rfl) (by kernel_rfl) rfl ?_
        dsimp only [setd, setn, ev, nth]
        refine K.d_pure 21 rfl (K.move) (by kernel_rfl) rfl ?_
        dsimp only [setd, setn, ev, nth]
        refine K.d_pure 22 rfl (K.move) (by kernel_rfl) rfl ?_
        dsimp only [setd, setn, ev, nth]
        refine K.d_pure 23 rfl (K.move) (by kernel_rfl) rfl ?_
        dsimp only [setd, setn, ev, nth]
        refine K.d_ix (M := [_]) 24 _ rfl (K.Sl.own (t := 3) (c := c3) (size := 1) (e := K.eI) hA3 (fun _ => rfl)) sl_22 rfl rfl rfl (by omega) (by kernel_rfl) rfl ?_
        intro p153 hp153
        try dsimp only [setd, setn, ev, nth, over, cl, eI, eP, eT, List.map, List.append, List.drop, List.take]
        refine K.d_mem 25 rfl (K.load1 one_3 rfl (hp153.at1 (K.m2))) (fun _ h => h) (by kernel_rfl) (by kernel_rfl) rfl ?_
        try dsimp only [setd, setn, ev, nth, over, cl, eI, eP, eT, List.map, List.append, List.drop, List.take]
        refine K.d_pure 26 rfl (K.move) (by kernel_rfl) rfl ?_
        dsimp only [setd, setn, ev, nth]
        refine K.d_pure 27 rfl (K.move) (by kernel_rfl) rfl ?_
        dsimp only [setd, setn, ev, nth]
        refine K.d_ix (M := [_]) 28 _ rfl (K.Sl.own (t := 3) (c := c4) (size := 1) (e := K.eI) hA4 (fun _ => rfl)) sl_22 rfl rfl rfl (by omega) (by kernel_rfl) rfl ?_
        intro p157 hp157
        try dsimp only [setd, setn, ev, nth, over, cl, eI, eP, eT, List.map, List.append, List.drop, List.take]
        refine K.d_mem 29 rfl (K.load1 one_3 rfl (hp157.at1 (K.m1))) (fun _ h => h) (by kernel_rfl) (by kernel_rfl) rfl ?_
        try dsimp only [setd, setn, ev, nth, over, cl, eI, eP, eT, List.map, List.append, List.drop, List.take]
        refine K.d_pure 30 rfl (K.Pure.eq (K.gtr rfl rfl) (show _ = Value.bool false from congrArg Value.bool (decide_eq_false ((hi_kind g hsc hk).1)))) (by kernel_rfl) rfl ?_
        dsimp only [setd, setn, ev, nth]
        refine K.d_pure 31 rfl (K.pick_f rfl) (by kernel_rfl) rfl ?_
        dsimp only [setd, setn, ev, nth]
        refine K.d_pure 32 rfl (K.move) (by kernel_rfl) rfl ?_
        dsimp only [setd, setn, ev, nth]
        refine K.d_pure 33 rfl (K.move) (by kernel_rfl) rfl ?_
        dsimp only [setd, setn, ev, nth]
        refine K.d_pure 34 rfl (K.move) (by kernel_rfl) rfl ?_
        dsimp only [setd, setn, ev, nth]
        refine K.d_ix (M := [_]) 35 _ rfl (K.Sl.own (t := 3) (c := c4) (size := 1) (e := K.eI) hA4 (fun _ => rfl)) sl_22 rfl rfl rfl (by omega) (by kernel_rfl) rfl ?_
        intro p164 hp164
        try dsimp only [setd, setn, ev, nth, over, cl, eI, eP, eT, List.map, List.append, List.drop, List.take]
        refine K.d_mem 36 rfl (K.load1 one_3 rfl (hp164.at1 (K.m1))) (fun _ h => h) (by kernel_rfl) (by kernel_rfl) rfl ?_
        try dsimp only [setd, setn, ev, nth, over, cl, eI, eP, eT, List.map, List.append, List.drop, List.take]
        refine K.d_pure 37 rfl (K.move) (by kernel_rfl) rfl ?_
        dsimp only [setd, setn, ev, nth]
        refine K.d_pure 38 rfl (K.move) (by kernel_rfl) rfl ?_
        dsimp only [setd, setn, ev, nth]
        refine K.d_ix (M := [_]) 39 _ rfl (K.Sl.own (t := 3) (c := c5) (size := 1) (e := K.eI) hA5 (fun _ => rfl)) sl_22 rfl rfl rfl (by omega) (by kernel_rfl) rfl ?_
        intro p168 hp168
        try dsimp only [setd, setn, ev, nth, over, cl, eI, eP, eT, List.map, List.append, List.drop, List.take]
        refine K.d_mem 40 rfl (K.load1 one_3 rfl (hp168.at1 (K.m0))) (fun _ h => h) (by kernel_rfl) (by kernel_rfl) rfl ?_
        try dsimp only [setd, setn, ev, nth, over, cl, eI, eP, eT, List.map, List.append, List.drop, List.take]
        refine K.d_pure 41 rfl (K.Pure.eq (K.gtr rfl rfl) (show _ = Value.bool false from congrArg Value.bool (decide_eq_false ((hi_kind g hsc hk).2.1)))) (by kernel_rfl) rfl ?_
        dsimp only [setd, setn, ev, nth]
        refine K.d_pure 42 rfl (K.pick_f rfl) (by kernel_rfl) rfl ?_
        dsimp only [setd, setn, ev, nth]
        refine K.d_pure 43 rfl (K.move) (by kernel_rfl) rfl ?_
        dsimp only [setd, setn, ev, nth]
        refine K.d_pure 44 rfl (K.move) (by kernel_rfl) rfl ?_
        dsimp only [setd, setn, ev, nth]
        refine K.d_pure 45 rfl (K.move) (by kernel_rfl) rfl ?_
        dsimp only [setd, setn, ev, nth]
        refine K.d_ix (M := [_]) 46 _ rfl (K.Sl.own (t := 3) (c := c5) (size := 1) (e := K.eI) hA5 (fun _ => rfl)) sl_22 rfl rfl rfl (by omega) (by kernel_rfl) rfl ?_
        intro p175 hp175
        try dsimp only [setd, setn, ev, nth, over, cl, eI, eP, eT, List.map, List.append, List.drop, List.take]
        refine K.d_mem 47 rfl (K.load1 one_3 rfl (hp175.at1 (K.m0))) (fun _ h => h) (by kernel_rfl) (by kernel_rfl) rfl ?_
        try dsimp only [setd, setn, ev, nth, over, cl, eI, eP, eT, List.map, List.append, List.drop, List.take]
        refine K.d_pure 48 rfl (K.move) (by kernel_rfl) rfl ?_
        dsimp only [setd, setn, ev, nth]
        refine K.d_pure 49 rfl (K.move) (by kernel_rfl) rfl ?_
        dsimp only [setd, setn, ev, nth]
        refine K.d_ix (M := [_]) 50 _ rfl (K.Sl.own (t := 3) (c := c3) (size := 1) (e := K.eI) hA3 (fun _ => rfl)) sl_22 rfl rfl rfl (by omega) (by kernel_rfl) rfl ?_
        intro p179 hp179
        try dsimp only [setd, setn, ev, nth, over, cl, eI, eP, eT, List.map, List.append, List.drop, List.take]
        refine K.d_mem 51 rfl (K.load1 one_3 rfl (hp179.at1 (K.m2))) (fun _ h => h) (by kernel_rfl) (by kernel_rfl) rfl ?_
        try dsimp only [setd, setn, ev, nth, over, cl, eI, eP, eT, List.map, List.append, List.drop, List.take]
        refine K.d_pure 52 rfl (K.add_i64 rfl rfl (by omega)) (by kernel_rfl) rfl ?_
        dsimp only [setd, setn, ev, nth]
        refine K.d_pure 53 rfl (K.Pure.eq (K.gtr rfl rfl) (show _ = Value.bool false from congrArg Value.bool (decide_eq_false ((hi_kind g hsc hk).2.2.1)))) (by kernel_rfl) rfl ?_
        dsimp only [setd, setn, ev, nth]
        refine K.d_pure 54 rfl (K.pick_f rfl) (by kernel_rfl) rfl ?_
        dsimp only [setd, setn, ev, nth]
        refine K.d_done (by kernel_rfl) ?_
        exact K.join_here (L' := [K.row (.slice A5 (cutsR 3 base most hs rs u v).length c5) 3 1 (cutsR 3 base most hs rs u v).length ((cutsR 3 base most hs rs u v).flatMap K.eI), K.row (.slice A4 (cutsR 2 base most hs rs u v).length c4) 3 1 (cutsR 2 base most hs rs u v).length ((cutsR 2 base most hs rs u v).flatMap K.eI), K.row (.slice A3 (cutsR 1 base most hs rs u v).length c3) 3 1 (cutsR 1 base most hs rs u v).length ((cutsR 1 base most hs rs u v).flatMap K.eI), K.blk b12 25 [.int .i64 1, .int .i64 base, .int .i64 most, .slice A hs.length c, .slice B rs.length d], K.blk b13 25 [.int .i64 2, .int .i64 base, .int .i64 most, .slice A hs.length c, .slice B rs.length d], K.blk b14 25 [.int .i64 3, .int .i64 base, .int .i64 most, .slice A hs.length c, .slice B rs.length d], K.row (.slice A2 (cutsR kind base most hs rs u2 v2).length c2) 3 1 (cutsR kind base most hs rs u2 v2).length ((cutsR kind base most hs rs u2 v2).flatMap K.eI), K.row (.slice A1 (cutsR kind base most hs rs u v).length c1) 3 1 (cutsR kind base most hs rs u v).length ((cutsR kind base most hs rs u v).flatMap K.eI), K.blk b5 27 [.int .i64 u, .int .i64 v], K.blk b6 27 [.int .i64 u2, .int .i64 v2], K.blk b3 65 [.int .u8 x0, .int .u8 x1, .int .u8 x2, .int .u8 x3], K.blk b2 25 [.int .i64 kind, .int .i64 base, .int .i64 most, .slice A hs.length c, .slice B rs.length d]]) [.bool false] ⟨rfl, rfl⟩ (fun w h => h) (by kernel_rfl)
      try replace hg138 := of_decide_eq_false hg138
      refine K.d_skip 10 rfl (by kernel_rfl) rfl ?_
      try dsimp only [setd, setn, ev, nth, over, cl, eI, eP, eT, List.map, List.append, List.drop, List.take]
      refine K.d_skip 11 rfl (by kernel_rfl) rfl ?_
      try dsimp only [setd, setn, ev, nth, over, cl, eI, eP, eT, List.map, List.append, List.drop, List.take]
      refine K.d_skip 12 rfl (by kernel_rfl) rfl ?_
      try dsimp only [setd, setn, ev, nth, over, cl, eI, eP, eT, List.map, List.append, List.drop, List.take]
      refine K.d_skip 13 rfl (by kernel_rfl) rfl ?_
      try dsimp only [setd, setn, ev, nth, over, cl, eI, eP, eT, List.map, List.append, List.drop, List.take]
      refine K.d_skip 14 rfl (by kernel_rfl) rfl ?_
      try dsimp only [setd, setn, ev, nth, over, cl, eI, eP, eT, List.map, List.append, List.drop, List.take]
      refine K.d_skip 15 rfl (by kernel_rfl) rfl ?_
      try dsimp only [setd, setn, ev, nth, over, cl, eI, eP, eT, List.map, List.append, List.drop, List.take]
      refine K.d_skip 16 rfl (by kernel_rfl) rfl ?_
      try dsimp only [setd, setn, ev, nth, over, cl, eI, eP, eT, List.map, List.append, List.drop, List.take]
      refine K.d_skip 17 rfl (by kernel_rfl) rfl ?_
      try dsimp only [setd, setn, ev, nth, over, cl, eI, eP, eT, List.map, List.append, List.drop, List.take]
      refine K.d_skip 18 rfl (by kernel_rfl) rfl ?_
      try dsimp only [setd, setn, ev, nth, over, cl, eI, eP, eT, List.map, List.append, List.drop, List.take]
      refine K.d_pure 19 rfl (K.pick_f rfl) (by kernel_rfl) rfl ?_
      dsimp only [setd, setn, ev, nth]
      refine K.d_pure 20 rfl (K.pick_f rfl) (by kernel_rfl) rfl ?_
      dsimp only [setd, setn, ev, nth]
      refine K.d_pure 21 rfl (K.move) (by kernel_rfl) rfl ?_
      dsimp only [setd, setn, ev, nth]
      refine K.d_pure 22 rfl (K.move) (by kernel_rfl) rfl ?_
      dsimp only [setd, setn, ev, nth]
      refine K.d_pure 23 rfl (K.move) (by kernel_rfl) rfl ?_
      dsimp only [setd, setn, ev, nth]
      refine K.d_ix (M := [_]) 24 _ rfl (K.Sl.own (t := 3) (c := c3) (size := 1) (e := K.eI) hA3 (fun _ => rfl)) sl_22 rfl rfl rfl (by omega) (by kernel_rfl) rfl ?_
      intro p153 hp153
      try dsimp only [setd, setn, ev, nth, over, cl, eI, eP, eT, List.map, List.append, List.drop, List.take]
      refine K.d_mem 25 rfl (K.load1 one_3 rfl (hp153.at1 (K.m2))) (fun _ h => h) (by kernel_rfl) (by kernel_rfl) rfl ?_
      try dsimp only [setd, setn, ev, nth, over, cl, eI, eP, eT, List.map, List.append, List.drop, List.take]
      refine K.d_pure 26 rfl (K.move) (by kernel_rfl) rfl ?_
      dsimp only [setd, setn, ev, nth]
      refine K.d_pure 27 rfl (K.move) (by kernel_rfl) rfl ?_
      dsimp only [setd, setn, ev, nth]
      refine K.d_ix (M := [_]) 28 _ rfl (K.Sl.own (t := 3) (c := c4) (size := 1) (e := K.eI) hA4 (fun _ => rfl)) sl_22 rfl rfl rfl (by omega) (by kernel_rfl) rfl ?_
      intro p157 hp157
      try dsimp only [setd, setn, ev, nth, over, cl, eI, eP, eT, List.map, List.append, List.drop, List.take]
      refine K.d_mem 29 rfl (K.load1 one_3 rfl (hp157.at1 (K.m1))) (fun _ h => h) (by kernel_rfl) (by kernel_rfl) rfl ?_
      try dsimp only [setd, setn, ev, nth, over, cl, eI, eP, eT, List.map, List.append, List.drop, List.take]
      refine K.d_pure 30 rfl (K.Pure.eq (K.gtr rfl rfl) (show _ = Value.bool false from congrArg Value.bool (decide_eq_false ((hi_kind g hsc hk).1)))) (by kernel_rfl) rfl ?_
      dsimp only [setd, setn, ev, nth]
      refine K.d_pure 31 rfl (K.pick_f rfl) (by kernel_rfl) rfl ?_
      dsimp only [setd, setn, ev, nth]
      refine K.d_pure 32 rfl (K.move) (by kernel_rfl) rfl ?_
      dsimp only [setd, setn, ev, nth]
      refine K.d_pure 33 rfl (K.move) (by kernel_rfl) rfl ?_
      dsimp only [setd, setn, ev, nth]
      refine K.d_pure 34 rfl (K.move) (by kernel_rfl) rfl ?_
      dsimp only [setd, setn, ev, nth]
      refine K.d_ix (M := [_]) 35 _ rfl (K.Sl.own (t := 3) (c := c4) (size := 1) (e := K.eI) hA4 (fun _ => rfl)) sl_22 rfl rfl rfl (by omega) (by kernel_rfl) rfl ?_
      intro p164 hp164
      try dsimp only [setd, setn, ev, nth, over, cl, eI, eP, eT, List.map, List.append, List.drop, List.take]
      refine K.d_mem 36 rfl (K.load1 one_3 rfl (hp164.at1 (K.m1))) (fun _ h => h) (by kernel_rfl) (by kernel_rfl) rfl ?_
      try dsimp only [setd, setn, ev, nth, over, cl, eI, eP, eT, List.map, List.append, List.drop, List.take]
      refine K.d_pure 37 rfl (K.move) (by kernel_rfl) rfl ?_
      dsimp only [setd, setn, ev, nth]
      refine K.d_pure 38 rfl (K.move) (by kernel_rfl) rfl ?_
      dsimp only [setd, setn, ev, nth]
      refine K.d_ix (M := [_]) 39 _ rfl (K.Sl.own (t := 3) (c := c5) (size := 1) (e := K.eI) hA5 (fun _ => rfl)) sl_22 rfl rfl rfl (by omega) (by kernel_rfl) rfl ?_
      intro p168 hp168
      try dsimp only [setd, setn, ev, nth, over, cl, eI, eP, eT, List.map, List.append, List.drop, List.take]
      refine K.d_mem 40 rfl (K.load1 one_3 rfl (hp168.at1 (K.m0))) (fun _ h => h) (by kernel_rfl) (by kernel_rfl) rfl ?_
      try dsimp only [setd, setn, ev, nth, over, cl, eI, eP, eT, List.map, List.append, List.drop, List.take]
      refine K.d_pure 41 rfl (K.Pure.eq (K.gtr rfl rfl) (show _ = Value.bool false from congrArg Value.bool (decide_eq_false ((hi_kind g hsc hk).2.1)))) (by kernel_rfl) rfl ?_
      dsimp only [setd, setn, ev, nth]
      refine K.d_pure 42 rfl (K.pick_f rfl) (by kernel_rfl) rfl ?_
      dsimp only [setd, setn, ev, nth]
      refine K.d_pure 43 rfl (K.move) (by kernel_rfl) rfl ?_
      dsimp only [setd, setn, ev, nth]
      refine K.d_pure 44 rfl (K.move) (by kernel_rfl) rfl ?_
      dsimp only [setd, setn, ev, nth]
      refine K.d_pure 45 rfl (K.move) (by kernel_rfl) rfl ?_
      dsimp only [setd, setn, ev, nth]
      refine K.d_ix (M := [_]) 46 _ rfl (K.Sl.own (t := 3) (c := c5) (size := 1) (e := K.eI) hA5 (fun _ => rfl)) sl_22 rfl rfl rfl (by omega) (by kernel_rfl) rfl ?_
      intro p175 hp175
      try dsimp only [setd, setn, ev, nth, over, cl, eI, eP, eT, List.map, List.append, List.drop, List.take]
      refine K.d_mem 47 rfl (K.load1 one_3 rfl (hp175.at1 (K.m0))) (fun _ h => h) (by kernel_rfl) (by kernel_rfl) rfl ?_
      try dsimp only [setd, setn, ev, nth, over, cl, eI, eP, eT, List.map, List.append, List.drop, List.take]
      refine K.d_pure 48 rfl (K.move) (by kernel_rfl) rfl ?_
      dsimp only [setd, setn, ev, nth]
      refine K.d_pure 49 rfl (K.move) (by kernel_rfl) rfl ?_
      dsimp only [setd, setn, ev, nth]
      refine K.d_ix (M := [_]) 50 _ rfl (K.Sl.own (t := 3) (c := c3) (size := 1) (e := K.eI) hA3 (fun _ => rfl)) sl_22 rfl rfl rfl (by omega) (by kernel_rfl) rfl ?_
      intro p179 hp179
      try dsimp only [setd, setn, ev, nth, over, cl, eI, eP, eT, List.map, List.append, List.drop, List.take]
      refine K.d_mem 51 rfl (K.load1 one_3 rfl (hp179.at1 (K.m2))) (fun _ h => h) (by kernel_rfl) (by kernel_rfl) rfl ?_
      try dsimp only [setd, setn, ev, nth, over, cl, eI, eP, eT, List.map, List.append, List.drop, List.take]
      refine K.d_pure 52 rfl (K.add_i64 rfl rfl (by omega)) (by kernel_rfl) rfl ?_
      dsimp only [setd, setn, ev, nth]
      refine K.d_pure 53 rfl (K.Pure.eq (K.gtr rfl rfl) (show _ = Value.bool false from congrArg Value.bool (decide_eq_false ((hi_kind g hsc hk).2.2.1)))) (by kernel_rfl) rfl ?_
      dsimp only [setd, setn, ev, nth]
      refine K.d_pure 54 rfl (K.pick_f rfl) (by kernel_rfl) rfl ?_
      dsimp only [setd, setn, ev, nth]
      refine K.d_done (by kernel_rfl) ?_
      exact K.join_here (L' := [K.row (.slice A5 (cutsR 3 base most hs rs u v).length c5) 3 1 (cutsR 3 base most hs rs u v).length ((cutsR 3 base most hs rs u v).flatMap K.eI), K.row (.slice A4 (cutsR 2 base most hs rs u v).length c4) 3 1 (cutsR 2 base most hs rs u v).length ((cutsR 2 base most hs rs u v).flatMap K.eI), K.row (.slice A3 (cutsR 1 base most hs rs u v).length c3) 3 1 (cutsR 1 base most hs rs u v).length ((cutsR 1 base most hs rs u v).flatMap K.eI), K.blk b12 25 [.int .i64 1, .int .i64 base, .int .i64 most, .slice A hs.length c, .slice B rs.length d], K.blk b13 25 [.int .i64 2, .int .i64 base, .int .i64 most, .slice A hs.length c, .slice B rs.length d], K.blk b14 25 [.int .i64 3, .int .i64 base, .int .i64 most, .slice A hs.length c, .slice B rs.length d], K.row (.slice A2 (cutsR kind base most hs rs u2 v2).length c2) 3 1 (cutsR kind base most hs rs u2 v2).length ((cutsR kind base most hs rs u2 v2).flatMap K.eI), K.row (.slice A1 (cutsR kind base most hs rs u v).length c1) 3 1 (cutsR kind base most hs rs u v).length ((cutsR kind base most hs rs u v).flatMap K.eI), K.blk b5 27 [.int .i64 u, .int .i64 v], K.blk b6 27 [.int .i64 u2, .int .i64 v2], K.blk b3 65 [.int .u8 x0, .int .u8 x1, .int .u8 x2, .int .u8 x3], K.blk b2 25 [.int .i64 kind, .int .i64 base, .int .i64 most, .slice A hs.length c, .slice B rs.length d]]) [.bool false] ⟨rfl, rfl⟩ (fun w h => h) (by kernel_rfl)
    intro vi vr L hJ
    obtain ⟨rfl, rfl⟩ := hJ
    try dsimp only [setd, setn, ev, nth, over, cl, eI, eP, eT, setM, setF, List.map, List.append, List.drop, List.take]
    refine K.norm_then ?_
    refine K.cond_false rfl ?_
    refine K.skip ?_
    refine K.norm_then ?_
    refine K.seq ?_
    refine K.region_lit ?_
    refine K.seq_pure (K.assign) rfl ?_
    dsimp only [setd, setn, ev, nth]
    refine K.seq_nil ?_
    refine K.norm_then ?_
    refine K.block ?_
    refine K.loopW [22] [4, 184, 185, 186, 187, 188, 189, 190, 191, 192, 193, 194, 195, 196, 197, 198, 199, 200, 201, 202, 203, 204, 205, 206, 207, 208, 209, 210] (fun vi L => ∃ m2 : Nat, vi = [.int .i64 (m2 : Int)] ∧ L = [K.row (.slice A5 (cutsR 3 base most hs rs u v).length c5) 3 1 (cutsR 3 base most hs rs u v).length ((cutsR 3 base most hs rs u v).flatMap K.eI), K.row (.slice A4 (cutsR 2 base most hs rs u v).length c4) 3 1 (cutsR 2 base most hs rs u v).length ((cutsR 2 base most hs rs u v).flatMap K.eI), K.row (.slice A3 (cutsR 1 base most hs rs u v).length c3) 3 1 (cutsR 1 base most hs rs u v).length ((cutsR 1 base most hs rs u v).flatMap K.eI), K.blk b12 25 [.int .i64 1, .int .i64 base, .int .i64 most, .slice A hs.length c, .slice B rs.length d], K.blk b13 25 [.int .i64 2, .int .i64 base, .int .i64 most, .slice A hs.length c, .slice B rs.length d], K.blk b14 25 [.int .i64 3, .int .i64 base, .int .i64 most, .slice A hs.length c, .slice B rs.length d], K.row (.slice A2 (cutsR kind base most hs rs u2 v2).length c2) 3 1 (cutsR kind base most hs rs u2 v2).length ((cutsR kind base most hs rs u2 v2).flatMap K.eI), K.row (.slice A1 (cutsR kind base most hs rs u v).length c1) 3 1 (cutsR kind base most hs rs u v).length ((cutsR kind base most hs rs u v).flatMap K.eI), K.blk b5 27 [.int .i64 u, .int .i64 v], K.blk b6 27 [.int .i64 u2, .int .i64 v2], K.blk b3 65 [.int .u8 x0, .int .u8 x1, .int .u8 x2, .int .u8 x3], K.blk b2 25 [.int .i64 kind, .int .i64 base, .int .i64 most, .slice A hs.length c, .slice B rs.length d]] ∧ m2 ≤ hs.length) (fun vi => hs.length - (intOf (K.nth vi 0)).toNat) ?_ ?_
    · exact ⟨0, rfl, rfl, Nat.zero_le _⟩
    intro vi vr L hJ
    obtain ⟨m2, rfl, rfl, hmn⟩ := hJ
    try dsimp only [setd, setn, ev, nth, over, cl, eI, eP, eT, setM, setF, List.map, List.append, List.drop, List.take]
    refine K.seq ?_
    refine K.seq ?_
    refine K.region_lit ?_
    refine K.seq_pure (K.move) rfl ?_
    dsimp only [setd, setn, ev, nth]
    refine K.seq_pure (K.move) rfl ?_
    dsimp only [setd, setn, ev, nth]
    refine K.seq_pure (K.lss rfl rfl) rfl ?_
    dsimp only [setd, setn, ev, nth]
    refine K.seq_nil ?_
    refine K.norm_then ?_
    refine K.cond rfl (fun ht186 => ?_) (fun ht186 => ?_)
    · try replace ht186 := of_decide_eq_true ht186
      have hm2 : m2 < hs.length := by omega
      refine K.skip ?_
      refine K.norm_then ?_
      refine K.seq ?_
      refine K.block ?_
      refine K.seq ?_
      refine K.draw_L [] Try_mixed ?_
      refine K.d_pure 0 rfl (K.fieldAddr_lit fo_25_3 rfl) (by kernel_rfl) rfl ?_
      dsimp only [setd, setn, ev, nth]
      refine K.d_mem 1 rfl (K.load1_own one_22 rfl (K.m11) rfl) (fun _ h => h) (by kernel_rfl) (by kernel_rfl) rfl ?_
      try dsimp only [setd, setn, ev, nth, over, cl, eI, eP, eT, List.map, List.append, List.drop, List.take]
      refine K.d_pure 2 rfl (K.move) (by kernel_rfl) rfl ?_
      dsimp only [setd, setn, ev, nth]
      refine K.d_ix (M := []) 3 _ rfl hH.sl sl_22 rfl rfl rfl (by omega) (by kernel_rfl) rfl ?_
      intro p192 hp192
      try dsimp only [setd, setn, ev, nth, over, cl, eI, eP, eT, List.map, List.append, List.drop, List.take]
      refine K.d_mem 4 rfl (K.load1 one_3 rfl (hp192.any)) (fun _ h => h) (by kernel_rfl) (by kernel_rfl) rfl ?_
      try dsimp only [setd, setn, ev, nth, over, cl, eI, eP, eT, List.map, List.append, List.drop, List.take]
      refine K.d_pure 5 rfl (K.fieldAddr_lit fo_25_3 rfl) (by kernel_rfl) rfl ?_
      dsimp only [setd, setn, ev, nth]
      refine K.d_mem 6 rfl (K.load1_own one_22 rfl (K.m11) rfl) (fun _ h => h) (by kernel_rfl) (by kernel_rfl) rfl ?_
      try dsimp only [setd, setn, ev, nth, over, cl, eI, eP, eT, List.map, List.append, List.drop, List.take]
      refine K.d_pure 7 rfl (K.move) (by kernel_rfl) rfl ?_
      dsimp only [setd, setn, ev, nth]
      refine K.d_ix (M := []) 8 _ rfl hH.sl sl_22 rfl rfl rfl (by omega) (by kernel_rfl) rfl ?_
      intro p197 hp197
      try dsimp only [setd, setn, ev, nth, over, cl, eI, eP, eT, List.map, List.append, List.drop, List.take]
      refine K.d_mem 9 rfl (K.load1 one_3 rfl (hp197.any)) (fun _ h => h) (by kernel_rfl) (by kernel_rfl) rfl ?_
      try dsimp only [setd, setn, ev, nth, over, cl, eI, eP, eT, List.map, List.append, List.drop, List.take]
      refine K.d_pure 10 rfl (K.leq rfl rfl) (by kernel_rfl) rfl ?_
      dsimp only [setd, setn, ev, nth]
      refine K.d_pure 11 rfl (K.move) (by kernel_rfl) rfl ?_
      dsimp only [setd, setn, ev, nth]
      refine K.dsplit 200 rfl (fun hg200 => ?_) (fun hg200 => ?_)
      · try replace hg200 := of_decide_eq_true hg200
        refine K.d_pure 12 rfl (K.move) (by kernel_rfl) rfl ?_
        dsimp only [setd, setn, ev, nth]
        refine K.d_pure 13 rfl (K.move) (by kernel_rfl) rfl ?_
        dsimp only [setd, setn, ev, nth]
        refine K.d_ix (M := [_]) 14 _ rfl (K.Sl.own (t := 3) (c := c1) (size := 1) (e := K.eI) hA1 (fun _ => rfl)) sl_22 rfl rfl rfl (by omega) (by kernel_rfl) rfl ?_
        intro p203 hp203
        try dsimp only [setd, setn, ev, nth, over, cl, eI, eP, eT, List.map, List.append, List.drop, List.take]
        refine K.d_mem 15 rfl (K.load1 one_3 rfl (hp203.at1 (K.m7))) (fun _ h => h) (by kernel_rfl) (by kernel_rfl) rfl ?_
        try dsimp only [setd, setn, ev, nth, over, cl, eI, eP, eT, List.map, List.append, List.drop, List.take]
        refine K.d_pure 16 rfl (K.move) (by kernel_rfl) rfl ?_
        dsimp only [setd, setn, ev, nth]
        refine K.d_pure 17 rfl (K.move) (by kernel_rfl) rfl ?_
        dsimp only [setd, setn, ev, nth]
        refine K.d_ix (M := [_]) 18 _ rfl (K.Sl.own (t := 3) (c := c1) (size := 1) (e := K.eI) hA1 (fun _ => rfl)) sl_22 rfl rfl rfl (by omega) (by kernel_rfl) rfl ?_
        intro p207 hp207
        try dsimp only [setd, setn, ev, nth, over, cl, eI, eP, eT, List.map, List.append, List.drop, List.take]
        refine K.d_mem 19 rfl (K.load1 one_3 rfl (hp207.at1 (K.m7))) (fun _ h => h) (by kernel_rfl) (by kernel_rfl) rfl ?_
        try dsimp only [setd, setn, ev, nth, over, cl, eI, eP, eT, List.map, List.append, List.drop, List.take]
        refine K.d_pure 20 rfl (K.Pure.eq (K.gtr rfl rfl) (show _ = Value.bool false from congrArg Value.bool (decide_eq_false (hi_pt g hsc hk hm2 hg200)))) (by kernel_rfl) rfl ?_
        dsimp only [setd, setn, ev, nth]
        refine K.d_pure 21 rfl (K.pick_t rfl) (by kernel_rfl) rfl ?_
        dsimp only [setd, setn, ev, nth]
        refine K.d_done (by kernel_rfl) ?_
        refine K.norm_then ?_
        refine K.cond_false rfl ?_
        refine K.skip ?_
        refine K.norm_block ?_
        refine K.norm_then ?_
        refine K.region_lit ?_
        refine K.seq_pure (K.move) rfl ?_
        dsimp only [setd, setn, ev, nth]
        refine K.seq_pure (K.add_i64 rfl rfl (by omega)) rfl ?_
        dsimp only [setd, setn, ev, nth]
        refine K.seq_pure (K.assign) rfl ?_
        dsimp only [setd, setn, ev, nth]
        refine K.seq_nil ?_
        exact K.round_endW (L'' := [K.row (.slice A5 (cutsR 3 base most hs rs u v).length c5) 3 1 (cutsR 3 base most hs rs u v).length ((cutsR 3 base most hs rs u v).flatMap K.eI), K.row (.slice A4 (cutsR 2 base most hs rs u v).length c4) 3 1 (cutsR 2 base most hs rs u v).length ((cutsR 2 base most hs rs u v).flatMap K.eI), K.row (.slice A3 (cutsR 1 base most hs rs u v).length c3) 3 1 (cutsR 1 base most hs rs u v).length ((cutsR 1 base most hs rs u v).flatMap K.eI), K.blk b12 25 [.int .i64 1, .int .i64 base, .int .i64 most, .slice A hs.length c, .slice B rs.length d], K.blk b13 25 [.int .i64 2, .int .i64 base, .int .i64 most, .slice A hs.length c, .slice B rs.length d], K.blk b14 25 [.int .i64 3, .int .i64 base, .int .i64 most, .slice A hs.length c, .slice B rs.length d], K.row (.slice A2 (cutsR kind base most hs rs u2 v2).length c2) 3 1 (cutsR kind base most hs rs u2 v2).length ((cutsR kind base most hs rs u2 v2).flatMap K.eI), K.row (.slice A1 (cutsR kind base most hs rs u v).length c1) 3 1 (cutsR kind base most hs rs u v).length ((cutsR kind base most hs rs u v).flatMap K.eI), K.blk b5 27 [.int .i64 u, .int .i64 v], K.blk b6 27 [.int .i64 u2, .int .i64 v2], K.blk b3 65 [.int .u8 x0, .int .u8 x1, .int .u8 x2, .int .u8 x3], K.blk b2 25 [.int .i64 kind, .int .i64 base, .int .i64 most, .slice A hs.length c, .slice B rs.length d]]) [.int .i64 ((m2 : Int) + 1)] ⟨m2 + 1, rfl, rfl, by omega⟩ (by simp [K.nth, intOf]; omega) (by (repeat (first | exact List.Sublist.refl _ | apply List.Sublist.cons)); done) (by kernel_rfl)
      try replace hg200 := of_decide_eq_false hg200
      refine K.d_skip 12 rfl (by kernel_rfl) rfl ?_
      try dsimp only [setd, setn, ev, nth, over, cl, eI, eP, eT, List.map, List.append, List.drop, List.take]
      refine K.d_skip 13 rfl (by kernel_rfl) rfl ?_
      try dsimp only [setd, setn, ev, nth, over, cl, eI, eP, eT, List.map, List.append, List.drop, List.take]
      refine K.d_skip 14 rfl (by kernel_rfl) rfl ?_
      try dsimp only [setd, setn, ev, nth, over, cl, eI, eP, eT, List.map, List.append, List.drop, List.take]
      refine K.d_skip 15 rfl (by kernel_rfl) rfl ?_
      try dsimp only [setd, setn, ev, nth, over, cl, eI, eP, eT, List.map, List.append, List.drop, List.take]
      refine K.d_skip 16 rfl (by kernel_rfl) rfl ?_
      try dsimp only [setd, setn, ev, nth, over, cl, eI, eP, eT, List.map, List.append, List.drop, List.take]
      refine K.d_skip 17 rfl (by kernel_rfl) rfl ?_
      try dsimp only [setd, setn, ev, nth, over, cl, eI, eP, eT, List.map, List.append, List.drop, List.take]
      refine K.d_skip 18 rfl (by kernel_rfl) rfl ?_
      try dsimp only [setd, setn, ev, nth, over, cl, eI, eP, eT, List.map, List.append, List.drop, List.take]
      refine K.d_skip 19 rfl (by kernel_rfl) rfl ?_
      try dsimp only [setd, setn, ev, nth, over, cl, eI, eP, eT, List.map, List.append, List.drop, List.take]
      refine K.d_skip 20 rfl (by kernel_rfl) rfl ?_
      try dsimp only [setd, setn, ev, nth, over, cl, eI, eP, eT, List.map, List.append, List.drop, List.take]
      refine K.d_pure 21 rfl (K.pick_f rfl) (by kernel_rfl) rfl ?_
      dsimp only [setd, setn, ev, nth]
      refine K.d_done (by kernel_rfl) ?_
      refine K.norm_then ?_
      refine K.cond_false rfl ?_
      refine K.skip ?_
      refine K.norm_block ?_
      refine K.norm_then ?_
      refine K.region_lit ?_
      refine K.seq_pure (K.move) rfl ?_
      dsimp only [setd, setn, ev, nth]
      refine K.seq_pure (K.add_i64 rfl rfl (by omega)) rfl ?_
      dsimp only [setd, setn, ev, nth]
      refine K.seq_pure (K.assign) rfl ?_
      dsimp only [setd, setn, ev, nth]
      refine K.seq_nil ?_
      exact K.round_endW (L'' := [K.row (.slice A5 (cutsR 3 base most hs rs u v).length c5) 3 1 (cutsR 3 base most hs rs u v).length ((cutsR 3 base most hs rs u v).flatMap K.eI), K.row (.slice A4 (cutsR 2 base most hs rs u v).length c4) 3 1 (cutsR 2 base most hs rs u v).length ((cutsR 2 base most hs rs u v).flatMap K.eI), K.row (.slice A3 (cutsR 1 base most hs rs u v).length c3) 3 1 (cutsR 1 base most hs rs u v).length ((cutsR 1 base most hs rs u v).flatMap K.eI), K.blk b12 25 [.int .i64 1, .int .i64 base, .int .i64 most, .slice A hs.length c, .slice B rs.length d], K.blk b13 25 [.int .i64 2, .int .i64 base, .int .i64 most, .slice A hs.length c, .slice B rs.length d], K.blk b14 25 [.int .i64 3, .int .i64 base, .int .i64 most, .slice A hs.length c, .slice B rs.length d], K.row (.slice A2 (cutsR kind base most hs rs u2 v2).length c2) 3 1 (cutsR kind base most hs rs u2 v2).length ((cutsR kind base most hs rs u2 v2).flatMap K.eI), K.row (.slice A1 (cutsR kind base most hs rs u v).length c1) 3 1 (cutsR kind base most hs rs u v).length ((cutsR kind base most hs rs u v).flatMap K.eI), K.blk b5 27 [.int .i64 u, .int .i64 v], K.blk b6 27 [.int .i64 u2, .int .i64 v2], K.blk b3 65 [.int .u8 x0, .int .u8 x1, .int .u8 x2, .int .u8 x3], K.blk b2 25 [.int .i64 kind, .int .i64 base, .int .i64 most, .slice A hs.length c, .slice B rs.length d]]) [.int .i64 ((m2 : Int) + 1)] ⟨m2 + 1, rfl, rfl, by omega⟩ (by simp [K.nth, intOf]; omega) (by (repeat (first | exact List.Sublist.refl _ | apply List.Sublist.cons)); done) (by kernel_rfl)
    try replace ht186 := of_decide_eq_false ht186
    refine K.exit ?_
    refine K.exit_then ?_
    refine K.exit_then ?_
    refine K.exit_here ?_
    refine K.norm_block ?_
    refine K.norm_then ?_
    refine K.region_lit ?_
    refine K.seq_pure (K.move) rfl ?_
    dsimp only [setd, setn, ev, nth]
    refine K.seq_pure (K.add_i64 rfl rfl (by omega)) rfl ?_
    dsimp only [setd, setn, ev, nth]
    refine K.seq_pure (K.assign) rfl ?_
    dsimp only [setd, setn, ev, nth]
    refine K.seq_nil ?_
    exact K.round_endW (L'' := [K.row (.slice A5 (cutsR 3 base most hs rs u v).length c5) 3 1 (cutsR 3 base most hs rs u v).length ((cutsR 3 base most hs rs u v).flatMap K.eI), K.row (.slice A4 (cutsR 2 base most hs rs u v).length c4) 3 1 (cutsR 2 base most hs rs u v).length ((cutsR 2 base most hs rs u v).flatMap K.eI), K.row (.slice A3 (cutsR 1 base most hs rs u v).length c3) 3 1 (cutsR 1 base most hs rs u v).length ((cutsR 1 base most hs rs u v).flatMap K.eI), K.blk b12 25 [.int .i64 1, .int .i64 base, .int .i64 most, .slice A hs.length c, .slice B rs.length d], K.blk b13 25 [.int .i64 2, .int .i64 base, .int .i64 most, .slice A hs.length c, .slice B rs.length d], K.blk b14 25 [.int .i64 3, .int .i64 base, .int .i64 most, .slice A hs.length c, .slice B rs.length d], K.row (.slice A2 (cutsR kind base most hs rs u2 v2).length c2) 3 1 (cutsR kind base most hs rs u2 v2).length ((cutsR kind base most hs rs u2 v2).flatMap K.eI), K.row (.slice A1 (cutsR kind base most hs rs u v).length c1) 3 1 (cutsR kind base most hs rs u v).length ((cutsR kind base most hs rs u v).flatMap K.eI), K.blk b5 27 [.int .i64 u, .int .i64 v], K.blk b6 27 [.int .i64 u2, .int .i64 v2], K.blk b3 65 [.int .u8 x0, .int .u8 x1, .int .u8 x2, .int .u8 x3], K.blk b2 25 [.int .i64 kind, .int .i64 base, .int .i64 most, .slice A hs.length c, .slice B rs.length d]]) [.int .i64 ((k : Int) + 1)] ⟨k + 1, rfl, rfl, by omega⟩ (by simp [K.nth, intOf]; omega) (by (repeat (first | exact List.Sublist.refl _ | apply List.Sublist.cons)); done) (by kernel_rfl)
  try replace ht126 := of_decide_eq_false ht126
  refine K.exit ?_
  refine K.exit_then ?_
  refine K.exit_then ?_
  refine K.exit_here ?_
  refine K.norm_then ?_
  refine K.seq ?_
  refine K.region_lit ?_
  refine K.seq_call (K.call_g cal_26 (fun F w hF hw => c26 w)) rfl ?_
  try dsimp only [setd, setn, ev, nth, over, cl, eI, eP, eT, List.map, List.append, List.drop, List.take]
  refine K.seq_pure (K.assign) rfl ?_
  dsimp only [setd, setn, ev, nth]
  refine K.seq_nil ?_
  refine K.norm_then ?_
  refine K.ret ?_
  refine K.end_ret (fun w _ => K.res_tmp rfl w) ?_
  exact K.gives rfl

end Go.Proofs.Ytafkbioeoklldaa
