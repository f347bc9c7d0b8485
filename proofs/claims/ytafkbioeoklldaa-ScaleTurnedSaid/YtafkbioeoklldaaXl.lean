/-
  Walks of the program's functions, printed by program: what each returns.
  Conditions stand in each theorem.
-/
import Derived.Test.YtafkbioeoklldaaKf
import Derived.Test.YtafkbioeoklldaaK2
import Derived.WalkArith
import Derived.Test.YtafkbioeoklldaaK4
import Derived.Test.YtafkbioeoklldaaK6
import Derived.Test.YtafkbioeoklldaaS9
import Derived.Test.YtafkbioeoklldaaWy
import Derived.Test.YtafkbioeoklldaaWp
import Derived.Test.YtafkbioeoklldaaWs
import Derived.Test.YtafkbioeoklldaaWb
import Derived.Test.YtafkbioeoklldaaWq
import Derived.Test.YtafkbioeoklldaaWx
set_option linter.unusedSimpArgs false
set_option linter.unusedVariables false
namespace Go.Proofs.Ytafkbioeoklldaa
open Go.RowKit Go
open Go.K (setd setn ev nth over cl eI eP eT setM setF)
attribute [local irreducible] K.blk K.row
theorem bl56t (a b : Int) : K.Bl Try.prog 56 [(0, .int .u8 a), (1, .int .u8 b)] (.agg #[.int .u8 a, .int .u8 b]) := fun w => by kernel_rfl
theorem bs23_0 : K.Bs Try.prog 23 0 [] 79 [] := fun w => by kernel_rfl
theorem ik_55t : K.ik Try.prog 55 = some .u16 := by kernel_rfl
theorem wrap16t {a : Int} (h : 0 ≤ a ∧ a ≤ 65535) : IntKind.i64.wrap a = a := IntWalk.i64_in _ (by omega)
theorem bs82 (a b c a2 b2 c2 : Int) (s t s2 t2 : Option Addr) (n m p q n2 m2 p2 q2 : Nat) : K.Bs Try.prog 82 2 [(0, .agg #[.int .i64 a, .int .i64 b, .int .i64 c, .slice s n m, .slice t p q]), (1, .agg #[.int .i64 a2, .int .i64 b2, .int .i64 c2, .slice s2 n2 m2, .slice t2 p2 q2])] 25 [.int .i64 a, .int .i64 b, .int .i64 c, .slice s n m, .slice t p q, .int .i64 a2, .int .i64 b2, .int .i64 c2, .slice s2 n2 m2, .slice t2 p2 q2] := fun w => by kernel_rfl
theorem c19e {A B : Option Addr} {c d : Nat} {xs ys : List Int} {w : World} (hX : K.Rd w A 1 K.eI xs) (hY : K.Rd w B 1 K.eI ys) (hn : xs.length ≤ 4611686018427387904) (h : ys = xs) : Calls Try.prog 19 [.slice A xs.length c, .slice B ys.length d].toArray w (K.Gives (.bool true) w) := by
  subst h; exact c19t hX hY hn
theorem rp0e {c c' c'' : K.Chunk} {L : List K.Chunk} (h : c' = c'') : K.Rep c c' (c :: L) (c'' :: L) := by subst h; exact K.rp0
def eC (x : Int × Int × Int × Value × Value) : List Value := [.int .i64 x.1, .int .i64 x.2.1, .int .i64 x.2.2.1, x.2.2.2.1, x.2.2.2.2]
theorem turn_len {rs : List (Int × Int)} {k : Nat} : (turnR rs k).length = rs.length := by simp [turnR]
theorem same_refl {hs : List Int} {rs : List (Int × Int)} : SameR hs hs rs rs := ⟨rfl, fun _ _ _ => ⟨fun _ _ => rfl, rfl⟩⟩

set_option maxRecDepth 100000 in
set_option maxHeartbeats 8000000 in
theorem c13 {kind base most : Int} {A B : Option Addr} {c d : Nat} {hs : List Int} {rs : List (Int × Int)} {x0 x1 x2 by_ : Int} {w : World} (hH : K.Rd w A 1 K.eI hs) (hR : K.Rd w B 2 K.eP rs) (hn : hs.length ≤ 4611686018427387904) (hm : rs.length ≤ 4611686018427387904) (hx0 : 0 ≤ x0 ∧ x0 ≤ 255) (hx1 : 0 ≤ x1 ∧ x1 ≤ 255) (hx2 : 0 ≤ x2 ∧ x2 ≤ 255) (hby : 0 ≤ by_ ∧ by_ ≤ 65535) :
    Calls Try.prog 13 [.agg #[.int .i64 kind, .int .i64 base, .int .i64 most, .slice A hs.length c, .slice B rs.length d], .agg #[.int .u8 x0, .int .u8 x1, .int .u8 x2], .int .u16 by_].toArray w (K.Gives (.bool true) w) := by
  refine K.enter (args := [.agg #[.int .i64 kind, .int .i64 base, .int .i64 most, .slice A hs.length c, .slice B rs.length d], .agg #[.int .u8 x0, .int .u8 x1, .int .u8 x2], .int .u16 by_]) Try.func13 rfl (n := 217) rfl ?_
  simp only [List.replicate, List.cons_append, List.nil_append]
  refine K.seq ?_
  refine K.region_lit ?_
  refine K.seq_new (K.box) rfl ?_
  intro b3
  try dsimp only [setd, setn, ev, nth, over, cl, eI, eP, eT, List.map, List.append, List.drop, List.take]
  refine K.seq_new (K.box) rfl ?_
  intro b4
  try dsimp only [setd, setn, ev, nth, over, cl, eI, eP, eT, List.map, List.append, List.drop, List.take]
  refine K.seq_pure (K.assign) rfl ?_
  dsimp only [setd, setn, ev, nth]
  refine K.seq_nil ?_
  refine K.norm_then ?_
  refine K.seq ?_
  refine K.seq ?_
  refine K.region_lit ?_
  refine K.seq_sil (K.loadA_own ag_25 rfl (K.m1) rfl) rfl ?_
  try dsimp only [setd, setn, ev, nth, over, cl, eI, eP, eT, List.map, List.append, List.drop, List.take]
  refine K.seq_call (K.call_g cal_39 (fun F w hF hw => c39 (hH.pass hw) (hR.pass hw) hn hm)) rfl ?_
  try dsimp only [setd, setn, ev, nth, over, cl, eI, eP, eT, List.map, List.append, List.drop, List.take]
  refine K.seq_pure (K.not_d rfl) rfl ?_
  dsimp only [setd, setn, ev, nth]
  refine K.seq_nil ?_
  refine K.norm_then ?_
  refine K.cond rfl (fun ht32 => ?_) (fun ht32 => ?_)
  · try replace ht32 := of_decide_eq_true ht32
    refine K.seq ?_
    refine K.region_lit ?_
    refine K.seq_call (K.call_g cal_26 (fun F w hF hw => c26 w)) rfl ?_
    try dsimp only [setd, setn, ev, nth, over, cl, eI, eP, eT, List.map, List.append, List.drop, List.take]
    refine K.seq_pure (K.assign) rfl ?_
    dsimp only [setd, setn, ev, nth]
    refine K.seq_nil ?_
    refine K.norm_then ?_
    refine K.ret ?_
    refine K.ret_then ?_
    refine K.end_ret (fun w _ => K.res_tmp rfl w) ?_
    exact K.gives rfl
  try replace ht32 := of_decide_eq_false ht32
  have hc0 : (chk kind base most hs rs).2.2 = 0 := Decidable.not_not.1 ht32
  have g := chk_good hc0
  have g1 := g.k
  have g2 := g.n
  have g3 := g.r
  have g4 := g.b
  have g5 := g.m
  refine K.skip ?_
  refine K.norm_then ?_
  refine K.seq ?_
  refine K.region_lit ?_
  refine K.seq_pure (K.indexAddr_ar ar_81 rfl rfl (by omega) (by omega)) rfl ?_
  try dsimp only [setd, setn, ev, nth, over, cl, eI, eP, eT, List.map, List.append, List.drop, List.take]
  refine K.seq_sil (K.load1_own one_5 rfl (K.m0) rfl) rfl ?_
  try dsimp only [setd, setn, ev, nth, over, cl, eI, eP, eT, List.map, List.append, List.drop, List.take]
  refine K.seq_pure (K.indexAddr_ar ar_81 rfl rfl (by omega) (by omega)) rfl ?_
  try dsimp only [setd, setn, ev, nth, over, cl, eI, eP, eT, List.map, List.append, List.drop, List.take]
  refine K.seq_sil (K.load1_own one_5 rfl (K.m0) rfl) rfl ?_
  try dsimp only [setd, setn, ev, nth, over, cl, eI, eP, eT, List.map, List.append, List.drop, List.take]
  refine K.seq_pure (K.build (bl56t _ _)) rfl ?_
  try dsimp only [setd, setn, ev, nth, over, cl, eI, eP, eT, List.map, List.append, List.drop, List.take]
  refine K.seq_loud (K.call_f cal_40 (fun F w hF hw => c40 hx0 hx1 w)) rfl ?_
  rintro ⟨u, v⟩ hsc
  try dsimp only [setd, setn, ev, nth, over, cl, eI, eP, eT, List.map, List.append, List.drop, List.take]
  refine K.seq_new (K.alloc zr_27) rfl ?_
  intro b7
  try dsimp only [setd, setn, ev, nth, over, cl, eI, eP, eT, List.map, List.append, List.drop, List.take]
  refine K.seq_st (K.store_all sz_27 rfl rfl rfl rfl (K.rp0)) rfl ?_
  try dsimp only [setd, setn, ev, nth, over, cl, eI, eP, eT, List.map, List.append, List.drop, List.take]
  refine K.seq_nil ?_
  refine K.norm_then ?_
  refine K.seq ?_
  refine K.region_lit ?_
  refine K.seq_sil (K.loadA_own ag_25 rfl (K.m2) rfl) rfl ?_
  try dsimp only [setd, setn, ev, nth, over, cl, eI, eP, eT, List.map, List.append, List.drop, List.take]
  refine K.seq_new (K.alloc zr_25) rfl ?_
  intro b8
  try dsimp only [setd, setn, ev, nth, over, cl, eI, eP, eT, List.map, List.append, List.drop, List.take]
  refine K.seq_st (K.store_all sz_25 rfl rfl rfl rfl (K.rp0)) rfl ?_
  try dsimp only [setd, setn, ev, nth, over, cl, eI, eP, eT, List.map, List.append, List.drop, List.take]
  refine K.seq_nil ?_
  refine K.norm_then ?_
  refine K.seq ?_
  refine K.region_lit ?_
  refine K.seq_new (K.buildSlice (bs23_0)) rfl ?_
  intro b41
  try dsimp only [setd, setn, ev, nth, over, cl, eI, eP, eT, List.map, List.append, List.drop, List.take]
  refine K.blk_row0 (size := 2) ?_
  try dsimp only [setd, setn, ev, nth, over, cl, eI, eP, eT, List.map, List.append, List.drop, List.take]
  refine K.seq_pure (K.fieldAddr_lit fo_25_4 rfl) rfl ?_
  dsimp only [setd, setn, ev, nth]
  refine K.seq_sil (K.load1_own one_23 rfl (K.m4) rfl) rfl ?_
  try dsimp only [setd, setn, ev, nth, over, cl, eI, eP, eT, List.map, List.append, List.drop, List.take]
  refine K.seq_upd (K.appendS el_23 rfl rfl hR.sl (fun _ => rfl) (K.oneP _) (by omega) (by omega) (fun _ _ => K.rp0)) rfl ?_
  rintro ⟨A44, c44⟩ _
  try dsimp only [setd, setn, ev, nth, over, cl, eI, eP, eT, List.map, List.append, List.drop, List.take]
  simp only [Nat.zero_add, List.nil_append]
  try dsimp only [setd, setn, ev, nth, over, cl, eI, eP, eT, List.map, List.append, List.drop, List.take]
  refine K.seq_pure (K.fieldAddr_lit fo_25_4 rfl) rfl ?_
  dsimp only [setd, setn, ev, nth]
  refine K.seq_st (K.store sz_23 rfl rfl rfl rfl (K.rp1)) rfl ?_
  try dsimp only [setd, setn, ev, nth, over, cl, eI, eP, eT, List.map, List.append, List.drop, List.take]
  refine K.seq_nil ?_
  refine K.norm_then ?_
  refine K.seqJ [] [9, 46, 47, 48, 49, 50, 51, 52, 53, 54, 55, 56, 57, 58, 59, 60, 61, 62, 63, 64, 65, 66, 67, 68, 69, 70, 71, 72, 73] (fun vi L => ∃ (Ab : Option Addr) (cb : Nat) (rb : List (Int × Int)) (bk : K.Chunk), vi = [] ∧ L = [bk, K.blk b8 25 [.int .i64 kind, .int .i64 base, .int .i64 most, .slice A hs.length c, .slice Ab rb.length cb], K.blk b7 27 [.int .i64 u, .int .i64 v], K.blk b4 81 [.int .u8 x0, .int .u8 x1, .int .u8 x2], K.blk b3 25 [.int .i64 kind, .int .i64 base, .int .i64 most, .slice A hs.length c, .slice B rs.length d]] ∧ SameR hs hs rs rb ∧ rb.length ≤ 8 ∧ (∀ (F : List K.Chunk) (w1 : World), bk ∈ F → K.St w F w1 → K.Rd w1 Ab 2 K.eP rb)) ?_ ?_
  · refine K.seq ?_
    refine K.use_row K.m0 (fun hA44 => ?_)
    refine K.region_lit ?_
    refine K.seq_pure (K.fieldAddr_lit fo_25_4 rfl) rfl ?_
    dsimp only [setd, setn, ev, nth]
    refine K.seq_sil (K.load1_own one_23 rfl (K.m4) rfl) rfl ?_
    try dsimp only [setd, setn, ev, nth, over, cl, eI, eP, eT, List.map, List.append, List.drop, List.take]
    refine K.seq_pure (K.len_sl sl_23 rfl) rfl ?_
    dsimp only [setd, setn, ev, nth]
    refine K.seq_pure (K.gtr rfl rfl) rfl ?_
    dsimp only [setd, setn, ev, nth]
    refine K.seq_nil ?_
    refine K.norm_then ?_
    refine K.cond rfl (fun ht49 => ?_) (fun ht49 => ?_)
    · try replace ht49 := of_decide_eq_true ht49
      have hk0 := Int.emod_nonneg x2 (show (rs.length : Int) ≠ 0 by omega)
      have hk1 := Int.emod_lt_of_pos x2 (show 0 < (rs.length : Int) by omega)
      have hkl : (x2 % (rs.length : Int)).toNat < rs.length := by omega
      obtain ⟨gb, rfl⟩ := hA44.resolve_left (by omega)
      refine K.row_blk (fun rest => ?_)
      have hfit : 0 + (x2 % (rs.length : Int)).toNat * 2 + 2 ≤ (rs.flatMap K.eP ++ rest).length := by
        rw [List.length_append, K.flat_len (size := 2) (e := K.eP) (fun _ => rfl)]
        omega
      refine K.seq ?_
      refine K.region_lit ?_
      refine K.seq_pure (K.indexAddr_ar ar_81 rfl rfl (by omega) (by omega)) rfl ?_
      try dsimp only [setd, setn, ev, nth, over, cl, eI, eP, eT, List.map, List.append, List.drop, List.take]
      refine K.seq_sil (K.load1_own one_5 rfl (K.m3) rfl) rfl ?_
      try dsimp only [setd, setn, ev, nth, over, cl, eI, eP, eT, List.map, List.append, List.drop, List.take]
      refine K.seq_pure (K.Pure.eq (K.conv_int ik_5 ik_3 rfl) (by rw [wrap8 hx2])) rfl ?_
      try dsimp only [setd, setn, ev, nth, over, cl, eI, eP, eT, List.map, List.append, List.drop, List.take]
      refine K.seq_pure (K.fieldAddr_lit fo_25_4 rfl) rfl ?_
      dsimp only [setd, setn, ev, nth]
      refine K.seq_sil (K.load1_own one_23 rfl (K.m4) rfl) rfl ?_
      try dsimp only [setd, setn, ev, nth, over, cl, eI, eP, eT, List.map, List.append, List.drop, List.take]
      refine K.seq_pure (K.len_sl sl_23 rfl) rfl ?_
      dsimp only [setd, setn, ev, nth]
      refine K.seq_pure (K.rem_i64 rfl rfl (by omega) (by omega)) rfl ?_
      dsimp only [setd, setn, ev, nth]
      refine K.seq_pure (K.assign) rfl ?_
      dsimp only [setd, setn, ev, nth]
      refine K.seq_nil ?_
      refine K.norm_then ?_
      refine K.draw_L [17] Try_mixed ?_
      refine K.d_pure 0 rfl (K.fieldAddr_lit fo_25_4 rfl) (by kernel_rfl) rfl ?_
      dsimp only [setd, setn, ev, nth]
      refine K.d_mem 1 rfl (K.load1_own one_23 rfl (K.m1) rfl) (fun _ h => h) (by kernel_rfl) (by kernel_rfl) rfl ?_
      try dsimp only [setd, setn, ev, nth, over, cl, eI, eP, eT, List.map, List.append, List.drop, List.take]
      refine K.d_pure 2 rfl (K.move) (by kernel_rfl) rfl ?_
      dsimp only [setd, setn, ev, nth]
      refine K.d_pure 3 rfl (K.fieldAddr_lit fo_25_4 rfl) (by kernel_rfl) rfl ?_
      dsimp only [setd, setn, ev, nth]
      refine K.d_mem 4 rfl (K.load1_own one_23 rfl (K.m4) rfl) (fun _ h => h) (by kernel_rfl) (by kernel_rfl) rfl ?_
      try dsimp only [setd, setn, ev, nth, over, cl, eI, eP, eT, List.map, List.append, List.drop, List.take]
      refine K.d_pure 5 rfl (K.move) (by kernel_rfl) rfl ?_
      dsimp only [setd, setn, ev, nth]
      refine K.d_ix (M := []) 6 (x2 % (rs.length : Int)).toNat rfl hR.sl sl_23 rfl rfl (by omega) (by omega) (by kernel_rfl) rfl ?_
      intro p63 hp63
      try dsimp only [setd, setn, ev, nth, over, cl, eI, eP, eT, List.map, List.append, List.drop, List.take]
      refine K.d_pure 7 rfl (K.fieldAddr fo_79_1 rfl) (by kernel_rfl) rfl ?_
      dsimp only [setd, setn, ev, nth]
      refine K.d_mem 8 rfl (K.load1 one_3 rfl ((K.PtrL.fld hp63 (k := 1)).any)) (fun _ h => h) (by kernel_rfl) (by kernel_rfl) rfl ?_
      try dsimp only [setd, setn, ev, nth, over, cl, eI, eP, eT, List.map, List.append, List.drop, List.take]
      refine K.d_pure 9 rfl (K.fieldAddr_lit fo_25_4 rfl) (by kernel_rfl) rfl ?_
      dsimp only [setd, setn, ev, nth]
      refine K.d_mem 10 rfl (K.load1_own one_23 rfl (K.m4) rfl) (fun _ h => h) (by kernel_rfl) (by kernel_rfl) rfl ?_
      try dsimp only [setd, setn, ev, nth, over, cl, eI, eP, eT, List.map, List.append, List.drop, List.take]
      refine K.d_pure 11 rfl (K.move) (by kernel_rfl) rfl ?_
      dsimp only [setd, setn, ev, nth]
      refine K.d_ix (M := []) 12 (x2 % (rs.length : Int)).toNat rfl hR.sl sl_23 rfl rfl (by omega) (by omega) (by kernel_rfl) rfl ?_
      intro p69 hp69
      try dsimp only [setd, setn, ev, nth, over, cl, eI, eP, eT, List.map, List.append, List.drop, List.take]
      refine K.d_pure 13 rfl (K.fieldAddr fo_79_0 rfl) (by kernel_rfl) rfl ?_
      dsimp only [setd, setn, ev, nth]
      refine K.d_mem 14 rfl (K.load1 one_3 rfl ((K.PtrL.fld hp69 (k := 0)).any)) (fun _ h => h) (by kernel_rfl) (by kernel_rfl) rfl ?_
      try dsimp only [setd, setn, ev, nth, over, cl, eI, eP, eT, List.map, List.append, List.drop, List.take]
      refine K.d_pure 15 rfl (K.build (bl79 _ _)) (by kernel_rfl) rfl ?_
      try dsimp only [setd, setn, ev, nth, over, cl, eI, eP, eT, List.map, List.append, List.drop, List.take]
      refine K.d_pure 16 rfl (K.Pure.eq (K.indexAddr_sl sl_23 rfl rfl (by omega) (by omega)) (show _ = Value.pointer (some ⟨gb, 0 + (x2 % (rs.length : Int)).toNat * 2, none⟩) from by rw [K.add_lit])) (by kernel_rfl) rfl ?_
      try dsimp only [setd, setn, ev, nth, over, cl, eI, eP, eT, List.map, List.append, List.drop, List.take]
      try dsimp only [setd, setn, ev, nth, over, cl, eI, eP, eT, List.map, List.append, List.drop, List.take]
      refine K.d_last 17 rfl (K.store_ix (cs := rs.flatMap K.eP ++ rest) (i := 0 + (x2 % (rs.length : Int)).toNat * 2) sz_79 rfl rfl hfit rfl (rp0e (congrArg (K.blk gb 79) (turn_cut (e := K.eP) (x := ((rs.getD (x2 % (rs.length : Int)).toNat default).2, (rs.getD (x2 % (rs.length : Int)).toNat default).1)) (fun _ => rfl) hkl)))) rfl (by kernel_rfl) rfl ?_
      intro _ _
      try dsimp only [setd, setn, ev, nth, over, cl, eI, eP, eT, List.map, List.append, List.drop, List.take]
      refine K.d_done (by kernel_rfl) ?_
      exact K.join_here (L' := [K.blk gb 79 ((turnR rs (x2 % (rs.length : Int)).toNat).flatMap K.eP ++ rest), K.blk b8 25 [.int .i64 kind, .int .i64 base, .int .i64 most, .slice A hs.length c, .slice (some ⟨gb, 0, none⟩) rs.length c44], K.blk b7 27 [.int .i64 u, .int .i64 v], K.blk b4 81 [.int .u8 x0, .int .u8 x1, .int .u8 x2], K.blk b3 25 [.int .i64 kind, .int .i64 base, .int .i64 most, .slice A hs.length c, .slice B rs.length d]]) [] ⟨some ⟨gb, 0, none⟩, c44, turnR rs (x2 % (rs.length : Int)).toNat, _, rfl, by rw [turn_len], same_turn, by rw [turn_len]; omega, fun F w1 hm hw => K.Rd.litp hw hm (fun _ => rfl) (by decide) rfl⟩ (fun w h => h) (by kernel_rfl)
    try replace ht49 := of_decide_eq_false ht49
    refine K.skip ?_
    exact K.join_here (L' := [K.row (.slice A44 rs.length c44) 79 2 rs.length (rs.flatMap K.eP), K.blk b8 25 [.int .i64 kind, .int .i64 base, .int .i64 most, .slice A hs.length c, .slice A44 rs.length c44], K.blk b7 27 [.int .i64 u, .int .i64 v], K.blk b4 81 [.int .u8 x0, .int .u8 x1, .int .u8 x2], K.blk b3 25 [.int .i64 kind, .int .i64 base, .int .i64 most, .slice A hs.length c, .slice B rs.length d]]) [] ⟨A44, c44, rs, _, rfl, rfl, same_refl, by omega, fun F w1 hm hw => K.Rd.own hw hm hA44 (fun _ => rfl) (by decide)⟩ (fun w h => h) (by kernel_rfl)
  intro vi vr L hJ
  obtain ⟨Ab, cb, rb, bk, rfl, rfl, hsr, hrb8, hRB⟩ := hJ
  try dsimp only [setd, setn, ev, nth, over, cl, eI, eP, eT, setM, setF, List.map, List.append, List.drop, List.take]
  refine K.seq ?_
  refine K.region_lit ?_
  refine K.seq_sil (K.loadA_own ag_25 rfl (K.m4) rfl) rfl ?_
  try dsimp only [setd, setn, ev, nth, over, cl, eI, eP, eT, List.map, List.append, List.drop, List.take]
  refine K.seq_new (K.alloc zr_25) rfl ?_
  intro b10
  try dsimp only [setd, setn, ev, nth, over, cl, eI, eP, eT, List.map, List.append, List.drop, List.take]
  refine K.seq_st (K.store_all sz_25 rfl rfl rfl rfl (K.rp0)) rfl ?_
  try dsimp only [setd, setn, ev, nth, over, cl, eI, eP, eT, List.map, List.append, List.drop, List.take]
  refine K.seq_nil ?_
  refine K.norm_then ?_
  refine K.seq ?_
  refine K.region_lit ?_
  refine K.seq_pure (K.fieldAddr_lit fo_25_1 rfl) rfl ?_
  dsimp only [setd, setn, ev, nth]
  refine K.seq_sil (K.load1_own one_3 rfl (K.m5) rfl) rfl ?_
  try dsimp only [setd, setn, ev, nth, over, cl, eI, eP, eT, List.map, List.append, List.drop, List.take]
  refine K.seq_pure (K.move) rfl ?_
  dsimp only [setd, setn, ev, nth]
  refine K.seq_pure (K.Pure.eq (K.conv_int ik_55t ik_3 rfl) (by rw [wrap16t hby])) rfl ?_
  try dsimp only [setd, setn, ev, nth, over, cl, eI, eP, eT, List.map, List.append, List.drop, List.take]
  refine K.seq_pure (K.add_i64 rfl rfl (by omega)) rfl ?_
  dsimp only [setd, setn, ev, nth]
  refine K.seq_pure (K.fieldAddr_lit fo_25_1 rfl) rfl ?_
  dsimp only [setd, setn, ev, nth]
  refine K.seq_st (K.store sz_3 rfl rfl rfl rfl (K.rp0)) rfl ?_
  try dsimp only [setd, setn, ev, nth, over, cl, eI, eP, eT, List.map, List.append, List.drop, List.take]
  refine K.seq_pure (K.fieldAddr_lit fo_25_3 rfl) rfl ?_
  dsimp only [setd, setn, ev, nth]
  refine K.seq_st (K.store sz_22 rfl rfl rfl rfl (K.rp0)) rfl ?_
  try dsimp only [setd, setn, ev, nth, over, cl, eI, eP, eT, List.map, List.append, List.drop, List.take]
  refine K.seq_nil ?_
  refine K.norm_then ?_
  refine K.seq ?_
  refine K.seq ?_
  refine K.region_lit ?_
  refine K.nil_row (e := 3) (size := 1) ?_
  refine K.seq_pure (K.assign) rfl ?_
  dsimp only [setd, setn, ev, nth]
  refine K.seq_nil ?_
  refine K.norm_then ?_
  refine K.block ?_
  refine K.loopW [11] [82, 83, 84, 85, 86, 87, 88, 89, 90, 91, 92, 93, 94, 95, 96, 97, 98, 99, 100, 101] (fun vi L => ∃ (i : Nat) (Qh : Option Addr) (qh : Nat), vi = [.int .i64 (i : Int)] ∧ L = [K.row (.slice Qh (upH (hs.take i) by_).length qh) 3 1 (upH (hs.take i) by_).length ((upH (hs.take i) by_).flatMap K.eI), K.blk b10 25 [.int .i64 kind, .int .i64 (base + by_), .int .i64 most, .slice Qh (upH (hs.take i) by_).length qh, .slice B rs.length d], bk, K.blk b8 25 [.int .i64 kind, .int .i64 base, .int .i64 most, .slice A hs.length c, .slice Ab rb.length cb], K.blk b7 27 [.int .i64 u, .int .i64 v], K.blk b4 81 [.int .u8 x0, .int .u8 x1, .int .u8 x2], K.blk b3 25 [.int .i64 kind, .int .i64 base, .int .i64 most, .slice A hs.length c, .slice B rs.length d]] ∧ i ≤ hs.length) (fun vi => hs.length - (intOf (K.nth vi 0)).toNat) ?_ ?_
  · exact ⟨0, none, 0, rfl, rfl, Nat.zero_le _⟩
  intro vi vr L hJ
  obtain ⟨i, Qh, qh, rfl, rfl, hil⟩ := hJ
  have hul : (upH (hs.take i) by_).length = i := by unfold upH; rw [List.length_map, List.length_take]; omega
  try dsimp only [setd, setn, ev, nth, over, cl, eI, eP, eT, setM, setF, List.map, List.append, List.drop, List.take]
  refine K.seq ?_
  refine K.seq ?_
  refine K.region_lit ?_
  refine K.seq_pure (K.move) rfl ?_
  dsimp only [setd, setn, ev, nth]
  refine K.seq_pure (K.fieldAddr_lit fo_25_3 rfl) rfl ?_
  dsimp only [setd, setn, ev, nth]
  refine K.seq_sil (K.load1_own one_22 rfl (K.m6) rfl) rfl ?_
  try dsimp only [setd, setn, ev, nth, over, cl, eI, eP, eT, List.map, List.append, List.drop, List.take]
  refine K.seq_pure (K.len_sl sl_22 rfl) rfl ?_
  dsimp only [setd, setn, ev, nth]
  refine K.seq_pure (K.lss rfl rfl) rfl ?_
  dsimp only [setd, setn, ev, nth]
  refine K.seq_nil ?_
  refine K.norm_then ?_
  refine K.cond rfl (fun ht86 => ?_) (fun ht86 => ?_)
  · try replace ht86 := of_decide_eq_true ht86
    have hi : i < hs.length := by omega
    have hgh := g.h _ (K.gt_mem hi)
    refine K.skip ?_
    refine K.norm_then ?_
    refine K.seq ?_
    refine K.block ?_
    refine K.draw_drop 1 [13] Try_mixed ?_
    refine K.d_pure 0 rfl (K.fieldAddr_lit fo_25_3 rfl) (by kernel_rfl) rfl ?_
    dsimp only [setd, setn, ev, nth]
    refine K.d_mem 1 rfl (K.load1_own one_22 rfl (K.m0) rfl) (fun _ h => K.tl h) (by kernel_rfl) (by kernel_rfl) rfl ?_
    try dsimp only [setd, setn, ev, nth, over, cl, eI, eP, eT, List.map, List.append, List.drop, List.take]
    refine K.d_pure 2 rfl (K.fieldAddr_lit fo_25_3 rfl) (by kernel_rfl) rfl ?_
    dsimp only [setd, setn, ev, nth]
    refine K.d_mem 3 rfl (K.load1_own one_22 rfl (K.m5) rfl) (fun _ h => K.tl h) (by kernel_rfl) (by kernel_rfl) rfl ?_
    try dsimp only [setd, setn, ev, nth, over, cl, eI, eP, eT, List.map, List.append, List.drop, List.take]
    refine K.d_pure 4 rfl (K.move) (by kernel_rfl) rfl ?_
    dsimp only [setd, setn, ev, nth]
    refine K.d_ix (M := []) 5 _ rfl hH.sl sl_22 rfl rfl rfl (by omega) (by kernel_rfl) rfl ?_
    intro p94 hp94
    try dsimp only [setd, setn, ev, nth, over, cl, eI, eP, eT, List.map, List.append, List.drop, List.take]
    refine K.d_mem 6 rfl (K.load1 one_3 rfl (hp94.any)) (fun _ h => K.tl h) (by kernel_rfl) (by kernel_rfl) rfl ?_
    try dsimp only [setd, setn, ev, nth, over, cl, eI, eP, eT, List.map, List.append, List.drop, List.take]
    refine K.d_pure 7 rfl (K.move) (by kernel_rfl) rfl ?_
    dsimp only [setd, setn, ev, nth]
    refine K.d_pure 8 rfl (K.Pure.eq (K.conv_int ik_55t ik_3 rfl) (by rw [wrap16t hby])) (by kernel_rfl) rfl ?_
    try dsimp only [setd, setn, ev, nth, over, cl, eI, eP, eT, List.map, List.append, List.drop, List.take]
    refine K.d_pure 9 rfl (K.add_i64 rfl rfl (by omega)) (by kernel_rfl) rfl ?_
    dsimp only [setd, setn, ev, nth]
    refine K.d_new 10 rfl (K.buildSlice (bs1 _)) (fun _ h => K.tl h) (by kernel_rfl) rfl ?_
    intro b99
    try dsimp only [setd, setn, ev, nth, over, cl, eI, eP, eT, List.map, List.append, List.drop, List.take]
    refine K.d_upd 11 rfl (K.append el_22 rfl rfl (K.PtrL.own' (K.m0)) rfl rfl (by decide) (by omega) (by omega) (fun _ _ => K.rp1)) (fun _ => fun _ h => K.tl (K.tl h)) (by kernel_rfl) rfl ?_
    rintro ⟨g100, c100⟩ _
    try dsimp only [setd, setn, ev, nth, over, cl, eI, eP, eT, List.map, List.append, List.drop, List.take]
    refine K.d_pure 12 rfl (K.fieldAddr_lit fo_25_3 rfl) (by kernel_rfl) rfl ?_
    dsimp only [setd, setn, ev, nth]
    refine K.d_last 13 rfl (K.store sz_22 rfl rfl rfl rfl (K.rp2)) rfl (by kernel_rfl) rfl ?_
    intro _ _
    try dsimp only [setd, setn, ev, nth, over, cl, eI, eP, eT, List.map, List.append, List.drop, List.take]
    refine K.d_done (by kernel_rfl) ?_
    refine K.norm_block ?_
    refine K.norm_then ?_
    refine K.region_lit ?_
    refine K.seq_pure (K.move) rfl ?_
    dsimp only [setd, setn, ev, nth]
    refine K.seq_pure (K.add_i64 rfl rfl (by omega)) rfl ?_
    dsimp only [setd, setn, ev, nth]
    refine K.seq_pure (K.assign) rfl ?_
    dsimp only [setd, setn, ev, nth]
    refine K.seq_nil ?_
    exact K.round_endW (L'' := [K.row (.slice (some ⟨g100, 0, none⟩) ((upH (hs.take i) by_).length + 1) c100) 3 1 ((upH (hs.take i) by_).length + 1) ((upH (hs.take i) by_).flatMap K.eI ++ [.int .i64 (hs.getD i default + by_)]), K.blk b10 25 [.int .i64 kind, .int .i64 (base + by_), .int .i64 most, .slice (some ⟨g100, 0, none⟩) ((upH (hs.take i) by_).length + 1) c100, .slice B rs.length d], bk, K.blk b8 25 [.int .i64 kind, .int .i64 base, .int .i64 most, .slice A hs.length c, .slice Ab rb.length cb], K.blk b7 27 [.int .i64 u, .int .i64 v], K.blk b4 81 [.int .u8 x0, .int .u8 x1, .int .u8 x2], K.blk b3 25 [.int .i64 kind, .int .i64 base, .int .i64 most, .slice A hs.length c, .slice B rs.length d]]) [.int .i64 ((i : Int) + 1)] ⟨i + 1, some ⟨g100, 0, none⟩, c100, rfl, by rw [show upH (hs.take (i + 1)) by_ = (upH (hs.take i) by_) ++ [hs.getD i default + by_] from take_succ_map _ hi, List.length_append, List.flatMap_append]; rfl, by omega⟩ (by simp [K.nth, intOf]; omega) (List.Sublist.cons _ (List.Sublist.cons_cons _ (List.Sublist.cons_cons _ (List.Sublist.cons_cons _ (List.Sublist.cons_cons _ (List.Sublist.cons_cons _ (List.Sublist.cons_cons _ (List.Sublist.cons_cons _ (List.nil_sublist _))))))))) (by kernel_rfl)
  try replace ht86 := of_decide_eq_false ht86
  refine K.exit ?_
  refine K.exit_then ?_
  refine K.exit_then ?_
  refine K.exit_here ?_
  refine K.norm_then ?_
  refine K.seq ?_
  have hii : i = hs.length := by omega
  have htk : hs.take i = hs := take_all (by omega)
  rw [htk]
  refine K.use_row K.m0 (fun hQh => ?_)
  refine K.region_lit ?_
  refine K.seq_sil (K.loadA_own ag_25 rfl (K.m3) rfl) rfl ?_
  try dsimp only [setd, setn, ev, nth, over, cl, eI, eP, eT, List.map, List.append, List.drop, List.take]
  refine K.seq_sil (K.loadA_own ag_25 rfl (K.m1) rfl) rfl ?_
  try dsimp only [setd, setn, ev, nth, over, cl, eI, eP, eT, List.map, List.append, List.drop, List.take]
  refine K.seq_new (K.buildSlice (bs82 _ _ _ _ _ _ _ _ _ _ _ _ _ _ _ _ _ _)) rfl ?_
  intro b104
  try dsimp only [setd, setn, ev, nth, over, cl, eI, eP, eT, List.map, List.append, List.drop, List.take]
  refine K.seq_pure (K.assign) rfl ?_
  dsimp only [setd, setn, ev, nth]
  refine K.seq_nil ?_
  refine K.norm_then ?_
  refine K.seq ?_
  refine K.region_lit ?_
  refine K.seq_sil (K.loadA_own ag_25 rfl (K.m7) rfl) rfl ?_
  try dsimp only [setd, setn, ev, nth, over, cl, eI, eP, eT, List.map, List.append, List.drop, List.take]
  refine K.seq_sil (K.loadA_own ag_27 rfl (K.m5) rfl) rfl ?_
  try dsimp only [setd, setn, ev, nth, over, cl, eI, eP, eT, List.map, List.append, List.drop, List.take]
  refine K.seq_loud (K.call_f cal_20 (fun F w hF hw => c20 (u := u) (v := v) (hH.pass hw) (hR.pass hw) hn hm)) rfl ?_
  rintro ⟨A5, c5⟩ hA5
  try dsimp only [setd, setn, ev, nth, over, cl, eI, eP, eT, List.map, List.append, List.drop, List.take]
  refine K.seq_pure (K.move) rfl ?_
  dsimp only [setd, setn, ev, nth]
  refine K.seq_pure (K.extract rfl rfl) rfl ?_
  dsimp only [setd, setn, ev, nth]
  refine K.seq_pure (K.extract rfl rfl) rfl ?_
  dsimp only [setd, setn, ev, nth]
  refine K.seq_pure (K.assign) rfl ?_
  dsimp only [setd, setn, ev, nth]
  refine K.seq_pure (K.assign) rfl ?_
  dsimp only [setd, setn, ev, nth]
  refine K.seq_nil ?_
  refine K.norm_then ?_
  refine K.seq ?_
  refine K.region_lit ?_
  refine K.seq_sil (K.loadA_own ag_25 rfl (K.m8) rfl) rfl ?_
  try dsimp only [setd, setn, ev, nth, over, cl, eI, eP, eT, List.map, List.append, List.drop, List.take]
  refine K.seq_sil (K.loadA_own ag_27 rfl (K.m6) rfl) rfl ?_
  try dsimp only [setd, setn, ev, nth, over, cl, eI, eP, eT, List.map, List.append, List.drop, List.take]
  refine K.seq_loud (K.call_f cal_22 (fun F w hF hw => c22 (u := u) (v := v) (hH.pass hw) (hR.pass hw) hn hm)) rfl ?_
  rintro ⟨A6, c6⟩ hA6
  try dsimp only [setd, setn, ev, nth, over, cl, eI, eP, eT, List.map, List.append, List.drop, List.take]
  refine K.seq_pure (K.move) rfl ?_
  dsimp only [setd, setn, ev, nth]
  refine K.seq_pure (K.extract rfl rfl) rfl ?_
  dsimp only [setd, setn, ev, nth]
  refine K.seq_pure (K.extract rfl rfl) rfl ?_
  dsimp only [setd, setn, ev, nth]
  refine K.seq_pure (K.assign) rfl ?_
  dsimp only [setd, setn, ev, nth]
  refine K.seq_pure (K.assign) rfl ?_
  dsimp only [setd, setn, ev, nth]
  refine K.seq_nil ?_
  refine K.norm_then ?_
  refine K.seq ?_
  refine K.region_lit ?_
  refine K.seq_sil (K.loadA_own ag_25 rfl (K.m9) rfl) rfl ?_
  try dsimp only [setd, setn, ev, nth, over, cl, eI, eP, eT, List.map, List.append, List.drop, List.take]
  refine K.seq_pure (K.indexAddr_ar ar_81 rfl rfl (by omega) (by omega)) rfl ?_
  try dsimp only [setd, setn, ev, nth, over, cl, eI, eP, eT, List.map, List.append, List.drop, List.take]
  refine K.seq_sil (K.load1_own one_5 rfl (K.m8) rfl) rfl ?_
  try dsimp only [setd, setn, ev, nth, over, cl, eI, eP, eT, List.map, List.append, List.drop, List.take]
  refine K.seq_pure (K.Pure.eq (K.conv_int ik_5 ik_3 rfl) (by rw [wrap8 hx2])) rfl ?_
  try dsimp only [setd, setn, ev, nth, over, cl, eI, eP, eT, List.map, List.append, List.drop, List.take]
  refine K.seq_call (K.call_g cal_27 (fun F w hF hw => c27 (limit := x2) (hH.pass hw) (hR.pass hw) hn hm)) rfl ?_
  try dsimp only [setd, setn, ev, nth, over, cl, eI, eP, eT, List.map, List.append, List.drop, List.take]
  refine K.seq_pure (K.move) rfl ?_
  dsimp only [setd, setn, ev, nth]
  refine K.seq_pure (K.extract rfl rfl) rfl ?_
  dsimp only [setd, setn, ev, nth]
  refine K.seq_pure (K.extract rfl rfl) rfl ?_
  dsimp only [setd, setn, ev, nth]
  refine K.seq_new (K.alloc zr_27) rfl ?_
  intro b17
  try dsimp only [setd, setn, ev, nth, over, cl, eI, eP, eT, List.map, List.append, List.drop, List.take]
  refine K.seq_st (K.store_all sz_27 rfl rfl rfl rfl (K.rp0)) rfl ?_
  try dsimp only [setd, setn, ev, nth, over, cl, eI, eP, eT, List.map, List.append, List.drop, List.take]
  refine K.seq_pure (K.assign) rfl ?_
  dsimp only [setd, setn, ev, nth]
  refine K.seq_nil ?_
  refine K.norm_then ?_
  refine K.seq ?_
  refine K.region_lit ?_
  refine K.seq_sil (K.loadA_own ag_25 rfl (K.m10) rfl) rfl ?_
  try dsimp only [setd, setn, ev, nth, over, cl, eI, eP, eT, List.map, List.append, List.drop, List.take]
  refine K.seq_call (K.call_g cal_29 (fun F w hF hw => c29 (hH.pass hw) (hR.pass hw) hn hm)) rfl ?_
  try dsimp only [setd, setn, ev, nth, over, cl, eI, eP, eT, List.map, List.append, List.drop, List.take]
  refine K.seq_pure (K.move) rfl ?_
  dsimp only [setd, setn, ev, nth]
  refine K.seq_pure (K.extract rfl rfl) rfl ?_
  dsimp only [setd, setn, ev, nth]
  refine K.seq_pure (K.extract rfl rfl) rfl ?_
  dsimp only [setd, setn, ev, nth]
  refine K.seq_new (K.alloc zr_27) rfl ?_
  intro b19
  try dsimp only [setd, setn, ev, nth, over, cl, eI, eP, eT, List.map, List.append, List.drop, List.take]
  refine K.seq_st (K.store_all sz_27 rfl rfl rfl rfl (K.rp0)) rfl ?_
  try dsimp only [setd, setn, ev, nth, over, cl, eI, eP, eT, List.map, List.append, List.drop, List.take]
  refine K.seq_pure (K.assign) rfl ?_
  dsimp only [setd, setn, ev, nth]
  refine K.seq_nil ?_
  refine K.norm_then ?_
  refine K.seq ?_
  refine K.seq ?_
  have hol : (offsR kind base most hs rs u v).length ≤ rs.length := offsR_len
  have hfl : (flatsR kind base most hs rs u v).length ≤ 8 := by
    rw [flatsR_ok g hsc]
    exact Nat.le_trans selN_len (by omega)
  refine K.region_lit ?_
  refine K.seq_pure (K.assign) rfl ?_
  dsimp only [setd, setn, ev, nth]
  refine K.seq_nil ?_
  refine K.norm_then ?_
  refine K.block ?_
  refine K.loopW [21] [6, 22, 23, 24, 25, 26, 27, 28, 29, 130, 131, 132, 133, 134, 135, 136, 137, 138, 139, 140, 141, 142, 143, 144, 145, 146, 147, 148, 149, 150, 151, 152, 153, 154, 155, 156, 157, 158, 159, 160, 161, 162, 163, 164, 165, 166, 167, 168, 169, 170, 171, 172, 173, 174, 175, 176, 177, 178, 179, 180, 181, 182, 183, 184, 185, 186, 187, 188, 189, 190, 191, 192, 193, 194, 195, 196, 197, 198, 199, 200, 201, 202, 203, 204, 205, 206, 207, 208, 209, 210, 211, 212, 213, 214, 215, 216, 217, 218] (fun vi L => ∃ i : Nat, vi = [.int .i64 (i : Int)] ∧ L = [K.blk b19 27 [.int .i64 (lstR kind base most hs rs).1.1, .int .i64 (lstR kind base most hs rs).1.2], K.blk b17 27 [.int .i64 (grtR kind base most hs rs x2).1.1, .int .i64 (grtR kind base most hs rs x2).1.2], K.row (.slice A6 (flatsR kind base most hs rs u v).length c6) 3 1 (flatsR kind base most hs rs u v).length ((flatsR kind base most hs rs u v).flatMap K.eI), K.row (.slice A5 (offsR kind base most hs rs u v).length c5) 3 1 (offsR kind base most hs rs u v).length ((offsR kind base most hs rs u v).flatMap K.eI), K.blk b104 25 [.int .i64 kind, .int .i64 base, .int .i64 most, .slice A hs.length c, .slice Ab rb.length cb, .int .i64 kind, .int .i64 (base + by_), .int .i64 most, .slice Qh (upH hs by_).length qh, .slice B rs.length d], K.row (.slice Qh (upH hs by_).length qh) 3 1 (upH hs by_).length ((upH hs by_).flatMap K.eI), K.blk b10 25 [.int .i64 kind, .int .i64 (base + by_), .int .i64 most, .slice Qh (upH hs by_).length qh, .slice B rs.length d], bk, K.blk b8 25 [.int .i64 kind, .int .i64 base, .int .i64 most, .slice A hs.length c, .slice Ab rb.length cb], K.blk b7 27 [.int .i64 u, .int .i64 v], K.blk b4 81 [.int .u8 x0, .int .u8 x1, .int .u8 x2], K.blk b3 25 [.int .i64 kind, .int .i64 base, .int .i64 most, .slice A hs.length c, .slice B rs.length d]] ∧ i ≤ 2) (fun vi => 2 - (intOf (K.nth vi 0)).toNat) ?_ ?_
  · exact ⟨0, rfl, rfl, by omega⟩
  intro vi vr L hJ
  obtain ⟨i, rfl, rfl, hi3⟩ := hJ
  try dsimp only [setd, setn, ev, nth, over, cl, eI, eP, eT, setM, setF, List.map, List.append, List.drop, List.take]
  refine K.seq ?_
  refine K.seq ?_
  refine K.region_lit ?_
  refine K.seq_pure (K.move) rfl ?_
  dsimp only [setd, setn, ev, nth]
  refine K.seq_pure (K.move) rfl ?_
  dsimp only [setd, setn, ev, nth]
  refine K.seq_pure (K.len_sl sl_82 rfl) rfl ?_
  dsimp only [setd, setn, ev, nth]
  refine K.seq_pure (K.lss rfl rfl) rfl ?_
  dsimp only [setd, setn, ev, nth]
  refine K.seq_nil ?_
  refine K.norm_then ?_
  refine K.cond rfl (fun ht133 => ?_) (fun ht133 => ?_)
  · try replace ht133 := of_decide_eq_true ht133
    have hi2 : i < 2 := by omega
    obtain ⟨bs2, hs2, rs2, A2, B2, cx2, d2, hval, hHJ, hRJ, hn2, hm2, hsame, hcut⟩ : ∃ (bs2 : Int) (hs2 : List Int) (rs2 : List (Int × Int)) (A2 B2 : Option Addr) (cx2 d2 : Nat), ([(kind, base, most, Value.slice A hs.length c, Value.slice Ab rb.length cb), (kind, base + by_, most, Value.slice Qh (upH hs by_).length qh, Value.slice B rs.length d)] : List (Int × Int × Int × Value × Value)).getD i default = (kind, bs2, most, Value.slice A2 hs2.length cx2, Value.slice B2 rs2.length d2) ∧ (∀ (F : List K.Chunk) (w1 : World), K.row (.slice Qh (upH hs by_).length qh) 3 1 (upH hs by_).length ((upH hs by_).flatMap K.eI) ∈ F → bk ∈ F → K.St w F w1 → K.Rd w1 A2 1 K.eI hs2) ∧ (∀ (F : List K.Chunk) (w1 : World), K.row (.slice Qh (upH hs by_).length qh) 3 1 (upH hs by_).length ((upH hs by_).flatMap K.eI) ∈ F → bk ∈ F → K.St w F w1 → K.Rd w1 B2 2 K.eP rs2) ∧ hs2.length ≤ 4611686018427387904 ∧ rs2.length ≤ 4611686018427387904 ∧ SameR hs hs2 rs rs2 ∧ ∀ u v, cuts kind bs2 u v hs2 = cuts kind base u v hs := by
      rcases (show i = 0 ∨ i = 1 by omega) with h | h <;> subst h
      · exact ⟨base, hs, rb, A, Ab, c, cb, rfl, fun F w1 _ _ hw => hH.pass hw, fun F w1 _ hb hw => hRB F w1 hb hw, by omega, by omega, hsr, fun _ _ => rfl⟩
      · exact ⟨base + by_, (upH hs by_), rs, Qh, B, qh, d, rfl, fun F w1 hr _ hw => K.Rd.own hw hr hQh (fun _ => rfl) (by decide), fun F w1 _ _ hw => hR.pass hw, by unfold upH; rw [List.length_map]; omega, by omega, same_up g, up_cuts⟩
    refine K.skip ?_
    refine K.norm_then ?_
    refine K.seq ?_
    refine K.block ?_
    refine K.seq ?_
    refine K.seq ?_
    refine K.region_lit ?_
    refine K.seq_pure (K.move) rfl ?_
    dsimp only [setd, setn, ev, nth]
    refine K.seq_pure (K.move) rfl ?_
    dsimp only [setd, setn, ev, nth]
    refine K.seq_ix (M := [_]) _ (K.Sl.of_blkp (w0 := w) (t := 25) (b := b104) (size := 5) (e := eC) (xs := [(kind, base, most, Value.slice A hs.length c, Value.slice Ab rb.length cb), (kind, base + by_, most, Value.slice Qh (upH hs by_).length qh, Value.slice B rs.length d)]) (rest := []) (fun _ => rfl) rfl) sl_82 rfl rfl rfl (by omega) rfl ?_
    intro p138 hp138
    try dsimp only [setd, setn, ev, nth, over, cl, eI, eP, eT, List.map, List.append, List.drop, List.take]
    refine K.seq_sil (((K.loadA_p ag_25 rfl (hp138.at1 (K.m4)) rfl).cast (show _ = Value.agg #[.int .i64 kind, .int .i64 bs2, .int .i64 most, .slice A2 hs2.length cx2, .slice B2 rs2.length d2] from by rw [hval]; rfl))) rfl ?_
    try dsimp only [setd, setn, ev, nth, over, cl, eI, eP, eT, List.map, List.append, List.drop, List.take]
    refine K.seq_call (K.call_g cal_39 (fun F w hF hw => c39 (hHJ _ _ (hF _ (K.m5)) (hF _ (K.m7)) hw) (hRJ _ _ (hF _ (K.m5)) (hF _ (K.m7)) hw) hn2 hm2)) rfl ?_
    try dsimp only [setd, setn, ev, nth, over, cl, eI, eP, eT, List.map, List.append, List.drop, List.take]
    refine K.seq_pure (K.not_d rfl) rfl ?_
    dsimp only [setd, setn, ev, nth]
    refine K.seq_nil ?_
    refine K.norm_then ?_
    refine K.cond rfl (fun ht141 => ?_) (fun ht141 => ?_)
    · try replace ht141 := of_decide_eq_true ht141
      refine K.exit ?_
      refine K.exit_then ?_
      refine K.exit_here ?_
      refine K.norm_then ?_
      refine K.region_lit ?_
      refine K.seq_pure (K.move) rfl ?_
      dsimp only [setd, setn, ev, nth]
      refine K.seq_pure (K.add_i64 rfl rfl (by omega)) rfl ?_
      dsimp only [setd, setn, ev, nth]
      refine K.seq_pure (K.assign) rfl ?_
      dsimp only [setd, setn, ev, nth]
      refine K.seq_nil ?_
      exact K.round_endW (L'' := [K.blk b19 27 [.int .i64 (lstR kind base most hs rs).1.1, .int .i64 (lstR kind base most hs rs).1.2], K.blk b17 27 [.int .i64 (grtR kind base most hs rs x2).1.1, .int .i64 (grtR kind base most hs rs x2).1.2], K.row (.slice A6 (flatsR kind base most hs rs u v).length c6) 3 1 (flatsR kind base most hs rs u v).length ((flatsR kind base most hs rs u v).flatMap K.eI), K.row (.slice A5 (offsR kind base most hs rs u v).length c5) 3 1 (offsR kind base most hs rs u v).length ((offsR kind base most hs rs u v).flatMap K.eI), K.blk b104 25 [.int .i64 kind, .int .i64 base, .int .i64 most, .slice A hs.length c, .slice Ab rb.length cb, .int .i64 kind, .int .i64 (base + by_), .int .i64 most, .slice Qh (upH hs by_).length qh, .slice B rs.length d], K.row (.slice Qh (upH hs by_).length qh) 3 1 (upH hs by_).length ((upH hs by_).flatMap K.eI), K.blk b10 25 [.int .i64 kind, .int .i64 (base + by_), .int .i64 most, .slice Qh (upH hs by_).length qh, .slice B rs.length d], bk, K.blk b8 25 [.int .i64 kind, .int .i64 base, .int .i64 most, .slice A hs.length c, .slice Ab rb.length cb], K.blk b7 27 [.int .i64 u, .int .i64 v], K.blk b4 81 [.int .u8 x0, .int .u8 x1, .int .u8 x2], K.blk b3 25 [.int .i64 kind, .int .i64 base, .int .i64 most, .slice A hs.length c, .slice B rs.length d]]) [.int .i64 ((i : Int) + 1)] ⟨i + 1, rfl, rfl, by omega⟩ (by simp [K.nth, intOf]; omega) (by (repeat (first | exact List.Sublist.refl _ | apply List.Sublist.cons)); done) (by kernel_rfl)
    try replace ht141 := of_decide_eq_false ht141
    have hc2 : (chk kind bs2 most hs2 rs2).2.2 = 0 := Decidable.not_not.1 ht141
    have g2 := chk_good hc2
    refine K.skip ?_
    refine K.norm_then ?_
    refine K.seq ?_
    refine K.draw_L [] Try_mixed ?_
    refine K.d_pure 0 rfl (K.move) (by kernel_rfl) rfl ?_
    dsimp only [setd, setn, ev, nth]
    refine K.d_pure 1 rfl (K.move) (by kernel_rfl) rfl ?_
    dsimp only [setd, setn, ev, nth]
    refine K.d_ix (M := [_]) 2 _ rfl (K.Sl.of_blkp (w0 := w) (t := 25) (b := b104) (size := 5) (e := eC) (xs := [(kind, base, most, Value.slice A hs.length c, Value.slice Ab rb.length cb), (kind, base + by_, most, Value.slice Qh (upH hs by_).length qh, Value.slice B rs.length d)]) (rest := []) (fun _ => rfl) rfl) sl_82 rfl rfl rfl (by omega) (by kernel_rfl) rfl ?_
    intro p145 hp145
    try dsimp only [setd, setn, ev, nth, over, cl, eI, eP, eT, List.map, List.append, List.drop, List.take]
    refine K.d_mem 3 rfl (((K.loadA_p ag_25 rfl (hp145.at1 (K.m4)) rfl).cast (show _ = Value.agg #[.int .i64 kind, .int .i64 bs2, .int .i64 most, .slice A2 hs2.length cx2, .slice B2 rs2.length d2] from by rw [hval]; rfl))) (fun _ h => h) (by kernel_rfl) (by kernel_rfl) rfl ?_
    try dsimp only [setd, setn, ev, nth, over, cl, eI, eP, eT, List.map, List.append, List.drop, List.take]
    refine K.d_mem 4 rfl (K.loadA_own ag_27 rfl (K.m9) rfl) (fun _ h => h) (by kernel_rfl) (by kernel_rfl) rfl ?_
    try dsimp only [setd, setn, ev, nth, over, cl, eI, eP, eT, List.map, List.append, List.drop, List.take]
    refine K.d_loud 5 rfl (K.call_f cal_20 (fun F w hF hw => c20 (u := u) (v := v) (hHJ _ _ (hF _ (K.m5)) (hF _ (K.m7)) hw) (hRJ _ _ (hF _ (K.m5)) (hF _ (K.m7)) hw) hn2 hm2)) (fun _ h => h) (by kernel_rfl) rfl ?_
    rintro ⟨A7, c7⟩ hA7
    try dsimp only [setd, setn, ev, nth, over, cl, eI, eP, eT, List.map, List.append, List.drop, List.take]
    refine K.d_pure 6 rfl (K.move) (by kernel_rfl) rfl ?_
    dsimp only [setd, setn, ev, nth]
    refine K.d_pure 7 rfl (K.extract rfl rfl) (by kernel_rfl) rfl ?_
    dsimp only [setd, setn, ev, nth]
    refine K.d_pure 8 rfl (K.extract rfl rfl) (by kernel_rfl) rfl ?_
    dsimp only [setd, setn, ev, nth]
    refine K.d_pure 9 rfl (K.assign) (by kernel_rfl) rfl ?_
    dsimp only [setd, setn, ev, nth]
    refine K.d_pure 10 rfl (K.assign) (by kernel_rfl) rfl ?_
    dsimp only [setd, setn, ev, nth]
    refine K.d_done (by kernel_rfl) ?_
    refine K.norm_then ?_
    refine K.seq ?_
    refine K.draw_L [] Try_mixed ?_
    refine K.d_pure 0 rfl (K.move) (by kernel_rfl) rfl ?_
    dsimp only [setd, setn, ev, nth]
    refine K.d_pure 1 rfl (K.move) (by kernel_rfl) rfl ?_
    dsimp only [setd, setn, ev, nth]
    refine K.d_ix (M := [_]) 2 _ rfl (K.Sl.of_blkp (w0 := w) (t := 25) (b := b104) (size := 5) (e := eC) (xs := [(kind, base, most, Value.slice A hs.length c, Value.slice Ab rb.length cb), (kind, base + by_, most, Value.slice Qh (upH hs by_).length qh, Value.slice B rs.length d)]) (rest := []) (fun _ => rfl) rfl) sl_82 rfl rfl rfl (by omega) (by kernel_rfl) rfl ?_
    intro p154 hp154
    try dsimp only [setd, setn, ev, nth, over, cl, eI, eP, eT, List.map, List.append, List.drop, List.take]
    refine K.d_mem 3 rfl (((K.loadA_p ag_25 rfl (hp154.at1 (K.m5)) rfl).cast (show _ = Value.agg #[.int .i64 kind, .int .i64 bs2, .int .i64 most, .slice A2 hs2.length cx2, .slice B2 rs2.length d2] from by rw [hval]; rfl))) (fun _ h => h) (by kernel_rfl) (by kernel_rfl) rfl ?_
    try dsimp only [setd, setn, ev, nth, over, cl, eI, eP, eT, List.map, List.append, List.drop, List.take]
    refine K.d_mem 4 rfl (K.loadA_own ag_27 rfl (K.m10) rfl) (fun _ h => h) (by kernel_rfl) (by kernel_rfl) rfl ?_
    try dsimp only [setd, setn, ev, nth, over, cl, eI, eP, eT, List.map, List.append, List.drop, List.take]
    refine K.d_loud 5 rfl (K.call_f cal_22 (fun F w hF hw => c22 (u := u) (v := v) (hHJ _ _ (hF _ (K.m6)) (hF _ (K.m8)) hw) (hRJ _ _ (hF _ (K.m6)) (hF _ (K.m8)) hw) hn2 hm2)) (fun _ h => h) (by kernel_rfl) rfl ?_
    rintro ⟨A8, c8⟩ hA8
    try dsimp only [setd, setn, ev, nth, over, cl, eI, eP, eT, List.map, List.append, List.drop, List.take]
    refine K.d_pure 6 rfl (K.move) (by kernel_rfl) rfl ?_
    dsimp only [setd, setn, ev, nth]
    refine K.d_pure 7 rfl (K.extract rfl rfl) (by kernel_rfl) rfl ?_
    dsimp only [setd, setn, ev, nth]
    refine K.d_pure 8 rfl (K.extract rfl rfl) (by kernel_rfl) rfl ?_
    dsimp only [setd, setn, ev, nth]
    refine K.d_pure 9 rfl (K.assign) (by kernel_rfl) rfl ?_
    dsimp only [setd, setn, ev, nth]
    refine K.d_pure 10 rfl (K.assign) (by kernel_rfl) rfl ?_
    dsimp only [setd, setn, ev, nth]
    refine K.d_done (by kernel_rfl) ?_
    refine K.norm_then ?_
    refine K.seq ?_
    refine K.joinW [26, 27] [160, 161, 162, 163, 164, 165, 166, 167, 168, 169, 170] (fun vi L => ∃ b26 : Nat, vi = [.pointer (some ⟨b26, 0, none⟩), .int .i64 (grtR kind bs2 most hs2 rs2 x2).2] ∧ L = [K.blk b26 27 [.int .i64 (grtR kind bs2 most hs2 rs2 x2).1.1, .int .i64 (grtR kind bs2 most hs2 rs2 x2).1.2], K.row (.slice A8 (flatsR kind bs2 most hs2 rs2 u v).length c8) 3 1 (flatsR kind bs2 most hs2 rs2 u v).length ((flatsR kind bs2 most hs2 rs2 u v).flatMap K.eI), K.row (.slice A7 (offsR kind bs2 most hs2 rs2 u v).length c7) 3 1 (offsR kind bs2 most hs2 rs2 u v).length ((offsR kind bs2 most hs2 rs2 u v).flatMap K.eI), K.blk b19 27 [.int .i64 (lstR kind base most hs rs).1.1, .int .i64 (lstR kind base most hs rs).1.2], K.blk b17 27 [.int .i64 (grtR kind base most hs rs x2).1.1, .int .i64 (grtR kind base most hs rs x2).1.2], K.row (.slice A6 (flatsR kind base most hs rs u v).length c6) 3 1 (flatsR kind base most hs rs u v).length ((flatsR kind base most hs rs u v).flatMap K.eI), K.row (.slice A5 (offsR kind base most hs rs u v).length c5) 3 1 (offsR kind base most hs rs u v).length ((offsR kind base most hs rs u v).flatMap K.eI), K.blk b104 25 [.int .i64 kind, .int .i64 base, .int .i64 most, .slice A hs.length c, .slice Ab rb.length cb, .int .i64 kind, .int .i64 (base + by_), .int .i64 most, .slice Qh (upH hs by_).length qh, .slice B rs.length d], K.row (.slice Qh (upH hs by_).length qh) 3 1 (upH hs by_).length ((upH hs by_).flatMap K.eI), K.blk b10 25 [.int .i64 kind, .int .i64 (base + by_), .int .i64 most, .slice Qh (upH hs by_).length qh, .slice B rs.length d], bk, K.blk b8 25 [.int .i64 kind, .int .i64 base, .int .i64 most, .slice A hs.length c, .slice Ab rb.length cb], K.blk b7 27 [.int .i64 u, .int .i64 v], K.blk b4 81 [.int .u8 x0, .int .u8 x1, .int .u8 x2], K.blk b3 25 [.int .i64 kind, .int .i64 base, .int .i64 most, .slice A hs.length c, .slice B rs.length d]]) ?_ ?_
    · refine K.draw_L [] Try_mixed ?_
      refine K.d_pure 0 rfl (K.move) (by kernel_rfl) rfl ?_
      dsimp only [setd, setn, ev, nth]
      refine K.d_pure 1 rfl (K.move) (by kernel_rfl) rfl ?_
      dsimp only [setd, setn, ev, nth]
      refine K.d_ix (M := [_]) 2 _ rfl (K.Sl.of_blkp (w0 := w) (t := 25) (b := b104) (size := 5) (e := eC) (xs := [(kind, base, most, Value.slice A hs.length c, Value.slice Ab rb.length cb), (kind, base + by_, most, Value.slice Qh (upH hs by_).length qh, Value.slice B rs.length d)]) (rest := []) (fun _ => rfl) rfl) sl_82 rfl rfl rfl (by omega) (by kernel_rfl) rfl ?_
      intro p163 hp163
      try dsimp only [setd, setn, ev, nth, over, cl, eI, eP, eT, List.map, List.append, List.drop, List.take]
      refine K.d_mem 3 rfl (((K.loadA_p ag_25 rfl (hp163.at1 (K.m6)) rfl).cast (show _ = Value.agg #[.int .i64 kind, .int .i64 bs2, .int .i64 most, .slice A2 hs2.length cx2, .slice B2 rs2.length d2] from by rw [hval]; rfl))) (fun _ h => h) (by kernel_rfl) (by kernel_rfl) rfl ?_
      try dsimp only [setd, setn, ev, nth, over, cl, eI, eP, eT, List.map, List.append, List.drop, List.take]
      refine K.d_pure 4 rfl (K.indexAddr_ar ar_81 rfl rfl (by omega) (by omega)) (by kernel_rfl) rfl ?_
      try dsimp only [setd, setn, ev, nth, over, cl, eI, eP, eT, List.map, List.append, List.drop, List.take]
      refine K.d_mem 5 rfl (K.load1_own one_5 rfl (K.m12) rfl) (fun _ h => h) (by kernel_rfl) (by kernel_rfl) rfl ?_
      try dsimp only [setd, setn, ev, nth, over, cl, eI, eP, eT, List.map, List.append, List.drop, List.take]
      refine K.d_pure 6 rfl (K.Pure.eq (K.conv_int ik_5 ik_3 rfl) (by rw [wrap8 hx2])) (by kernel_rfl) rfl ?_
      try dsimp only [setd, setn, ev, nth, over, cl, eI, eP, eT, List.map, List.append, List.drop, List.take]
      refine K.d_two 7 11 (by kernel_rfl) ?_ ?_
      · refine K.s_call 7 rfl (K.call_g cal_27 (fun F w hF hw => c27 (limit := x2) (hHJ _ _ (hF _ (K.m7)) (hF _ (K.m9)) hw) (hRJ _ _ (hF _ (K.m7)) (hF _ (K.m9)) hw) hn2 hm2)) (fun _ h => h) (by kernel_rfl) rfl ?_
        try dsimp only [setd, setn, ev, nth, over, cl, eI, eP, eT, List.map, List.append, List.drop, List.take]
        refine K.d_pure 8 rfl (K.move) (by kernel_rfl) rfl ?_
        dsimp only [setd, setn, ev, nth]
        refine K.d_pure 9 rfl (K.extract rfl rfl) (by kernel_rfl) rfl ?_
        dsimp only [setd, setn, ev, nth]
        refine K.d_pure 10 rfl (K.extract rfl rfl) (by kernel_rfl) rfl ?_
        dsimp only [setd, setn, ev, nth]
        refine K.d_new 11 rfl (K.alloc zr_27) (fun _ h => h) (by kernel_rfl) rfl ?_
        intro b26
        try dsimp only [setd, setn, ev, nth, over, cl, eI, eP, eT, List.map, List.append, List.drop, List.take]
        refine K.d_upd 12 rfl (K.store_all sz_27 rfl rfl rfl rfl (K.rp0)) (fun _ => fun _ h => K.tl h) (by kernel_rfl) rfl ?_
        intro _ _
        try dsimp only [setd, setn, ev, nth, over, cl, eI, eP, eT, List.map, List.append, List.drop, List.take]
        refine K.d_pure 13 rfl (K.assign) (by kernel_rfl) rfl ?_
        dsimp only [setd, setn, ev, nth]
        refine K.d_done (by kernel_rfl) ?_
        exact K.join_here (L' := [K.blk b26 27 [.int .i64 (grtR kind bs2 most hs2 rs2 x2).1.1, .int .i64 (grtR kind bs2 most hs2 rs2 x2).1.2], K.row (.slice A8 (flatsR kind bs2 most hs2 rs2 u v).length c8) 3 1 (flatsR kind bs2 most hs2 rs2 u v).length ((flatsR kind bs2 most hs2 rs2 u v).flatMap K.eI), K.row (.slice A7 (offsR kind bs2 most hs2 rs2 u v).length c7) 3 1 (offsR kind bs2 most hs2 rs2 u v).length ((offsR kind bs2 most hs2 rs2 u v).flatMap K.eI), K.blk b19 27 [.int .i64 (lstR kind base most hs rs).1.1, .int .i64 (lstR kind base most hs rs).1.2], K.blk b17 27 [.int .i64 (grtR kind base most hs rs x2).1.1, .int .i64 (grtR kind base most hs rs x2).1.2], K.row (.slice A6 (flatsR kind base most hs rs u v).length c6) 3 1 (flatsR kind base most hs rs u v).length ((flatsR kind base most hs rs u v).flatMap K.eI), K.row (.slice A5 (offsR kind base most hs rs u v).length c5) 3 1 (offsR kind base most hs rs u v).length ((offsR kind base most hs rs u v).flatMap K.eI), K.blk b104 25 [.int .i64 kind, .int .i64 base, .int .i64 most, .slice A hs.length c, .slice Ab rb.length cb, .int .i64 kind, .int .i64 (base + by_), .int .i64 most, .slice Qh (upH hs by_).length qh, .slice B rs.length d], K.row (.slice Qh (upH hs by_).length qh) 3 1 (upH hs by_).length ((upH hs by_).flatMap K.eI), K.blk b10 25 [.int .i64 kind, .int .i64 (base + by_), .int .i64 most, .slice Qh (upH hs by_).length qh, .slice B rs.length d], bk, K.blk b8 25 [.int .i64 kind, .int .i64 base, .int .i64 most, .slice A hs.length c, .slice Ab rb.length cb], K.blk b7 27 [.int .i64 u, .int .i64 v], K.blk b4 81 [.int .u8 x0, .int .u8 x1, .int .u8 x2], K.blk b3 25 [.int .i64 kind, .int .i64 base, .int .i64 most, .slice A hs.length c, .slice B rs.length d]]) [.pointer (some ⟨b26, 0, none⟩), .int .i64 (grtR kind bs2 most hs2 rs2 x2).2] ⟨b26, rfl, rfl⟩ (fun w h => h) (by kernel_rfl)
      refine K.s_new 11 rfl (K.alloc zr_27) (fun _ h => h) (by kernel_rfl) rfl ?_
      intro b26
      try dsimp only [setd, setn, ev, nth, over, cl, eI, eP, eT, List.map, List.append, List.drop, List.take]
      refine K.d_call 7 rfl (K.call_g cal_27 (fun F w hF hw => c27 (limit := x2) (hHJ _ _ (hF _ (K.m8)) (hF _ (K.m10)) hw) (hRJ _ _ (hF _ (K.m8)) (hF _ (K.m10)) hw) hn2 hm2)) (fun _ h => K.tl h) (by kernel_rfl) rfl ?_
      try dsimp only [setd, setn, ev, nth, over, cl, eI, eP, eT, List.map, List.append, List.drop, List.take]
      refine K.d_pure 8 rfl (K.move) (by kernel_rfl) rfl ?_
      dsimp only [setd, setn, ev, nth]
      refine K.d_pure 9 rfl (K.extract rfl rfl) (by kernel_rfl) rfl ?_
      dsimp only [setd, setn, ev, nth]
      refine K.d_pure 10 rfl (K.extract rfl rfl) (by kernel_rfl) rfl ?_
      dsimp only [setd, setn, ev, nth]
      refine K.d_upd 12 rfl (K.store_all sz_27 rfl rfl rfl rfl (K.rp0)) (fun _ => fun _ h => K.tl h) (by kernel_rfl) rfl ?_
      intro _ _
      try dsimp only [setd, setn, ev, nth, over, cl, eI, eP, eT, List.map, List.append, List.drop, List.take]
      refine K.d_pure 13 rfl (K.assign) (by kernel_rfl) rfl ?_
      dsimp only [setd, setn, ev, nth]
      refine K.d_done (by kernel_rfl) ?_
      exact K.join_here (L' := [K.blk b26 27 [.int .i64 (grtR kind bs2 most hs2 rs2 x2).1.1, .int .i64 (grtR kind bs2 most hs2 rs2 x2).1.2], K.row (.slice A8 (flatsR kind bs2 most hs2 rs2 u v).length c8) 3 1 (flatsR kind bs2 most hs2 rs2 u v).length ((flatsR kind bs2 most hs2 rs2 u v).flatMap K.eI), K.row (.slice A7 (offsR kind bs2 most hs2 rs2 u v).length c7) 3 1 (offsR kind bs2 most hs2 rs2 u v).length ((offsR kind bs2 most hs2 rs2 u v).flatMap K.eI), K.blk b19 27 [.int .i64 (lstR kind base most hs rs).1.1, .int .i64 (lstR kind base most hs rs).1.2], K.blk b17 27 [.int .i64 (grtR kind base most hs rs x2).1.1, .int .i64 (grtR kind base most hs rs x2).1.2], K.row (.slice A6 (flatsR kind base most hs rs u v).length c6) 3 1 (flatsR kind base most hs rs u v).length ((flatsR kind base most hs rs u v).flatMap K.eI), K.row (.slice A5 (offsR kind base most hs rs u v).length c5) 3 1 (offsR kind base most hs rs u v).length ((offsR kind base most hs rs u v).flatMap K.eI), K.blk b104 25 [.int .i64 kind, .int .i64 base, .int .i64 most, .slice A hs.length c, .slice Ab rb.length cb, .int .i64 kind, .int .i64 (base + by_), .int .i64 most, .slice Qh (upH hs by_).length qh, .slice B rs.length d], K.row (.slice Qh (upH hs by_).length qh) 3 1 (upH hs by_).length ((upH hs by_).flatMap K.eI), K.blk b10 25 [.int .i64 kind, .int .i64 (base + by_), .int .i64 most, .slice Qh (upH hs by_).length qh, .slice B rs.length d], bk, K.blk b8 25 [.int .i64 kind, .int .i64 base, .int .i64 most, .slice A hs.length c, .slice Ab rb.length cb], K.blk b7 27 [.int .i64 u, .int .i64 v], K.blk b4 81 [.int .u8 x0, .int .u8 x1, .int .u8 x2], K.blk b3 25 [.int .i64 kind, .int .i64 base, .int .i64 most, .slice A hs.length c, .slice B rs.length d]]) [.pointer (some ⟨b26, 0, none⟩), .int .i64 (grtR kind bs2 most hs2 rs2 x2).2] ⟨b26, rfl, rfl⟩ (fun w h => h) (by kernel_rfl)
    intro vi vr L hJ
    obtain ⟨b26, rfl, rfl⟩ := hJ
    try dsimp only [setd, setn, ev, nth, over, cl, eI, eP, eT, setM, setF, List.map, List.append, List.drop, List.take]
    refine K.norm_then ?_
    refine K.seq ?_
    refine K.region_lit ?_
    refine K.seq_pure (K.move) rfl ?_
    dsimp only [setd, setn, ev, nth]
    refine K.seq_pure (K.move) rfl ?_
    dsimp only [setd, setn, ev, nth]
    refine K.seq_ix (M := [_]) _ (K.Sl.of_blkp (w0 := w) (t := 25) (b := b104) (size := 5) (e := eC) (xs := [(kind, base, most, Value.slice A hs.length c, Value.slice Ab rb.length cb), (kind, base + by_, most, Value.slice Qh (upH hs by_).length qh, Value.slice B rs.length d)]) (rest := []) (fun _ => rfl) rfl) sl_82 rfl rfl rfl (by omega) rfl ?_
    intro p174 hp174
    try dsimp only [setd, setn, ev, nth, over, cl, eI, eP, eT, List.map, List.append, List.drop, List.take]
    refine K.seq_sil (((K.loadA_p ag_25 rfl (hp174.at1 (K.m7)) rfl).cast (show _ = Value.agg #[.int .i64 kind, .int .i64 bs2, .int .i64 most, .slice A2 hs2.length cx2, .slice B2 rs2.length d2] from by rw [hval]; rfl))) rfl ?_
    try dsimp only [setd, setn, ev, nth, over, cl, eI, eP, eT, List.map, List.append, List.drop, List.take]
    refine K.seq_call (K.call_g cal_29 (fun F w hF hw => c29 (hHJ _ _ (hF _ (K.m8)) (hF _ (K.m10)) hw) (hRJ _ _ (hF _ (K.m8)) (hF _ (K.m10)) hw) hn2 hm2)) rfl ?_
    try dsimp only [setd, setn, ev, nth, over, cl, eI, eP, eT, List.map, List.append, List.drop, List.take]
    refine K.seq_pure (K.move) rfl ?_
    dsimp only [setd, setn, ev, nth]
    refine K.seq_pure (K.extract rfl rfl) rfl ?_
    dsimp only [setd, setn, ev, nth]
    refine K.seq_pure (K.extract rfl rfl) rfl ?_
    dsimp only [setd, setn, ev, nth]
    refine K.seq_new (K.alloc zr_27) rfl ?_
    intro b28
    try dsimp only [setd, setn, ev, nth, over, cl, eI, eP, eT, List.map, List.append, List.drop, List.take]
    refine K.seq_st (K.store_all sz_27 rfl rfl rfl rfl (K.rp0)) rfl ?_
    try dsimp only [setd, setn, ev, nth, over, cl, eI, eP, eT, List.map, List.append, List.drop, List.take]
    refine K.seq_pure (K.assign) rfl ?_
    dsimp only [setd, setn, ev, nth]
    refine K.seq_nil ?_
    refine K.norm_then ?_
    refine K.seq ?_
    refine K.region_lit ?_
    refine K.seq_pure (K.move) rfl ?_
    dsimp only [setd, setn, ev, nth]
    refine K.seq_pure (K.move) rfl ?_
    dsimp only [setd, setn, ev, nth]
    refine K.seq_call (K.call_g cal_19 (fun F w hF hw => c19e (xs := (offsR kind base most hs rs u v)) (ys := (offsR kind bs2 most hs2 rs2 u v)) (K.Rd.own hw (hF _ (K.m7)) hA5 (fun _ => rfl) (by decide)) (K.Rd.own hw (hF _ (K.m3)) hA7 (fun _ => rfl) (by decide)) (by omega) (same_offsR g g2 hsame hcut))) rfl ?_
    try dsimp only [setd, setn, ev, nth, over, cl, eI, eP, eT, List.map, List.append, List.drop, List.take]
    refine K.seq_pure (K.Pure.eq (K.not_ rfl) (show _ = Value.bool false from rfl)) rfl ?_
    dsimp only [setd, setn, ev, nth]
    refine K.seq_pure (K.move) rfl ?_
    dsimp only [setd, setn, ev, nth]
    refine K.seq_pure (K.move) rfl ?_
    dsimp only [setd, setn, ev, nth]
    refine K.seq_pure (K.move) rfl ?_
    dsimp only [setd, setn, ev, nth]
    refine K.seq_pure (K.Pure.eq (K.neq rfl rfl) (show _ = Value.bool false from congrArg Value.bool (decide_eq_false (fun h => h (by rw [ask_ok g hsc, ask_ok g2 hsc]))))) rfl ?_
    dsimp only [setd, setn, ev, nth]
    refine K.seq_pure (K.pick_f rfl) rfl ?_
    dsimp only [setd, setn, ev, nth]
    refine K.seq_pure (K.move) rfl ?_
    dsimp only [setd, setn, ev, nth]
    refine K.seq_pure (K.move) rfl ?_
    dsimp only [setd, setn, ev, nth]
    refine K.seq_pure (K.move) rfl ?_
    dsimp only [setd, setn, ev, nth]
    refine K.seq_call (K.call_g cal_19 (fun F w hF hw => c19e (xs := (flatsR kind base most hs rs u v)) (ys := (flatsR kind bs2 most hs2 rs2 u v)) (K.Rd.own hw (hF _ (K.m6)) hA6 (fun _ => rfl) (by decide)) (K.Rd.own hw (hF _ (K.m2)) hA8 (fun _ => rfl) (by decide)) (by omega) (same_flatsR g g2 hsame hcut))) rfl ?_
    try dsimp only [setd, setn, ev, nth, over, cl, eI, eP, eT, List.map, List.append, List.drop, List.take]
    refine K.seq_pure (K.Pure.eq (K.not_ rfl) (show _ = Value.bool false from rfl)) rfl ?_
    dsimp only [setd, setn, ev, nth]
    refine K.seq_pure (K.pick_f rfl) rfl ?_
    dsimp only [setd, setn, ev, nth]
    refine K.seq_pure (K.move) rfl ?_
    dsimp only [setd, setn, ev, nth]
    refine K.seq_pure (K.move) rfl ?_
    dsimp only [setd, setn, ev, nth]
    refine K.seq_pure (K.move) rfl ?_
    dsimp only [setd, setn, ev, nth]
    refine K.seq_pure (K.Pure.eq (K.neq rfl rfl) (show _ = Value.bool false from congrArg Value.bool (decide_eq_false (fun h => h (by rw [ask_ok g hsc, ask_ok g2 hsc]))))) rfl ?_
    dsimp only [setd, setn, ev, nth]
    refine K.seq_pure (K.pick_f rfl) rfl ?_
    dsimp only [setd, setn, ev, nth]
    refine K.seq_pure (K.move) rfl ?_
    dsimp only [setd, setn, ev, nth]
    refine K.seq_sil (K.loadA_own ag_27 rfl (K.m5) rfl) rfl ?_
    try dsimp only [setd, setn, ev, nth, over, cl, eI, eP, eT, List.map, List.append, List.drop, List.take]
    refine K.seq_sil (K.loadA_own ag_27 rfl (K.m1) rfl) rfl ?_
    try dsimp only [setd, setn, ev, nth, over, cl, eI, eP, eT, List.map, List.append, List.drop, List.take]
    refine K.seq_pure (K.Pure.eq (K.neq_s2 s2_27 rfl rfl) (show _ = Value.bool false from congrArg Value.bool (decide_eq_false (fun h => h (by rw [same_grt g g2 hsame hcut]))))) rfl ?_
    dsimp only [setd, setn, ev, nth]
    refine K.seq_pure (K.pick_f rfl) rfl ?_
    dsimp only [setd, setn, ev, nth]
    refine K.seq_pure (K.move) rfl ?_
    dsimp only [setd, setn, ev, nth]
    refine K.seq_pure (K.move) rfl ?_
    dsimp only [setd, setn, ev, nth]
    refine K.seq_pure (K.move) rfl ?_
    dsimp only [setd, setn, ev, nth]
    refine K.seq_pure (K.Pure.eq (K.neq rfl rfl) (show _ = Value.bool false from congrArg Value.bool (decide_eq_false (fun h => h (by rw [same_grt g g2 hsame hcut]))))) rfl ?_
    dsimp only [setd, setn, ev, nth]
    refine K.seq_pure (K.pick_f rfl) rfl ?_
    dsimp only [setd, setn, ev, nth]
    refine K.seq_pure (K.move) rfl ?_
    dsimp only [setd, setn, ev, nth]
    refine K.seq_sil (K.loadA_own ag_27 rfl (K.m4) rfl) rfl ?_
    try dsimp only [setd, setn, ev, nth, over, cl, eI, eP, eT, List.map, List.append, List.drop, List.take]
    refine K.seq_sil (K.loadA_own ag_27 rfl (K.m0) rfl) rfl ?_
    try dsimp only [setd, setn, ev, nth, over, cl, eI, eP, eT, List.map, List.append, List.drop, List.take]
    refine K.seq_pure (K.Pure.eq (K.neq_s2 s2_27 rfl rfl) (show _ = Value.bool false from congrArg Value.bool (decide_eq_false (fun h => h (by rw [same_lst g g2 hsame hcut]))))) rfl ?_
    dsimp only [setd, setn, ev, nth]
    refine K.seq_pure (K.pick_f rfl) rfl ?_
    dsimp only [setd, setn, ev, nth]
    refine K.seq_pure (K.move) rfl ?_
    dsimp only [setd, setn, ev, nth]
    refine K.seq_pure (K.move) rfl ?_
    dsimp only [setd, setn, ev, nth]
    refine K.seq_pure (K.move) rfl ?_
    dsimp only [setd, setn, ev, nth]
    refine K.seq_pure (K.Pure.eq (K.neq rfl rfl) (show _ = Value.bool false from congrArg Value.bool (decide_eq_false (fun h => h (by rw [same_lst g g2 hsame hcut]))))) rfl ?_
    dsimp only [setd, setn, ev, nth]
    refine K.seq_pure (K.pick_f rfl) rfl ?_
    dsimp only [setd, setn, ev, nth]
    refine K.seq_nil ?_
    refine K.norm_then ?_
    refine K.cond_false rfl ?_
    refine K.skip ?_
    refine K.norm_block ?_
    refine K.norm_then ?_
    refine K.region_lit ?_
    refine K.seq_pure (K.move) rfl ?_
    dsimp only [setd, setn, ev, nth]
    refine K.seq_pure (K.add_i64 rfl rfl (by omega)) rfl ?_
    dsimp only [setd, setn, ev, nth]
    refine K.seq_pure (K.assign) rfl ?_
    dsimp only [setd, setn, ev, nth]
    refine K.seq_nil ?_
    exact K.round_endW (L'' := [K.blk b19 27 [.int .i64 (lstR kind base most hs rs).1.1, .int .i64 (lstR kind base most hs rs).1.2], K.blk b17 27 [.int .i64 (grtR kind base most hs rs x2).1.1, .int .i64 (grtR kind base most hs rs x2).1.2], K.row (.slice A6 (flatsR kind base most hs rs u v).length c6) 3 1 (flatsR kind base most hs rs u v).length ((flatsR kind base most hs rs u v).flatMap K.eI), K.row (.slice A5 (offsR kind base most hs rs u v).length c5) 3 1 (offsR kind base most hs rs u v).length ((offsR kind base most hs rs u v).flatMap K.eI), K.blk b104 25 [.int .i64 kind, .int .i64 base, .int .i64 most, .slice A hs.length c, .slice Ab rb.length cb, .int .i64 kind, .int .i64 (base + by_), .int .i64 most, .slice Qh (upH hs by_).length qh, .slice B rs.length d], K.row (.slice Qh (upH hs by_).length qh) 3 1 (upH hs by_).length ((upH hs by_).flatMap K.eI), K.blk b10 25 [.int .i64 kind, .int .i64 (base + by_), .int .i64 most, .slice Qh (upH hs by_).length qh, .slice B rs.length d], bk, K.blk b8 25 [.int .i64 kind, .int .i64 base, .int .i64 most, .slice A hs.length c, .slice Ab rb.length cb], K.blk b7 27 [.int .i64 u, .int .i64 v], K.blk b4 81 [.int .u8 x0, .int .u8 x1, .int .u8 x2], K.blk b3 25 [.int .i64 kind, .int .i64 base, .int .i64 most, .slice A hs.length c, .slice B rs.length d]]) [.int .i64 ((i : Int) + 1)] ⟨i + 1, rfl, rfl, by omega⟩ (by simp [K.nth, intOf]; omega) (by (repeat (first | exact List.Sublist.refl _ | apply List.Sublist.cons)); done) (by kernel_rfl)
  try replace ht133 := of_decide_eq_false ht133
  refine K.exit ?_
  refine K.exit_then ?_
  refine K.exit_then ?_
  refine K.exit_here ?_
  refine K.norm_then ?_
  refine K.seq ?_
  refine K.region_lit ?_
  refine K.seq_call (K.call_g cal_26 (fun F w hF hw => c26 w)) rfl ?_
  try dsimp only [setd, setn, ev, nth, over, cl, eI, eP, eT, List.map, List.append, List.drop, List.take]
  refine K.seq_pure (K.assign) rfl ?_
  dsimp only [setd, setn, ev, nth]
  refine K.seq_nil ?_
  refine K.norm_then ?_
  refine K.ret ?_
  refine K.end_ret (fun w _ => K.res_tmp rfl w) ?_
  exact K.gives rfl

end Go.Proofs.Ytafkbioeoklldaa
