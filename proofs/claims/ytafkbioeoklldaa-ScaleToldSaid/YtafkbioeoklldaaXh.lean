/-
  Walks of the program's functions, printed by program: what each returns.
  Conditions stand in each theorem.
-/
import Derived.Test.YtafkbioeoklldaaKf
import Derived.Test.YtafkbioeoklldaaK2
import Derived.WalkArith
import Derived.Test.YtafkbioeoklldaaK5
import Derived.Test.YtafkbioeoklldaaK4
import Derived.Test.YtafkbioeoklldaaS7
import Derived.Test.YtafkbioeoklldaaWy
import Derived.Test.YtafkbioeoklldaaWp
import Derived.Test.YtafkbioeoklldaaWs
import Derived.Test.YtafkbioeoklldaaWb
import Derived.Test.YtafkbioeoklldaaWq
set_option linter.unusedSimpArgs false
set_option linter.unusedVariables false
namespace Go.Proofs.Ytafkbioeoklldaa
open Go.RowKit Go
open Go.K (setd setn ev nth over cl eI eP eT setM setF)
attribute [local irreducible] K.blk K.row
theorem bs41m (a b c : Int) : K.Bs Try.prog 41 1 [(0, .agg #[.int .i64 a, .int .i64 b, .int .i64 c])] 53 [.int .i64 a, .int .i64 b, .int .i64 c] := fun w => by kernel_rfl
theorem byte_at {ys : List Int} (h : ∀ x ∈ ys, 0 ≤ x ∧ x ≤ 255) {i : Nat} (hi : i < ys.length) : 0 ≤ ys.getD i default ∧ ys.getD i default ≤ 255 := h _ (K.gt_mem hi)

set_option maxRecDepth 100000 in
set_option maxHeartbeats 1000000 in
theorem c44 {kind base most : Int} {A B : Option Addr} {c d : Nat} {hs : List Int} {rs : List (Int × Int)} {u v : Int} {Y : Option Addr} {cy : Nat} {ys : List Int} {w : World} (hH : K.Rd w A 1 K.eI hs) (hR : K.Rd w B 2 K.eP rs) (g : Good kind base most hs rs) (hp : Parts u v) (hY : K.Rd w Y 1 eB ys) (hyb : ∀ x ∈ ys, 0 ≤ x ∧ x ≤ 255) (hyl : ys.length ≤ 140737488351232) :
    Calls Try.prog 44 [.agg #[.int .i64 kind, .int .i64 base, .int .i64 most, .slice A hs.length c, .slice B rs.length d], .agg #[.int .i64 u, .int .i64 v], .slice Y ys.length cy].toArray w (K.Ret (fun r : Option Addr × Nat × List (Int × Int × Int) => (∀ y ∈ r.2.2, mkOK (cuts kind base u v hs) y) ∧ r.2.2.length ≤ 8) (fun r => .slice r.1 r.2.2.length r.2.1) (fun r => [K.row (.slice r.1 r.2.2.length r.2.1) 53 3 r.2.2.length (r.2.2.flatMap K.eT)]) w) := by
  have g1 := g.k
  have g2 := g.n
  have g3 := g.r
  have g4 := g.b
  have g5 := g.m
  refine K.enter (args := [.agg #[.int .i64 kind, .int .i64 base, .int .i64 most, .slice A hs.length c, .slice B rs.length d], .agg #[.int .i64 u, .int .i64 v], .slice Y ys.length cy]) Try.func44 rfl (n := 68) rfl ?_
  simp only [List.replicate, List.cons_append, List.nil_append]
  refine K.seq ?_
  refine K.region_lit ?_
  refine K.seq_new (K.box) rfl ?_
  intro b3
  try dsimp only [setd, setn, ev, nth, over, cl, eI, eP, eT, List.map, List.append, List.drop, List.take]
  refine K.seq_new (K.box) rfl ?_
  intro b4
  try dsimp only [setd, setn, ev, nth, over, cl, eI, eP, eT, List.map, List.append, List.drop, List.take]
  refine K.seq_pure (K.assign) rfl ?_
  dsimp only [setd, setn, ev, nth]
  refine K.seq_nil ?_
  refine K.norm_then ?_
  refine K.seq ?_
  refine K.region_lit ?_
  refine K.nil_row (e := 53) (size := 3) ?_
  refine K.seq_pure (K.assign) rfl ?_
  dsimp only [setd, setn, ev, nth]
  refine K.seq_nil ?_
  refine K.norm_then ?_
  refine K.seq ?_
  refine K.region_lit ?_
  refine K.seq_sil (K.loadA_own ag_25 rfl (K.m2) rfl) rfl ?_
  try dsimp only [setd, setn, ev, nth, over, cl, eI, eP, eT, List.map, List.append, List.drop, List.take]
  refine K.seq_sil (K.loadA_own ag_27 rfl (K.m1) rfl) rfl ?_
  try dsimp only [setd, setn, ev, nth, over, cl, eI, eP, eT, List.map, List.append, List.drop, List.take]
  refine K.seq_loud (K.call_f cal_51 (fun F w hF hw => c51 (u := u) (v := v) (hH.pass hw) (hR.pass hw) g hp)) rfl ?_
  rintro ⟨A1, c1⟩ hA1
  try dsimp only [setd, setn, ev, nth, over, cl, eI, eP, eT, List.map, List.append, List.drop, List.take]
  refine K.seq_pure (K.assign) rfl ?_
  dsimp only [setd, setn, ev, nth]
  refine K.seq_nil ?_
  refine K.norm_then ?_
  refine K.seq ?_
  refine K.seq ?_
  refine K.region_lit ?_
  refine K.seq_pure (K.assign) rfl ?_
  dsimp only [setd, setn, ev, nth]
  refine K.seq_nil ?_
  refine K.norm_then ?_
  refine K.block ?_
  refine K.loopW [7, 9] [10, 14, 15, 16, 17, 18, 19, 20, 21, 22, 23, 24, 25, 26, 27, 28, 29, 30, 31, 32, 33, 34, 35, 36, 37, 38, 39, 40, 41, 42, 43, 44, 45, 46, 47, 48, 49, 50, 51, 52, 53, 54, 55, 56, 57, 58, 59, 60, 61, 62, 63, 64, 65, 66, 67, 68, 69] (fun vi L => ∃ (i : Nat) (Q1 : Option Addr) (q1 : Nat) (ms : List (Int × Int × Int)), vi = [.slice Q1 ms.length q1, .int .i64 (i : Int)] ∧ L = [K.row (.slice A1 (cuts kind base u v hs).length c1) 3 1 (cuts kind base u v hs).length ((cuts kind base u v hs).flatMap K.eI), K.row (.slice Q1 ms.length q1) 53 3 ms.length (ms.flatMap K.eT), K.blk b4 27 [.int .i64 u, .int .i64 v], K.blk b3 25 [.int .i64 kind, .int .i64 base, .int .i64 most, .slice A hs.length c, .slice B rs.length d]] ∧ (∀ y ∈ ms, mkOK (cuts kind base u v hs) y) ∧ ms.length ≤ 8 ∧ i ≤ ys.length + 3) (fun vi => (ys.length + 3 - intOf (K.nth vi 1)).toNat) ?_ ?_
  · exact ⟨0, none, 0, [], rfl, rfl, by simp, by simp, by omega⟩
  intro vi vr L hJ
  obtain ⟨i, Q1, q1, ms, rfl, rfl, hms, hm8, hil⟩ := hJ
  try dsimp only [setd, setn, ev, nth, over, cl, eI, eP, eT, setM, setF, List.map, List.append, List.drop, List.take]
  refine K.seq ?_
  refine K.seq ?_
  refine K.region_lit ?_
  refine K.seq_pure (K.move) rfl ?_
  dsimp only [setd, setn, ev, nth]
  refine K.seq_pure (K.add_i64 rfl rfl (by omega)) rfl ?_
  dsimp only [setd, setn, ev, nth]
  refine K.seq_pure (K.move) rfl ?_
  dsimp only [setd, setn, ev, nth]
  refine K.seq_pure (K.len_sl sl_66 rfl) rfl ?_
  dsimp only [setd, setn, ev, nth]
  refine K.seq_pure (K.lss rfl rfl) rfl ?_
  dsimp only [setd, setn, ev, nth]
  refine K.seq_pure (K.move) rfl ?_
  dsimp only [setd, setn, ev, nth]
  refine K.split 19 rfl (fun hg19 => ?_) (fun hg19 => ?_)
  · try replace hg19 := of_decide_eq_true hg19
    have hi : i + 2 < ys.length := by omega
    refine K.seq_pure (K.move) rfl ?_
    dsimp only [setd, setn, ev, nth]
    refine K.seq_pure (K.len_sl sl_41 rfl) rfl ?_
    dsimp only [setd, setn, ev, nth]
    refine K.seq_pure (K.lss rfl rfl) rfl ?_
    dsimp only [setd, setn, ev, nth]
    refine K.seq_pure (K.pick_t rfl) rfl ?_
    dsimp only [setd, setn, ev, nth]
    refine K.seq_nil ?_
    refine K.norm_then ?_
    refine K.cond rfl (fun ht23 => ?_) (fun ht23 => ?_)
    · try replace ht23 := of_decide_eq_true ht23
      refine K.skip ?_
      refine K.norm_then ?_
      refine K.seq ?_
      refine K.block ?_
      refine K.seq ?_
      have y0 := byte_at hyb (show i < ys.length by omega)
      have y1 := byte_at hyb (show i + 1 < ys.length by omega)
      have y2 := byte_at hyb (show i + 2 < ys.length by omega)
      have hcl : (cuts kind base u v hs).length = hs.length := cuts_len
      have hk0 := Int.emod_nonneg (ys.getD i default) (show ((cuts kind base u v hs).length : Int) ≠ 0 by omega)
      have hk1 := Int.emod_lt_of_pos (ys.getD i default) (show 0 < ((cuts kind base u v hs).length : Int) by omega)
      have hkl : (ys.getD i default % ((cuts kind base u v hs).length : Int)).toNat < (cuts kind base u v hs).length := by omega
      have hcb := g.bdc hp (ys.getD i default % ((cuts kind base u v hs).length : Int)).toNat
      refine K.region_lit ?_
      refine K.seq_pure (K.move) rfl ?_
      dsimp only [setd, setn, ev, nth]
      refine K.seq_pure (K.move) rfl ?_
      dsimp only [setd, setn, ev, nth]
      refine K.seq_ix (M := []) _ hY.sl sl_66 rfl rfl rfl (by omega) rfl ?_
      intro p28 hp28
      try dsimp only [setd, setn, ev, nth, over, cl, eI, eP, eT, List.map, List.append, List.drop, List.take]
      refine K.seq_sil (K.load1 one_5 rfl (hp28.any)) rfl ?_
      try dsimp only [setd, setn, ev, nth, over, cl, eI, eP, eT, List.map, List.append, List.drop, List.take]
      refine K.seq_pure (K.Pure.eq (K.conv_int ik_5 ik_3 rfl) (by rw [wrap8 (byte_at hyb (by omega : i < ys.length))])) rfl ?_
      try dsimp only [setd, setn, ev, nth, over, cl, eI, eP, eT, List.map, List.append, List.drop, List.take]
      refine K.seq_pure (K.move) rfl ?_
      dsimp only [setd, setn, ev, nth]
      refine K.seq_pure (K.len_sl sl_22 rfl) rfl ?_
      dsimp only [setd, setn, ev, nth]
      refine K.seq_pure (K.rem_i64 rfl rfl (by omega) (by omega)) rfl ?_
      dsimp only [setd, setn, ev, nth]
      refine K.seq_pure (K.assign) rfl ?_
      dsimp only [setd, setn, ev, nth]
      refine K.seq_nil ?_
      refine K.norm_then ?_
      refine K.seq ?_
      refine K.region_lit ?_
      refine K.seq_pure (K.move) rfl ?_
      dsimp only [setd, setn, ev, nth]
      refine K.seq_pure (K.move) rfl ?_
      dsimp only [setd, setn, ev, nth]
      refine K.seq_ix (M := [_]) (ys.getD i default % ((cuts kind base u v hs).length : Int)).toNat (K.Sl.own (t := 3) (c := c1) (size := 1) (e := K.eI) hA1 (fun _ => rfl)) sl_22 rfl rfl (by omega) (by omega) rfl ?_
      intro p36 hp36
      try dsimp only [setd, setn, ev, nth, over, cl, eI, eP, eT, List.map, List.append, List.drop, List.take]
      refine K.seq_sil (K.load1 one_3 rfl (hp36.at1 (K.m0))) rfl ?_
      try dsimp only [setd, setn, ev, nth, over, cl, eI, eP, eT, List.map, List.append, List.drop, List.take]
      refine K.seq_pure (K.leq rfl rfl) rfl ?_
      dsimp only [setd, setn, ev, nth]
      refine K.seq_nil ?_
      refine K.norm_then ?_
      refine K.cond rfl (fun ht38 => ?_) (fun ht38 => ?_)
      · try replace ht38 := of_decide_eq_true ht38
        have hcm := K.gt_mem (xs := (cuts kind base u v hs)) hkl
        have hnew : mkOK (cuts kind base u v hs) ((ys.getD i default % ((cuts kind base u v hs).length : Int)), (max 0 (((cuts kind base u v hs).getD (ys.getD i default % ((cuts kind base u v hs).length : Int)).toNat default) - ys.getD (i + 1) default % 4)), (min 100000 (((cuts kind base u v hs).getD (ys.getD i default % ((cuts kind base u v hs).length : Int)).toNat default) + ys.getD (i + 2) default % 4))) := ⟨⟨hk0, hk1⟩, ⟨by simp only; omega, by simp only; omega⟩, by simp only; omega, by simp only; omega⟩
        refine K.draw_take 1 [] Try_mixed ?_
        refine K.d_pure 0 rfl (K.move) (by kernel_rfl) rfl ?_
        dsimp only [setd, setn, ev, nth]
        refine K.d_pure 1 rfl (K.move) (by kernel_rfl) rfl ?_
        dsimp only [setd, setn, ev, nth]
        refine K.d_pure 2 rfl (K.move) (by kernel_rfl) rfl ?_
        dsimp only [setd, setn, ev, nth]
        refine K.d_pure 3 rfl (K.move) (by kernel_rfl) rfl ?_
        dsimp only [setd, setn, ev, nth]
        refine K.d_ix (M := [_]) 4 (ys.getD i default % ((cuts kind base u v hs).length : Int)).toNat rfl (K.Sl.own (t := 3) (c := c1) (size := 1) (e := K.eI) hA1 (fun _ => rfl)) sl_22 rfl rfl (by omega) (by omega) (by kernel_rfl) rfl ?_
        intro p43 hp43
        try dsimp only [setd, setn, ev, nth, over, cl, eI, eP, eT, List.map, List.append, List.drop, List.take]
        refine K.d_mem 5 rfl (K.load1 one_3 rfl (hp43.at1 (K.m0))) (fun _ h => List.mem_append_left _ h) (by kernel_rfl) (by kernel_rfl) rfl ?_
        try dsimp only [setd, setn, ev, nth, over, cl, eI, eP, eT, List.map, List.append, List.drop, List.take]
        refine K.d_pure 6 rfl (K.move) (by kernel_rfl) rfl ?_
        dsimp only [setd, setn, ev, nth]
        refine K.d_pure 7 rfl (K.move) (by kernel_rfl) rfl ?_
        dsimp only [setd, setn, ev, nth]
        refine K.d_pure 8 rfl (K.add_i64 rfl rfl (by omega)) (by kernel_rfl) rfl ?_
        dsimp only [setd, setn, ev, nth]
        refine K.d_ix (M := []) 9 (i + 1) rfl hY.sl sl_66 rfl rfl (by omega) (by omega) (by kernel_rfl) rfl ?_
        intro p48 hp48
        try dsimp only [setd, setn, ev, nth, over, cl, eI, eP, eT, List.map, List.append, List.drop, List.take]
        refine K.d_mem 10 rfl (K.load1 one_5 rfl (hp48.any)) (fun _ h => List.mem_append_left _ h) (by kernel_rfl) (by kernel_rfl) rfl ?_
        try dsimp only [setd, setn, ev, nth, over, cl, eI, eP, eT, List.map, List.append, List.drop, List.take]
        refine K.d_pure 11 rfl (K.Pure.eq (K.conv_int ik_5 ik_3 rfl) (by rw [wrap8 (byte_at hyb (by omega : i + 1 < ys.length))])) (by kernel_rfl) rfl ?_
        try dsimp only [setd, setn, ev, nth, over, cl, eI, eP, eT, List.map, List.append, List.drop, List.take]
        refine K.d_pure 12 rfl (K.rem_i64 rfl rfl (by omega) (by omega)) (by kernel_rfl) rfl ?_
        dsimp only [setd, setn, ev, nth]
        refine K.d_pure 13 rfl (K.sub_i64 rfl rfl (by omega)) (by kernel_rfl) rfl ?_
        dsimp only [setd, setn, ev, nth]
        refine K.d_pure 14 rfl (K.max_int rfl rfl) (by kernel_rfl) rfl ?_
        dsimp only [setd, setn, ev, nth]
        refine K.d_pure 15 rfl (K.move) (by kernel_rfl) rfl ?_
        dsimp only [setd, setn, ev, nth]
        refine K.d_pure 16 rfl (K.move) (by kernel_rfl) rfl ?_
        dsimp only [setd, setn, ev, nth]
        refine K.d_ix (M := [_]) 17 (ys.getD i default % ((cuts kind base u v hs).length : Int)).toNat rfl (K.Sl.own (t := 3) (c := c1) (size := 1) (e := K.eI) hA1 (fun _ => rfl)) sl_22 rfl rfl (by omega) (by omega) (by kernel_rfl) rfl ?_
        intro p56 hp56
        try dsimp only [setd, setn, ev, nth, over, cl, eI, eP, eT, List.map, List.append, List.drop, List.take]
        refine K.d_mem 18 rfl (K.load1 one_3 rfl (hp56.at1 (K.m0))) (fun _ h => List.mem_append_left _ h) (by kernel_rfl) (by kernel_rfl) rfl ?_
        try dsimp only [setd, setn, ev, nth, over, cl, eI, eP, eT, List.map, List.append, List.drop, List.take]
        refine K.d_pure 19 rfl (K.move) (by kernel_rfl) rfl ?_
        dsimp only [setd, setn, ev, nth]
        refine K.d_pure 20 rfl (K.move) (by kernel_rfl) rfl ?_
        dsimp only [setd, setn, ev, nth]
        refine K.d_pure 21 rfl (K.add_i64 rfl rfl (by omega)) (by kernel_rfl) rfl ?_
        dsimp only [setd, setn, ev, nth]
        refine K.d_ix (M := []) 22 (i + 2) rfl hY.sl sl_66 rfl rfl (by omega) (by omega) (by kernel_rfl) rfl ?_
        intro p61 hp61
        try dsimp only [setd, setn, ev, nth, over, cl, eI, eP, eT, List.map, List.append, List.drop, List.take]
        refine K.d_mem 23 rfl (K.load1 one_5 rfl (hp61.any)) (fun _ h => List.mem_append_left _ h) (by kernel_rfl) (by kernel_rfl) rfl ?_
        try dsimp only [setd, setn, ev, nth, over, cl, eI, eP, eT, List.map, List.append, List.drop, List.take]
        refine K.d_pure 24 rfl (K.Pure.eq (K.conv_int ik_5 ik_3 rfl) (by rw [wrap8 (byte_at hyb (by omega : i + 2 < ys.length))])) (by kernel_rfl) rfl ?_
        try dsimp only [setd, setn, ev, nth, over, cl, eI, eP, eT, List.map, List.append, List.drop, List.take]
        refine K.d_pure 25 rfl (K.rem_i64 rfl rfl (by omega) (by omega)) (by kernel_rfl) rfl ?_
        dsimp only [setd, setn, ev, nth]
        refine K.d_pure 26 rfl (K.add_i64 rfl rfl (by omega)) (by kernel_rfl) rfl ?_
        dsimp only [setd, setn, ev, nth]
        refine K.d_pure 27 rfl (K.min_int rfl rfl) (by kernel_rfl) rfl ?_
        dsimp only [setd, setn, ev, nth]
        refine K.d_call 28 rfl (K.call_g cal_38 (fun F w hF hw => c38 w)) (fun _ h => List.mem_append_left _ h) (by kernel_rfl) rfl ?_
        try dsimp only [setd, setn, ev, nth, over, cl, eI, eP, eT, List.map, List.append, List.drop, List.take]
        refine K.d_new 29 rfl (K.buildSlice (bs41m _ _ _)) (fun _ h => List.mem_append_left _ h) (by kernel_rfl) rfl ?_
        intro b68
        try dsimp only [setd, setn, ev, nth, over, cl, eI, eP, eT, List.map, List.append, List.drop, List.take]
        refine K.d_upd 30 rfl (K.append el_41 rfl rfl (K.PtrL.own' (K.m0)) rfl rfl (by decide) (by omega) (by omega) (fun _ _ => K.rp2)) (fun _ => fun _ h => K.tl (List.mem_append_left _ h)) (by kernel_rfl) rfl ?_
        rintro ⟨g69, c69⟩ _
        try dsimp only [setd, setn, ev, nth, over, cl, eI, eP, eT, List.map, List.append, List.drop, List.take]
        refine K.d_pure 31 rfl (K.assign) (by kernel_rfl) rfl ?_
        dsimp only [setd, setn, ev, nth]
        refine K.d_done (by kernel_rfl) ?_
        refine K.norm_block ?_
        refine K.norm_then ?_
        refine K.region_lit ?_
        refine K.seq_pure (K.move) rfl ?_
        dsimp only [setd, setn, ev, nth]
        refine K.seq_pure (K.add_i64 rfl rfl (by omega)) rfl ?_
        dsimp only [setd, setn, ev, nth]
        refine K.seq_pure (K.assign) rfl ?_
        dsimp only [setd, setn, ev, nth]
        refine K.seq_nil ?_
        exact K.round_endW (L'' := [K.row (.slice A1 (cuts kind base u v hs).length c1) 3 1 (cuts kind base u v hs).length ((cuts kind base u v hs).flatMap K.eI), K.row (.slice (some ⟨g69, 0, none⟩) (ms.length + 1) c69) 53 3 (ms.length + 1) (ms.flatMap K.eT ++ [.int .i64 (ys.getD i default % ((cuts kind base u v hs).length : Int)), .int .i64 (max 0 (((cuts kind base u v hs).getD (ys.getD i default % ((cuts kind base u v hs).length : Int)).toNat default) - ys.getD (i + 1) default % 4)), .int .i64 (min 100000 (((cuts kind base u v hs).getD (ys.getD i default % ((cuts kind base u v hs).length : Int)).toNat default) + ys.getD (i + 2) default % 4))]), K.blk b4 27 [.int .i64 u, .int .i64 v], K.blk b3 25 [.int .i64 kind, .int .i64 base, .int .i64 most, .slice A hs.length c, .slice B rs.length d]]) [.slice (some ⟨g69, 0, none⟩) (ms.length + 1) c69, .int .i64 ((i : Int) + 3)] ⟨i + 3, some ⟨g69, 0, none⟩, c69, ms ++ [((ys.getD i default % ((cuts kind base u v hs).length : Int)), (max 0 (((cuts kind base u v hs).getD (ys.getD i default % ((cuts kind base u v hs).length : Int)).toNat default) - ys.getD (i + 1) default % 4)), (min 100000 (((cuts kind base u v hs).getD (ys.getD i default % ((cuts kind base u v hs).length : Int)).toNat default) + ys.getD (i + 2) default % 4)))], by rw [List.length_append]; rfl, by rw [List.length_append, List.flatMap_append]; rfl, fun y hy => (List.mem_append.1 hy).elim (hms y) (fun h => by rw [List.mem_singleton.1 h]; exact hnew), by rw [List.length_append]; simp; omega, by omega⟩ (by simp [K.nth, intOf]; omega) (List.Sublist.cons _ (List.Sublist.cons_cons _ (List.Sublist.cons_cons _ (List.Sublist.cons_cons _ (List.Sublist.cons_cons _ (List.nil_sublist _)))))) (by kernel_rfl)
      try replace ht38 := of_decide_eq_false ht38
      refine K.skip ?_
      refine K.norm_block ?_
      refine K.norm_then ?_
      refine K.region_lit ?_
      refine K.seq_pure (K.move) rfl ?_
      dsimp only [setd, setn, ev, nth]
      refine K.seq_pure (K.add_i64 rfl rfl (by omega)) rfl ?_
      dsimp only [setd, setn, ev, nth]
      refine K.seq_pure (K.assign) rfl ?_
      dsimp only [setd, setn, ev, nth]
      refine K.seq_nil ?_
      exact K.round_endW (L'' := [K.row (.slice A1 (cuts kind base u v hs).length c1) 3 1 (cuts kind base u v hs).length ((cuts kind base u v hs).flatMap K.eI), K.row (.slice Q1 ms.length q1) 53 3 ms.length (ms.flatMap K.eT), K.blk b4 27 [.int .i64 u, .int .i64 v], K.blk b3 25 [.int .i64 kind, .int .i64 base, .int .i64 most, .slice A hs.length c, .slice B rs.length d]]) [.slice Q1 ms.length q1, .int .i64 ((i : Int) + 3)] ⟨i + 3, Q1, q1, ms, rfl, rfl, hms, hm8, by omega⟩ (by simp [K.nth, intOf]; omega) (by (repeat (first | exact List.Sublist.refl _ | apply List.Sublist.cons)); done) (by kernel_rfl)
    try replace ht23 := of_decide_eq_false ht23
    refine K.exit ?_
    refine K.exit_then ?_
    refine K.exit_then ?_
    refine K.exit_here ?_
    refine K.norm_then ?_
    refine K.seq ?_
    refine K.region_lit ?_
    refine K.seq_pure (K.move) rfl ?_
    dsimp only [setd, setn, ev, nth]
    refine K.seq_pure (K.assign) rfl ?_
    dsimp only [setd, setn, ev, nth]
    refine K.seq_nil ?_
    refine K.norm_then ?_
    refine K.ret ?_
    refine K.end_ret (fun w _ => K.res_tmp rfl w) ?_
    exact K.rets (Q1, q1, ms) ⟨hms, hm8⟩ rfl (List.Sublist.cons _ (List.Sublist.cons_cons _ (List.nil_sublist _)))
  try replace hg19 := of_decide_eq_false hg19
  refine K.seq_skip ?_ ?_
  · rfl
  try dsimp only [setd, setn, ev, nth, over, cl, eI, eP, eT, List.map, List.append, List.drop, List.take]
  refine K.seq_skip ?_ ?_
  · rfl
  try dsimp only [setd, setn, ev, nth, over, cl, eI, eP, eT, List.map, List.append, List.drop, List.take]
  refine K.seq_skip ?_ ?_
  · rfl
  try dsimp only [setd, setn, ev, nth, over, cl, eI, eP, eT, List.map, List.append, List.drop, List.take]
  refine K.seq_pure (K.pick_f rfl) rfl ?_
  dsimp only [setd, setn, ev, nth]
  refine K.seq_nil ?_
  refine K.norm_then ?_
  refine K.cond_false rfl ?_
  refine K.exit ?_
  refine K.exit_then ?_
  refine K.exit_then ?_
  refine K.exit_here ?_
  refine K.norm_then ?_
  refine K.seq ?_
  refine K.region_lit ?_
  refine K.seq_pure (K.move) rfl ?_
  dsimp only [setd, setn, ev, nth]
  refine K.seq_pure (K.assign) rfl ?_
  dsimp only [setd, setn, ev, nth]
  refine K.seq_nil ?_
  refine K.norm_then ?_
  refine K.ret ?_
  refine K.end_ret (fun w _ => K.res_tmp rfl w) ?_
  exact K.rets (Q1, q1, ms) ⟨hms, hm8⟩ rfl (List.Sublist.cons _ (List.Sublist.cons_cons _ (List.nil_sublist _)))

end Go.Proofs.Ytafkbioeoklldaa
