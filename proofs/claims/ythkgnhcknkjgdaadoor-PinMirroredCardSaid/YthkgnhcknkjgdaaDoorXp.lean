/-
  Walks of the program's functions, printed by program: what each returns.
  Conditions stand in each theorem.
-/
import Derived.WalkArith
import Derived.Laws.Closers25b
import Derived.Test.YthkgnhcknkjgdaaDoorXj
import Derived.Test.YthkgnhcknkjgdaaDoorSX
import Derived.Test.YthkgnhcknkjgdaaDoorXc
set_option linter.unusedSimpArgs false
set_option linter.unusedVariables false
namespace Go.Proofs.YthkgnhcknkjgdaaDoor
open Go.RowKit Go
open Go.K (setd setn ev nth over cl eI eP eT setM setF)
attribute [local irreducible] K.blk K.row
theorem bl26 (a b : Int) : K.Bl Tryd.prog 26 [(0, .int .i64 a), (1, .int .i64 b)] (.agg #[.int .i64 a, .int .i64 b, .slice none 0 0, .slice none 0 0, .slice none 0 0]) := fun w => by kernel_rfl
theorem bs24 (x y a b : Int) : K.Bs Tryd.prog 24 1 [(0, .agg #[.int .i64 x, .int .i64 y, .int .i64 a, .int .i64 b])] 63 [.int .i64 x, .int .i64 y, .int .i64 a, .int .i64 b] := fun w => by kernel_rfl

set_option maxRecDepth 100000 in
set_option maxHeartbeats 2000000 in
theorem c49 {m : Mod} {A B C : Option Addr} {c d e : Nat} {t : Bool} {w : World} (hH : K.Rd w A 1 K.eI m.hs) (hP : K.Rd w B 5 eN m.ps) (hS : K.Rd w C 4 eS m.ss) (g : Good m) :
    Calls Tryd.prog 49 [.agg #[.int .i64 m.W, .int .i64 m.D, .slice A m.hs.length c, .slice B m.ps.length d, .slice C m.ss.length e], .bool t].toArray w (K.Ret (fun r : (Option Addr × Nat) × (Option Addr × Nat) × (Option Addr × Nat) => ((mirM m t).hs.length = 0 ∨ ∃ b, r.1.1 = some ⟨b, 0, none⟩) ∧ ((mirM m t).ps.length = 0 ∨ ∃ b, r.2.1.1 = some ⟨b, 0, none⟩) ∧ ((mirM m t).ss.length = 0 ∨ ∃ b, r.2.2.1 = some ⟨b, 0, none⟩) ∧ (mirM m t).ps.length ≤ r.2.1.2) (fun r => .agg #[.int .i64 (mW m t), .int .i64 (mD m t), .slice r.1.1 (mirM m t).hs.length r.1.2, .slice r.2.1.1 (mirM m t).ps.length r.2.1.2, .slice r.2.2.1 (mirM m t).ss.length r.2.2.2]) (fun r => [K.row (.slice r.2.2.1 (mirM m t).ss.length r.2.2.2) 63 4 (mirM m t).ss.length ((mirM m t).ss.flatMap eS), K.row (.slice r.2.1.1 (mirM m t).ps.length r.2.1.2) 54 5 (mirM m t).ps.length ((mirM m t).ps.flatMap eN), K.row (.slice r.1.1 (mirM m t).hs.length r.1.2) 3 1 (mirM m t).hs.length ((mirM m t).hs.flatMap K.eI)]) w) := by
  have hgw := g.w
  have hgd := g.d
  have hgn := g.n
  have hgk := g.k
  obtain ⟨hmw, hmd⟩ := mir_w (t := t) g
  obtain ⟨wn, hwt⟩ : ∃ wn : Nat, (mW m t).toNat = wn := ⟨_, rfl⟩
  have hwn : (wn : Int) = mW m t := by omega
  have hlh : (mirH m t 0) = [] := rfl
  refine K.enter (args := [.agg #[.int .i64 m.W, .int .i64 m.D, .slice A m.hs.length c, .slice B m.ps.length d, .slice C m.ss.length e], .bool t]) Tryd.func49 rfl (n := 123) rfl ?_
  simp only [List.replicate, List.cons_append, List.nil_append]
  refine sr ?_
  refine K.seq_new (K.box) rfl ?_
  intro b2
  refine zN ?_
  refine K.seq_new (K.alloc zr_26) rfl ?_
  intro b4
  refine zN ?_
  refine sn ?_
  refine sr ?_
  refine qp (K.fieldAddr_lit fo_26_0 rfl) ?_
  refine K.seq_sil (K.load1_own one_3 rfl (K.m1) rfl) rfl ?_
  refine zN ?_
  refine qp (K.fieldAddr_lit fo_26_1 rfl) ?_
  refine K.seq_sil (K.load1_own one_3 rfl (K.m1) rfl) rfl ?_
  refine zN ?_
  refine K.seq_pure (K.build (bl26 _ _)) rfl ?_
  refine zN ?_
  refine K.seq_new (K.alloc zr_26) rfl ?_
  intro b5
  refine zN ?_
  refine K.seq_st (K.store_all sz_26 rfl rfl rfl rfl (K.rp0)) rfl ?_
  refine zN ?_
  refine sn ?_
  refine K.seqJ [] [18, 19, 20, 21, 22, 23, 24] (fun vi L => vi = [] ∧ L = [K.blk b5 26 [.int .i64 (mW m t), .int .i64 (mD m t), .slice none 0 0, .slice none 0 0, .slice none 0 0], K.blk b4 26 [.int .i64 0, .int .i64 0, .slice none 0 0, .slice none 0 0, .slice none 0 0], K.blk b2 26 [.int .i64 m.W, .int .i64 m.D, .slice A m.hs.length c, .slice B m.ps.length d, .slice C m.ss.length e]]) ?_ ?_
  · refine sr ?_
    refine qm ?_
    refine sn ?_
    refine K.cond rfl (fun ht18 => ?_) (fun ht18 => ?_)
    · try replace ht18 := of_decide_eq_true ht18
      refine K.draw_drop 1 [] Tryd_mixed ?_
      refine K.d_pure 0 rfl (K.fieldAddr_lit fo_26_1 rfl) (by kernel_rfl) rfl ?_
      refine zn ?_
      refine K.d_mem 1 rfl (K.load1_own one_3 rfl (K.m1) rfl) (fun _ h => K.tl h) (by kernel_rfl) (by kernel_rfl) rfl ?_
      refine zN ?_
      refine K.d_pure 2 rfl (K.fieldAddr_lit fo_26_0 rfl) (by kernel_rfl) rfl ?_
      refine zn ?_
      refine K.d_mem 3 rfl (K.load1_own one_3 rfl (K.m1) rfl) (fun _ h => K.tl h) (by kernel_rfl) (by kernel_rfl) rfl ?_
      refine zN ?_
      refine K.d_pure 4 rfl (K.fieldAddr_lit fo_26_0 rfl) (by kernel_rfl) rfl ?_
      refine zn ?_
      refine K.d_upd 5 rfl (K.store sz_3 rfl rfl rfl rfl (K.rp0)) (fun _ => fun _ h => K.tl h) (by kernel_rfl) rfl ?_
      intro _ _
      refine zN ?_
      refine K.d_pure 6 rfl (K.fieldAddr_lit fo_26_1 rfl) (by kernel_rfl) rfl ?_
      refine zn ?_
      refine K.d_upd 7 rfl (K.store sz_3 rfl rfl rfl rfl (K.rp0)) (fun _ => fun _ h => K.tl h) (by kernel_rfl) rfl ?_
      intro _ _
      refine zN ?_
      refine K.d_done (by kernel_rfl) ?_
      have e1 : mW m t = m.D := by unfold mW; rw [ht18]; rfl
      have e2 : mD m t = m.W := by unfold mD; rw [ht18]; rfl
      exact K.join_here (L' := [K.blk b5 26 [.int .i64 m.D, .int .i64 m.W, .slice none 0 0, .slice none 0 0, .slice none 0 0], K.blk b4 26 [.int .i64 0, .int .i64 0, .slice none 0 0, .slice none 0 0, .slice none 0 0], K.blk b2 26 [.int .i64 m.W, .int .i64 m.D, .slice A m.hs.length c, .slice B m.ps.length d, .slice C m.ss.length e]]) [] ⟨rfl, by rw [e1, e2]⟩ (fun w h => h) (by kernel_rfl)
    try replace ht18 := of_decide_eq_false ht18
    refine K.skip ?_
    have e1 : mW m t = m.W := by unfold mW; rw [ht18]; rfl
    have e2 : mD m t = m.D := by unfold mD; rw [ht18]; rfl
    exact K.join_here (L' := [K.blk b5 26 [.int .i64 m.W, .int .i64 m.D, .slice none 0 0, .slice none 0 0, .slice none 0 0], K.blk b4 26 [.int .i64 0, .int .i64 0, .slice none 0 0, .slice none 0 0, .slice none 0 0], K.blk b2 26 [.int .i64 m.W, .int .i64 m.D, .slice A m.hs.length c, .slice B m.ps.length d, .slice C m.ss.length e]]) [] ⟨rfl, by rw [e1, e2]⟩ (fun w h => h) (by kernel_rfl)
  intro vi vr L hJ
  obtain ⟨rfl, rfl⟩ := hJ
  try dsimp only [setd, setn, ev, nth, over, cl, eI, eP, eT, eN, eS, setM, setF, List.map, List.append, List.drop, List.take]
  refine K.seq ?_
  refine sr ?_
  refine K.nil_row (e := 3) (size := 1) ?_
  refine qa ?_
  refine sn ?_
  refine K.block ?_
  refine K.loopW [6] [7, 8, 25, 26, 27, 28, 29, 30, 31, 32, 33, 34, 35, 36, 37, 38, 39, 40, 41, 42, 43, 44, 45, 46, 47, 48, 49, 50, 51, 52, 53, 54, 55, 56, 57, 58, 59, 60, 61, 62, 63] (fun vi L => ∃ (y : Nat) (Q1 : Option Addr) (q1 : Nat), vi = [.int .i64 (y : Int)] ∧ L = [K.row (.slice Q1 (mirH m t (y * wn)).length q1) 3 1 (mirH m t (y * wn)).length ((mirH m t (y * wn)).flatMap K.eI), K.blk b5 26 [.int .i64 (mW m t), .int .i64 (mD m t), .slice Q1 (mirH m t (y * wn)).length q1, .slice none 0 0, .slice none 0 0], K.blk b4 26 [.int .i64 0, .int .i64 0, .slice none 0 0, .slice none 0 0, .slice none 0 0], K.blk b2 26 [.int .i64 m.W, .int .i64 m.D, .slice A m.hs.length c, .slice B m.ps.length d, .slice C m.ss.length e]] ∧ (y : Int) ≤ mD m t) (fun vi => (mD m t - intOf (K.nth vi 0)).toNat) ?_ ?_
  · exact ⟨0, none, 0, rfl, by rw [Nat.zero_mul]; rfl, by omega⟩
  intro vi vr L hJ
  obtain ⟨y, Q1, q1, rfl, rfl, hyn⟩ := hJ
  try dsimp only [setd, setn, ev, nth, over, cl, eI, eP, eT, eN, eS, setM, setF, List.map, List.append, List.drop, List.take]
  refine K.seq ?_
  refine sr ?_
  refine qm ?_
  refine qp (K.fieldAddr_lit fo_26_1 rfl) ?_
  refine K.seq_sil (K.load1_own one_3 rfl (K.m1) rfl) rfl ?_
  refine zN ?_
  refine qp (K.lss rfl rfl) ?_
  refine sn ?_
  refine K.cond rfl (fun ht28 => ?_) (fun ht28 => ?_)
  · try replace ht28 := of_decide_eq_true ht28
    have hyd : (y : Int) < mD m t := by omega
    refine K.skip ?_
    refine K.norm_then ?_
    refine K.seq ?_
    refine K.block ?_
    refine sr ?_
    refine qa ?_
    refine sn ?_
    refine K.block ?_
    refine K.loopW [7] [8, 31, 32, 33, 34, 35, 36, 37, 38, 39, 40, 41, 42, 43, 44, 45, 46, 47, 48, 49, 50, 51, 52, 53, 54, 55, 56, 57, 58, 59, 60, 61, 62, 63] (fun vi L => ∃ (x : Nat) (Q1 : Option Addr) (q1 : Nat), vi = [.int .i64 (x : Int)] ∧ L = [K.row (.slice Q1 (mirH m t (y * wn + x)).length q1) 3 1 (mirH m t (y * wn + x)).length ((mirH m t (y * wn + x)).flatMap K.eI), K.blk b5 26 [.int .i64 (mW m t), .int .i64 (mD m t), .slice Q1 (mirH m t (y * wn + x)).length q1, .slice none 0 0, .slice none 0 0], K.blk b4 26 [.int .i64 0, .int .i64 0, .slice none 0 0, .slice none 0 0, .slice none 0 0], K.blk b2 26 [.int .i64 m.W, .int .i64 m.D, .slice A m.hs.length c, .slice B m.ps.length d, .slice C m.ss.length e]] ∧ (x : Int) ≤ mW m t) (fun vi => (mW m t - intOf (K.nth vi 0)).toNat) ?_ ?_
    · exact ⟨0, Q1, q1, rfl, rfl, by omega⟩
    intro vi vr L hJ
    obtain ⟨x, Q1, q1, rfl, rfl, hxn⟩ := hJ
    try dsimp only [setd, setn, ev, nth, over, cl, eI, eP, eT, eN, eS, setM, setF, List.map, List.append, List.drop, List.take]
    refine K.seq ?_
    refine sr ?_
    refine qm ?_
    refine qp (K.fieldAddr_lit fo_26_0 rfl) ?_
    refine K.seq_sil (K.load1_own one_3 rfl (K.m1) rfl) rfl ?_
    refine zN ?_
    refine qp (K.lss rfl rfl) ?_
    refine sn ?_
    refine K.cond rfl (fun ht34 => ?_) (fun ht34 => ?_)
    · try replace ht34 := of_decide_eq_true ht34
      have hxw : x < wn := by omega
      obtain ⟨hat, hat0, hatl, hb1, hb2⟩ := mAt_ok g hwn hxw hyd
      have hln := @mirH_len m t (y * wn + x)
      have hlb : y * wn + x ≤ 1000 := by
        have := Nat.mul_le_mul (show y ≤ 8 by omega) (show wn ≤ 8 by omega)
        omega
      refine K.skip ?_
      refine K.norm_then ?_
      refine K.seq ?_
      refine K.block ?_
      refine sr ?_
      refine qm ?_
      refine qp (K.fieldAddr_lit fo_26_0 rfl) ?_
      refine K.seq_sil (K.load1_own one_3 rfl (K.m3) rfl) rfl ?_
      refine zN ?_
      refine qp (K.mul_i64 rfl rfl (by omega)) ?_
      refine qp (K.fieldAddr_lit fo_26_0 rfl) ?_
      refine K.seq_sil (K.load1_own one_3 rfl (K.m3) rfl) rfl ?_
      refine zN ?_
      refine qp (K.add_i64 rfl rfl (by omega)) ?_
      refine qp (K.sub_i64 rfl rfl (by omega)) ?_
      refine qm ?_
      refine qp (K.sub_i64 rfl rfl (by omega)) ?_
      refine qa ?_
      refine sn ?_
      refine K.seq ?_
      refine sr ?_
      refine qm ?_
      refine sn ?_
      refine K.cond rfl (fun ht47 => ?_) (fun ht47 => ?_)
      · try replace ht47 := of_decide_eq_true ht47
        rw [if_pos ht47] at hat
        refine K.region_lit ?_
        refine qm ?_
        refine qp (K.fieldAddr_lit fo_26_0 rfl) ?_
        refine K.seq_sil (K.load1_own one_3 rfl (K.m3) rfl) rfl ?_
        refine zN ?_
        refine qp (K.mul_i64 rfl rfl (by omega)) ?_
        refine qm ?_
        refine qp (K.add_i64 rfl rfl (by omega)) ?_
        refine qa ?_
        refine sn ?_
        refine K.draw_drop 1 [10] Tryd_mixed ?_
        refine K.d_pure 0 rfl (K.fieldAddr_lit fo_26_2 rfl) (by kernel_rfl) rfl ?_
        refine zn ?_
        refine K.d_mem 1 rfl (K.load1_own one_22 rfl (K.m0) rfl) (fun _ h => K.tl h) (by kernel_rfl) (by kernel_rfl) rfl ?_
        refine zN ?_
        refine K.d_pure 2 rfl (K.fieldAddr_lit fo_26_2 rfl) (by kernel_rfl) rfl ?_
        refine zn ?_
        refine K.d_mem 3 rfl (K.load1_own one_22 rfl (K.m2) rfl) (fun _ h => K.tl h) (by kernel_rfl) (by kernel_rfl) rfl ?_
        refine zN ?_
        refine K.d_pure 4 rfl (K.move) (by kernel_rfl) rfl ?_
        refine zn ?_
        refine K.d_ix (M := []) 5 (mAt m.W t wn (y * wn + x)).toNat rfl hH.sl sl_22 rfl rfl (by omega) (by omega) (by kernel_rfl) rfl ?_
        intro p59 hp59
        refine zN ?_
        refine K.d_mem 6 rfl (K.load1 one_3 rfl (hp59.any)) (fun _ h => K.tl h) (by kernel_rfl) (by kernel_rfl) rfl ?_
        refine zN ?_
        refine K.d_new 7 rfl (K.buildSlice (bs1 _)) (fun _ h => K.tl h) (by kernel_rfl) rfl ?_
        intro b61
        refine zN ?_
        refine K.d_upd 8 rfl (K.append el_22 rfl rfl (K.PtrL.own' (K.m0)) rfl rfl (by decide) (by omega) (by omega) (fun _ _ => K.rp1)) (fun _ => fun _ h => K.tl (K.tl h)) (by kernel_rfl) rfl ?_
        rintro ⟨g62, c62⟩ _
        refine zN ?_
        refine K.d_pure 9 rfl (K.fieldAddr_lit fo_26_2 rfl) (by kernel_rfl) rfl ?_
        refine zn ?_
        refine K.d_last 10 rfl (K.store sz_22 rfl rfl rfl rfl (K.rp2)) rfl (by kernel_rfl) rfl ?_
        intro _ _
        refine zN ?_
        refine K.d_done (by kernel_rfl) ?_
        refine K.norm_block ?_
        refine K.norm_then ?_
        refine K.region_lit ?_
        refine qm ?_
        refine qp (K.add_i64 rfl rfl (by omega)) ?_
        refine qa ?_
        refine K.seq_nil ?_
        have hfe : (mirH m t (y * wn + x + 1)) = (mirH m t (y * wn + x)) ++ [(m.hs.getD (mAt m.W t wn (y * wn + x)).toNat default)] := by rw [mirH_succ, hwt]
        exact K.round_endW (L'' := [K.row (.slice (some ⟨g62, 0, none⟩) ((mirH m t (y * wn + x)).length + 1) c62) 3 1 ((mirH m t (y * wn + x)).length + 1) ((mirH m t (y * wn + x)).flatMap K.eI ++ [.int .i64 (m.hs.getD (mAt m.W t wn (y * wn + x)).toNat default)]), K.blk b5 26 [.int .i64 (mW m t), .int .i64 (mD m t), .slice (some ⟨g62, 0, none⟩) ((mirH m t (y * wn + x)).length + 1) c62, .slice none 0 0, .slice none 0 0], K.blk b4 26 [.int .i64 0, .int .i64 0, .slice none 0 0, .slice none 0 0, .slice none 0 0], K.blk b2 26 [.int .i64 m.W, .int .i64 m.D, .slice A m.hs.length c, .slice B m.ps.length d, .slice C m.ss.length e]]) [.int .i64 ((x : Int) + 1)] ⟨x + 1, some ⟨g62, 0, none⟩, c62, rfl, by rw [show y * wn + (x + 1) = y * wn + x + 1 from rfl, hfe, List.length_append, List.flatMap_append]; rfl, by omega⟩ (by simp [K.nth, intOf]; omega) (List.Sublist.cons _ (List.Sublist.refl _)) (by kernel_rfl)
      try replace ht47 := of_decide_eq_false ht47
      rw [if_neg (by rw [ht47]; decide)] at hat
      refine K.skip ?_
      refine K.norm_then ?_
      refine K.draw_drop 1 [10] Tryd_mixed ?_
      refine K.d_pure 0 rfl (K.fieldAddr_lit fo_26_2 rfl) (by kernel_rfl) rfl ?_
      refine zn ?_
      refine K.d_mem 1 rfl (K.load1_own one_22 rfl (K.m0) rfl) (fun _ h => K.tl h) (by kernel_rfl) (by kernel_rfl) rfl ?_
      refine zN ?_
      refine K.d_pure 2 rfl (K.fieldAddr_lit fo_26_2 rfl) (by kernel_rfl) rfl ?_
      refine zn ?_
      refine K.d_mem 3 rfl (K.load1_own one_22 rfl (K.m2) rfl) (fun _ h => K.tl h) (by kernel_rfl) (by kernel_rfl) rfl ?_
      refine zN ?_
      refine K.d_pure 4 rfl (K.move) (by kernel_rfl) rfl ?_
      refine zn ?_
      refine K.d_ix (M := []) 5 (mAt m.W t wn (y * wn + x)).toNat rfl hH.sl sl_22 rfl rfl (by omega) (by omega) (by kernel_rfl) rfl ?_
      intro p59 hp59
      refine zN ?_
      refine K.d_mem 6 rfl (K.load1 one_3 rfl (hp59.any)) (fun _ h => K.tl h) (by kernel_rfl) (by kernel_rfl) rfl ?_
      refine zN ?_
      refine K.d_new 7 rfl (K.buildSlice (bs1 _)) (fun _ h => K.tl h) (by kernel_rfl) rfl ?_
      intro b61
      refine zN ?_
      refine K.d_upd 8 rfl (K.append el_22 rfl rfl (K.PtrL.own' (K.m0)) rfl rfl (by decide) (by omega) (by omega) (fun _ _ => K.rp1)) (fun _ => fun _ h => K.tl (K.tl h)) (by kernel_rfl) rfl ?_
      rintro ⟨g62, c62⟩ _
      refine zN ?_
      refine K.d_pure 9 rfl (K.fieldAddr_lit fo_26_2 rfl) (by kernel_rfl) rfl ?_
      refine zn ?_
      refine K.d_last 10 rfl (K.store sz_22 rfl rfl rfl rfl (K.rp2)) rfl (by kernel_rfl) rfl ?_
      intro _ _
      refine zN ?_
      refine K.d_done (by kernel_rfl) ?_
      refine K.norm_block ?_
      refine K.norm_then ?_
      refine K.region_lit ?_
      refine qm ?_
      refine qp (K.add_i64 rfl rfl (by omega)) ?_
      refine qa ?_
      refine K.seq_nil ?_
      have hfe : (mirH m t (y * wn + x + 1)) = (mirH m t (y * wn + x)) ++ [(m.hs.getD (mAt m.W t wn (y * wn + x)).toNat default)] := by rw [mirH_succ, hwt]
      exact K.round_endW (L'' := [K.row (.slice (some ⟨g62, 0, none⟩) ((mirH m t (y * wn + x)).length + 1) c62) 3 1 ((mirH m t (y * wn + x)).length + 1) ((mirH m t (y * wn + x)).flatMap K.eI ++ [.int .i64 (m.hs.getD (mAt m.W t wn (y * wn + x)).toNat default)]), K.blk b5 26 [.int .i64 (mW m t), .int .i64 (mD m t), .slice (some ⟨g62, 0, none⟩) ((mirH m t (y * wn + x)).length + 1) c62, .slice none 0 0, .slice none 0 0], K.blk b4 26 [.int .i64 0, .int .i64 0, .slice none 0 0, .slice none 0 0, .slice none 0 0], K.blk b2 26 [.int .i64 m.W, .int .i64 m.D, .slice A m.hs.length c, .slice B m.ps.length d, .slice C m.ss.length e]]) [.int .i64 ((x : Int) + 1)] ⟨x + 1, some ⟨g62, 0, none⟩, c62, rfl, by rw [show y * wn + (x + 1) = y * wn + x + 1 from rfl, hfe, List.length_append, List.flatMap_append]; rfl, by omega⟩ (by simp [K.nth, intOf]; omega) (List.Sublist.cons _ (List.Sublist.refl _)) (by kernel_rfl)
    try replace ht34 := of_decide_eq_false ht34
    refine K.exit ?_
    refine K.exit_then ?_
    refine K.exit_then ?_
    refine K.exit_here ?_
    refine K.norm_block ?_
    refine K.norm_then ?_
    refine K.region_lit ?_
    refine qm ?_
    refine qp (K.add_i64 rfl rfl (by omega)) ?_
    refine qa ?_
    refine K.seq_nil ?_
    obtain rfl : x = wn := by omega
    exact K.round_endW (L'' := [K.row (.slice Q1 (mirH m t (y * x + x)).length q1) 3 1 (mirH m t (y * x + x)).length ((mirH m t (y * x + x)).flatMap K.eI), K.blk b5 26 [.int .i64 (mW m t), .int .i64 (mD m t), .slice Q1 (mirH m t (y * x + x)).length q1, .slice none 0 0, .slice none 0 0], K.blk b4 26 [.int .i64 0, .int .i64 0, .slice none 0 0, .slice none 0 0, .slice none 0 0], K.blk b2 26 [.int .i64 m.W, .int .i64 m.D, .slice A m.hs.length c, .slice B m.ps.length d, .slice C m.ss.length e]]) [.int .i64 ((y : Int) + 1)] ⟨y + 1, Q1, q1, rfl, by rw [Nat.succ_mul], by omega⟩ (by simp [K.nth, intOf]; omega) (List.Sublist.refl _) (by kernel_rfl)
  try replace ht28 := of_decide_eq_false ht28
  refine K.exit ?_
  refine K.exit_then ?_
  refine K.exit_then ?_
  refine K.exit_here ?_
  refine K.norm_then ?_
  refine K.seq ?_
  refine K.seq ?_
  obtain ⟨yn, hyn2⟩ : ∃ yn : Nat, yn = y := ⟨_, rfl⟩
  have hyd : (mD m t).toNat = y := by omega
  have hhs : mirH m t (y * wn) = (mirM m t).hs := by rw [← hwt, ← hyd]; rfl
  rw [hhs] at *
  refine K.region_lit ?_
  refine K.nil_row (e := 54) (size := 5) ?_
  refine qa ?_
  refine sn ?_
  refine K.block ?_
  refine K.loopW [9] [10, 64, 65, 66, 67, 68, 69, 70, 71, 72, 73, 74, 75, 76, 77, 78, 79, 80, 81, 82, 83, 84, 85, 86, 87, 88, 89, 90, 91, 92, 93] (fun vi L => ∃ (k : Nat) (Q3 : Option Addr) (q3 : Nat), vi = [.int .i64 (k : Int)] ∧ L = [K.row (.slice Q3 (mPL m t k).length q3) 54 5 (mPL m t k).length ((mPL m t k).flatMap eN), K.row (.slice Q1 (mirM m t).hs.length q1) 3 1 (mirM m t).hs.length ((mirM m t).hs.flatMap K.eI), K.blk b5 26 [.int .i64 (mW m t), .int .i64 (mD m t), .slice Q1 (mirM m t).hs.length q1, .slice Q3 (mPL m t k).length q3, .slice none 0 0], K.blk b4 26 [.int .i64 0, .int .i64 0, .slice none 0 0, .slice none 0 0, .slice none 0 0], K.blk b2 26 [.int .i64 m.W, .int .i64 m.D, .slice A m.hs.length c, .slice B m.ps.length d, .slice C m.ss.length e]] ∧ k ≤ m.ps.length) (fun vi => m.ps.length - (intOf (K.nth vi 0)).toNat) ?_ ?_
  · exact ⟨0, none, 0, rfl, rfl, Nat.zero_le _⟩
  intro vi vr L hJ
  obtain ⟨k, Q3, q3, rfl, rfl, hkn⟩ := hJ
  try dsimp only [setd, setn, ev, nth, over, cl, eI, eP, eT, eN, eS, setM, setF, List.map, List.append, List.drop, List.take]
  refine K.seq ?_
  refine sr ?_
  refine qm ?_
  refine qp (K.fieldAddr_lit fo_26_3 rfl) ?_
  refine K.seq_sil (K.load1_own one_23 rfl (K.m4) rfl) rfl ?_
  refine zN ?_
  refine qp (K.len_sl sl_23 rfl) ?_
  refine qp (K.lss rfl rfl) ?_
  refine sn ?_
  refine K.cond rfl (fun ht68 => ?_) (fun ht68 => ?_)
  · try replace ht68 := of_decide_eq_true ht68
    have hkp : k < m.ps.length := by omega
    have hpb := g.p k hkp
    have hpl := @mPL_len m t k
    refine K.skip ?_
    refine K.norm_then ?_
    refine K.seq ?_
    refine K.block ?_
    refine sr ?_
    refine qp (K.fieldAddr_lit fo_26_3 rfl) ?_
    refine K.seq_sil (K.load1_own one_23 rfl (K.m4) rfl) rfl ?_
    refine zN ?_
    refine qm ?_
    refine K.seq_ix (M := []) _ hP.sl sl_23 rfl rfl rfl (by omega) rfl ?_
    intro p74 hp74
    refine zN ?_
    refine K.seq_sil (K.loadA_p ag_54 rfl (hp74.any) rfl) rfl ?_
    refine zN ?_
    refine K.seq_new (K.alloc zr_54) rfl ?_
    intro b10
    refine zN ?_
    refine K.seq_st (K.store_all sz_54 rfl rfl rfl rfl (K.rp0)) rfl ?_
    refine zN ?_
    refine sn ?_
    refine sr ?_
    refine K.seq_sil (K.loadA_own ag_26 rfl (K.m5) rfl) rfl ?_
    refine zN ?_
    refine qp (K.fieldAddr_lit fo_54_1 rfl) ?_
    refine K.seq_sil (K.load1_own one_3 rfl (K.m0) rfl) rfl ?_
    refine zN ?_
    refine qp (K.fieldAddr_lit fo_54_2 rfl) ?_
    refine K.seq_sil (K.load1_own one_3 rfl (K.m0) rfl) rfl ?_
    refine zN ?_
    refine qm ?_
    refine K.seq_call (K.call_g cal_88 (fun F w hF hw => c88 g.w (by omega))) rfl ?_
    refine zN ?_
    refine qm ?_
    refine qx ?_
    refine qx ?_
    refine qp (K.fieldAddr_lit fo_54_1 rfl) ?_
    refine K.seq_st (K.store sz_3 rfl rfl rfl rfl (K.rp0)) rfl ?_
    refine zN ?_
    refine qp (K.fieldAddr_lit fo_54_2 rfl) ?_
    refine K.seq_st (K.store sz_3 rfl rfl rfl rfl (K.rp0)) rfl ?_
    refine zN ?_
    refine sn ?_
    refine K.region_lit ?_
    refine qp (K.fieldAddr_lit fo_26_3 rfl) ?_
    refine K.seq_sil (K.load1_own one_23 rfl (K.m3) rfl) rfl ?_
    refine zN ?_
    refine K.seq_sil (K.loadA_own ag_54 rfl (K.m0) rfl) rfl ?_
    refine zN ?_
    refine K.seq_new (K.buildSlice (bs23 _ _ _ _ _)) rfl ?_
    intro b91
    refine zN ?_
    refine K.seq_upd (K.append el_23 rfl rfl (K.PtrL.own' (K.m0)) rfl rfl (by decide) (by omega) (by omega) (fun _ _ => K.rp2)) rfl ?_
    rintro ⟨g92, c92⟩ _
    refine zN ?_
    refine qp (K.fieldAddr_lit fo_26_3 rfl) ?_
    refine K.seq_st (K.store sz_23 rfl rfl rfl rfl (K.rp4)) rfl ?_
    refine zN ?_
    refine K.seq_nil ?_
    refine K.norm_block ?_
    refine K.norm_then ?_
    refine K.region_lit ?_
    refine qm ?_
    refine qp (K.add_i64 rfl rfl (by omega)) ?_
    refine qa ?_
    refine K.seq_nil ?_
    have hfe : (mPL m t (k + 1)) = (mPL m t k) ++ [mirP m.W t (m.ps.getD k default)] := mPL_s hkp
    exact K.round_endW (L'' := [K.row (.slice (some ⟨g92, 0, none⟩) ((mPL m t k).length + 1) c92) 54 5 ((mPL m t k).length + 1) ((mPL m t k).flatMap eN ++ [.string (m.ps.getD k default).nm, .int .i64 (ovX m.W t (m.ps.getD k default).x (m.ps.getD k default).y), .int .i64 (ovY t (m.ps.getD k default).x (m.ps.getD k default).y), .int .i64 (m.ps.getD k default).len, .int .i64 (m.ps.getD k default).most]), K.row (.slice Q1 (mirM m t).hs.length q1) 3 1 (mirM m t).hs.length ((mirM m t).hs.flatMap K.eI), K.blk b5 26 [.int .i64 (mW m t), .int .i64 (mD m t), .slice Q1 (mirM m t).hs.length q1, .slice (some ⟨g92, 0, none⟩) ((mPL m t k).length + 1) c92, .slice none 0 0], K.blk b4 26 [.int .i64 0, .int .i64 0, .slice none 0 0, .slice none 0 0, .slice none 0 0], K.blk b2 26 [.int .i64 m.W, .int .i64 m.D, .slice A m.hs.length c, .slice B m.ps.length d, .slice C m.ss.length e]]) [.int .i64 ((k : Int) + 1)] ⟨k + 1, some ⟨g92, 0, none⟩, c92, rfl, by rw [hfe, List.length_append, List.flatMap_append]; rfl, by omega⟩ (by simp [K.nth, intOf]; omega) (List.Sublist.cons _ (List.Sublist.cons _ (List.Sublist.refl _))) (by kernel_rfl)
  try replace ht68 := of_decide_eq_false ht68
  refine K.exit ?_
  refine K.exit_then ?_
  refine K.exit_then ?_
  refine K.exit_here ?_
  refine K.norm_then ?_
  refine K.seq ?_
  refine K.seq ?_
  have hkn3 : k = m.ps.length := by omega
  subst hkn3
  rw [mPL_n]
  refine K.region_lit ?_
  refine K.nil_row (e := 63) (size := 4) ?_
  refine qa ?_
  refine sn ?_
  refine K.block ?_
  refine K.loopW [11] [12, 94, 95, 96, 97, 98, 99, 100, 101, 102, 103, 104, 105, 106, 107, 108, 109, 110, 111, 112, 113, 114, 115, 116, 117, 118, 119, 120, 121, 122, 123] (fun vi L => ∃ (k : Nat) (Q4 : Option Addr) (q4 : Nat), vi = [.int .i64 (k : Int)] ∧ L = [K.row (.slice Q4 (mSL m t k).length q4) 63 4 (mSL m t k).length ((mSL m t k).flatMap eS), K.row (.slice Q3 (mirM m t).ps.length q3) 54 5 (mirM m t).ps.length ((mirM m t).ps.flatMap eN), K.row (.slice Q1 (mirM m t).hs.length q1) 3 1 (mirM m t).hs.length ((mirM m t).hs.flatMap K.eI), K.blk b5 26 [.int .i64 (mW m t), .int .i64 (mD m t), .slice Q1 (mirM m t).hs.length q1, .slice Q3 (mirM m t).ps.length q3, .slice Q4 (mSL m t k).length q4], K.blk b4 26 [.int .i64 0, .int .i64 0, .slice none 0 0, .slice none 0 0, .slice none 0 0], K.blk b2 26 [.int .i64 m.W, .int .i64 m.D, .slice A m.hs.length c, .slice B m.ps.length d, .slice C m.ss.length e]] ∧ k ≤ m.ss.length) (fun vi => m.ss.length - (intOf (K.nth vi 0)).toNat) ?_ ?_
  · exact ⟨0, none, 0, rfl, rfl, Nat.zero_le _⟩
  intro vi vr L hJ
  obtain ⟨k, Q4, q4, rfl, rfl, hkn⟩ := hJ
  try dsimp only [setd, setn, ev, nth, over, cl, eI, eP, eT, eN, eS, setM, setF, List.map, List.append, List.drop, List.take]
  refine K.seq ?_
  refine sr ?_
  refine qm ?_
  refine qp (K.fieldAddr_lit fo_26_4 rfl) ?_
  refine K.seq_sil (K.load1_own one_24 rfl (K.m5) rfl) rfl ?_
  refine zN ?_
  refine qp (K.len_sl sl_24 rfl) ?_
  refine qp (K.lss rfl rfl) ?_
  refine sn ?_
  refine K.cond rfl (fun ht98 => ?_) (fun ht98 => ?_)
  · try replace ht98 := of_decide_eq_true ht98
    have hks : k < m.ss.length := by omega
    have hsb := g.st hks
    have hsl := @mSL_len m t k
    refine K.skip ?_
    refine K.norm_then ?_
    refine K.seq ?_
    refine K.block ?_
    refine sr ?_
    refine qp (K.fieldAddr_lit fo_26_4 rfl) ?_
    refine K.seq_sil (K.load1_own one_24 rfl (K.m5) rfl) rfl ?_
    refine zN ?_
    refine qm ?_
    refine K.seq_ix (M := []) _ hS.sl sl_24 rfl rfl rfl (by omega) rfl ?_
    intro p104 hp104
    refine zN ?_
    refine K.seq_sil (K.loadA_p ag_63 rfl (hp104.any) rfl) rfl ?_
    refine zN ?_
    refine K.seq_new (K.alloc zr_63) rfl ?_
    intro b12
    refine zN ?_
    refine K.seq_st (K.store_all sz_63 rfl rfl rfl rfl (K.rp0)) rfl ?_
    refine zN ?_
    refine sn ?_
    refine sr ?_
    refine K.seq_sil (K.loadA_own ag_26 rfl (K.m6) rfl) rfl ?_
    refine zN ?_
    refine qp (K.fieldAddr_lit fo_63_0 rfl) ?_
    refine K.seq_sil (K.load1_own one_3 rfl (K.m0) rfl) rfl ?_
    refine zN ?_
    refine qp (K.fieldAddr_lit fo_63_1 rfl) ?_
    refine K.seq_sil (K.load1_own one_3 rfl (K.m0) rfl) rfl ?_
    refine zN ?_
    refine qm ?_
    refine K.seq_call (K.call_g cal_88 (fun F w hF hw => c88 g.w (by omega))) rfl ?_
    refine zN ?_
    refine qm ?_
    refine qx ?_
    refine qx ?_
    refine qp (K.fieldAddr_lit fo_63_0 rfl) ?_
    refine K.seq_st (K.store sz_3 rfl rfl rfl rfl (K.rp0)) rfl ?_
    refine zN ?_
    refine qp (K.fieldAddr_lit fo_63_1 rfl) ?_
    refine K.seq_st (K.store sz_3 rfl rfl rfl rfl (K.rp0)) rfl ?_
    refine zN ?_
    refine sn ?_
    refine K.region_lit ?_
    refine qp (K.fieldAddr_lit fo_26_4 rfl) ?_
    refine K.seq_sil (K.load1_own one_24 rfl (K.m4) rfl) rfl ?_
    refine zN ?_
    refine K.seq_sil (K.loadA_own ag_63 rfl (K.m0) rfl) rfl ?_
    refine zN ?_
    refine K.seq_new (K.buildSlice (bs24 _ _ _ _)) rfl ?_
    intro b121
    refine zN ?_
    refine K.seq_upd (K.append el_24 rfl rfl (K.PtrL.own' (K.m0)) rfl rfl (by decide) (by omega) (by omega) (fun _ _ => K.rp2)) rfl ?_
    rintro ⟨g122, c122⟩ _
    refine zN ?_
    refine qp (K.fieldAddr_lit fo_26_4 rfl) ?_
    refine K.seq_st (K.store sz_24 rfl rfl rfl rfl (K.rp5)) rfl ?_
    refine zN ?_
    refine K.seq_nil ?_
    refine K.norm_block ?_
    refine K.norm_then ?_
    refine K.region_lit ?_
    refine qm ?_
    refine qp (K.add_i64 rfl rfl (by omega)) ?_
    refine qa ?_
    refine K.seq_nil ?_
    have hfe : (mSL m t (k + 1)) = (mSL m t k) ++ [mirS m.W t (m.ss.getD k default)] := mSL_s hks
    exact K.round_endW (L'' := [K.row (.slice (some ⟨g122, 0, none⟩) ((mSL m t k).length + 1) c122) 63 4 ((mSL m t k).length + 1) ((mSL m t k).flatMap eS ++ [.int .i64 (ovX m.W t (m.ss.getD k default).x (m.ss.getD k default).y), .int .i64 (ovY t (m.ss.getD k default).x (m.ss.getD k default).y), .int .i64 (m.ss.getD k default).lo, .int .i64 (m.ss.getD k default).hi]), K.row (.slice Q3 (mirM m t).ps.length q3) 54 5 (mirM m t).ps.length ((mirM m t).ps.flatMap eN), K.row (.slice Q1 (mirM m t).hs.length q1) 3 1 (mirM m t).hs.length ((mirM m t).hs.flatMap K.eI), K.blk b5 26 [.int .i64 (mW m t), .int .i64 (mD m t), .slice Q1 (mirM m t).hs.length q1, .slice Q3 (mirM m t).ps.length q3, .slice (some ⟨g122, 0, none⟩) ((mSL m t k).length + 1) c122], K.blk b4 26 [.int .i64 0, .int .i64 0, .slice none 0 0, .slice none 0 0, .slice none 0 0], K.blk b2 26 [.int .i64 m.W, .int .i64 m.D, .slice A m.hs.length c, .slice B m.ps.length d, .slice C m.ss.length e]]) [.int .i64 ((k : Int) + 1)] ⟨k + 1, some ⟨g122, 0, none⟩, c122, rfl, by rw [hfe, List.length_append, List.flatMap_append]; rfl, by omega⟩ (by simp [K.nth, intOf]; omega) (List.Sublist.cons _ (List.Sublist.cons _ (List.Sublist.refl _))) (by kernel_rfl)
  try replace ht98 := of_decide_eq_false ht98
  refine K.exit ?_
  refine K.exit_then ?_
  refine K.exit_then ?_
  refine K.exit_here ?_
  refine K.norm_then ?_
  refine K.seq ?_
  have hkn4 : k = m.ss.length := by omega
  subst hkn4
  rw [mSL_n]
  refine K.use_row K.m0 (fun hq4 => ?_)
  refine K.use_rowc K.m1 (fun hq3 hc3 => ?_)
  refine K.use_row K.m2 (fun hq1 => ?_)
  refine K.region_lit ?_
  refine K.seq_sil (K.loadA_own ag_26 rfl (K.m3) rfl) rfl ?_
  refine zN ?_
  refine K.seq_st (K.store_all sz_26 rfl rfl rfl rfl (K.rp4)) rfl ?_
  refine zN ?_
  refine sn ?_
  refine K.ret ?_
  refine K.end_ret (fun w hw => K.res_c rfl rfl (K.run_cellA ag_26 rfl (K.m4) rfl w hw)) ?_
  exact K.rets_v ((Q1, q1), (Q3, q3), (Q4, q4)) ⟨hq1, hq3, hq4, hc3⟩ rfl rfl (List.Sublist.cons_cons _ (List.Sublist.cons_cons _ (List.Sublist.cons_cons _ (List.nil_sublist _))))

end Go.Proofs.YthkgnhcknkjgdaaDoor
