/-
  Walks of the program's functions, printed by program: what each returns.
  Conditions stand in each theorem.
-/
import Derived.WalkArith
import Derived.Laws.Closers25b
import Derived.Test.YtoemnobfnnjopaaDoorSX
import Derived.Test.YtoemnobfnnjopaaDoorWo
set_option linter.unusedSimpArgs false
set_option linter.unusedVariables false
namespace Go.Proofs.YtoemnobfnnjopaaDoor
open Go.RowKit Go
open Go.K (setd setn ev nth over cl eI eP eT setM setF)
attribute [local irreducible] K.blk K.row
theorem blR0 : K.Bl Tryd.prog 44 [(0, .string ⟨#[115, 101, 97]⟩), (1, .int .i64 (-1))] (.agg #[.string ⟨#[115, 101, 97]⟩, .int .i64 (-1), .int .i64 0, .int .i64 0]) := fun w => by kernel_rfl
theorem blR1 : K.Bl Tryd.prog 44 [(0, .string ⟨#[102, 111, 114, 100]⟩), (1, .int .i64 0), (2, .int .i64 5), (3, .int .i64 40)] (.agg #[.string ⟨#[102, 111, 114, 100]⟩, .int .i64 0, .int .i64 5, .int .i64 40]) := fun w => by kernel_rfl
theorem blR2 : K.Bl Tryd.prog 44 [(0, .string ⟨#[109, 105, 108, 108]⟩), (1, .int .i64 1), (2, .int .i64 10), (3, .int .i64 45)] (.agg #[.string ⟨#[109, 105, 108, 108]⟩, .int .i64 1, .int .i64 10, .int .i64 45]) := fun w => by kernel_rfl
theorem blR3 : K.Bl Tryd.prog 44 [(0, .string ⟨#[115, 112, 114, 105, 110, 103]⟩), (1, .int .i64 2), (2, .int .i64 10), (3, .int .i64 70)] (.agg #[.string ⟨#[115, 112, 114, 105, 110, 103]⟩, .int .i64 2, .int .i64 10, .int .i64 70]) := fun w => by kernel_rfl
theorem blR4 (x : Int) : K.Bl Tryd.prog 44 [(0, .string ⟨#[119, 101, 108, 108]⟩), (1, .int .i64 1), (3, .int .i64 x)] (.agg #[.string ⟨#[119, 101, 108, 108]⟩, .int .i64 1, .int .i64 0, .int .i64 x]) := fun w => by kernel_rfl
theorem bsR (x : Int) : K.Bs Tryd.prog 22 5 [(0, .agg #[.string ⟨#[115, 101, 97]⟩, .int .i64 (-1), .int .i64 0, .int .i64 0]), (1, .agg #[.string ⟨#[102, 111, 114, 100]⟩, .int .i64 0, .int .i64 5, .int .i64 40]), (2, .agg #[.string ⟨#[109, 105, 108, 108]⟩, .int .i64 1, .int .i64 10, .int .i64 45]), (3, .agg #[.string ⟨#[115, 112, 114, 105, 110, 103]⟩, .int .i64 2, .int .i64 10, .int .i64 70]), (4, .agg #[.string ⟨#[119, 101, 108, 108]⟩, .int .i64 1, .int .i64 0, .int .i64 x])] 44 ((rivS x).flatMap eR) := fun w => by kernel_rfl
theorem blT0 : K.Bl Tryd.prog 44 [(0, .string ⟨#[97]⟩), (1, .int .i64 1)] (.agg #[.string ⟨#[97]⟩, .int .i64 1, .int .i64 0, .int .i64 0]) := fun w => by kernel_rfl
theorem blT1 : K.Bl Tryd.prog 44 [(0, .string ⟨#[98]⟩), (1, .int .i64 0)] (.agg #[.string ⟨#[98]⟩, .int .i64 0, .int .i64 0, .int .i64 0]) := fun w => by kernel_rfl
theorem bsT : K.Bs Tryd.prog 22 2 [(0, .agg #[.string ⟨#[97]⟩, .int .i64 1, .int .i64 0, .int .i64 0]), (1, .agg #[.string ⟨#[98]⟩, .int .i64 0, .int .i64 0, .int .i64 0])] 44 (twoS.flatMap eR) := fun w => by kernel_rfl
theorem bsI1 (a : Int) : K.Bs Tryd.prog 26 1 [(0, .int .i64 a)] 3 ([a].flatMap K.eI) := fun w => by kernel_rfl
theorem bsI2 (a b : Int) : K.Bs Tryd.prog 26 2 [(0, .int .i64 a), (1, .int .i64 b)] 3 ([a, b].flatMap K.eI) := fun w => by kernel_rfl
theorem bsI5 (a b c d e : Int) : K.Bs Tryd.prog 26 5 [(0, .int .i64 a), (1, .int .i64 b), (2, .int .i64 c), (3, .int .i64 d), (4, .int .i64 e)] 3 ([a, b, c, d, e].flatMap K.eI) := fun w => by kernel_rfl
theorem c18t {A B : Option Addr} {c d : Nat} {xs : List Int} {w : World} (hX : K.Rd w A 1 K.eI xs) (hY : K.Rd w B 1 K.eI xs) (hn : xs.length ≤ 1000000) : Calls Tryd.prog 18 [.slice A xs.length c, .slice B xs.length d].toArray w (K.Gives (.bool true) w) := by
  have h := c18 (c := c) (d := d) hX hY hn hn
  rwa [decide_eq_true rfl] at h

set_option maxRecDepth 100000 in
theorem c34 {x : Int} (w : World) :
    Calls Tryd.prog 34 [.int .i64 x].toArray w (K.Ret (fun _ : Nat => True) (fun b => .slice (some ⟨b, 0, none⟩) 5 5) (fun b => [K.blk b 44 ((rivS x).flatMap eR)]) w) := by
  refine K.enter (args := [.int .i64 x]) Tryd.func34 rfl (n := 9) rfl ?_
  simp only [List.replicate, List.cons_append, List.nil_append]
  refine sr ?_
  refine qa ?_
  refine sn ?_
  refine sr ?_
  refine K.seq_pure (K.build (blR0)) rfl ?_
  refine zN ?_
  refine K.seq_pure (K.build (blR1)) rfl ?_
  refine zN ?_
  refine K.seq_pure (K.build (blR2)) rfl ?_
  refine zN ?_
  refine K.seq_pure (K.build (blR3)) rfl ?_
  refine zN ?_
  refine qm ?_
  refine K.seq_pure (K.build (blR4 _)) rfl ?_
  refine zN ?_
  refine K.seq_new (K.buildSlice (bsR _)) rfl ?_
  intro b9
  refine zN ?_
  refine qa ?_
  refine sn ?_
  refine K.ret ?_
  refine K.end_ret (fun w _ => K.res_tmp rfl w) ?_
  exact K.rets_v b9 trivial rfl rfl (List.Sublist.refl _)

theorem ex16 {w : World} {b : Nat} (hR : K.Rd w (some ⟨b, 0, none⟩) 4 eR (rivS 38))  : Calls Tryd.prog 16 [.slice (some ⟨b, 0, none⟩) 5 5].toArray w (K.RetSE 3 1 K.eI [2, 4] 0 w) := by
  have h := c16 (r := rivS 38) (A := some ⟨b, 0, none⟩) (c := 5)  hR (by decide)
  rw [ex_bad, ex_chk] at h
  exact h


theorem ex19 {w : World} {b : Nat} (hR : K.Rd w (some ⟨b, 0, none⟩) 4 eR (rivS 38))  : Calls Tryd.prog 19 [.slice (some ⟨b, 0, none⟩) 5 5, .int .i64 3].toArray w (K.RetSE 3 1 K.eI [3, 2] 0 w) := by
  have h := c19 (r := rivS 38) (A := some ⟨b, 0, none⟩) (c := 5) (z := 3) hR (by decide)
  rw [ex_poured, ex_pou.1] at h
  exact h


theorem ex19b {w : World} {b : Nat} (hR : K.Rd w (some ⟨b, 0, none⟩) 4 eR (rivS 38))  : Calls Tryd.prog 19 [.slice (some ⟨b, 0, none⟩) 5 5, .int .i64 1].toArray w (K.RetSE 3 1 K.eI [1, 0] 0 w) := by
  have h := c19 (r := rivS 38) (A := some ⟨b, 0, none⟩) (c := 5) (z := 1) hR (by decide)
  rw [ex_poured2, ex_pou.2] at h
  exact h


theorem ex21 {w : World} {b : Nat} (hR : K.Rd w (some ⟨b, 0, none⟩) 4 eR (rivS 38))  : Calls Tryd.prog 21 [.slice (some ⟨b, 0, none⟩) 5 5].toArray w (K.RetSE 3 1 K.eI [0, 40, 50, 70, 40] 0 w) := by
  have h := c21 (r := rivS 38) (A := some ⟨b, 0, none⟩) (c := 5)  hR (by decide)
  rw [ex_fill.1, ex_fill.2] at h
  exact h


theorem ex23 {w : World} {b : Nat} (hR : K.Rd w (some ⟨b, 0, none⟩) 4 eR (rivS 38))  : Calls Tryd.prog 23 [.slice (some ⟨b, 0, none⟩) 5 5].toArray w (K.RetSE 3 1 K.eI [0, 35, 45, 70, 38] 0 w) := by
  have h := c23 (r := rivS 38) (A := some ⟨b, 0, none⟩) (c := 5)  hR (by decide)
  rw [ex_carve.1, ex_carve.2] at h
  exact h


theorem ex26 {w : World} {b : Nat} (hR : K.Rd w (some ⟨b, 0, none⟩) 4 eR (rivS 38)) (hT : Tab w) : Calls Tryd.prog 26 [.slice (some ⟨b, 0, none⟩) 5 5].toArray w (K.RetSE 3 1 K.eI [1] 0 w) := by
  have h := c26 (r := rivS 38) (A := some ⟨b, 0, none⟩) (c := 5)  hR (by decide) hT
  rw [ex_few, ex_chk] at h
  exact h


theorem ex26b {w : World} {b : Nat} (hR : K.Rd w (some ⟨b, 0, none⟩) 4 eR (rivS 20)) (hT : Tab w) : Calls Tryd.prog 26 [.slice (some ⟨b, 0, none⟩) 5 5].toArray w (K.RetSE 3 1 K.eI [1] 0 w) := by
  have h := c26 (r := rivS 20) (A := some ⟨b, 0, none⟩) (c := 5)  hR (by decide) hT
  rw [ex_few2, ex_chk2] at h
  exact h


theorem ex28 {w : World} {b : Nat} (hR : K.Rd w (some ⟨b, 0, none⟩) 4 eR (rivS 38)) (hT : Tab w) : Calls Tryd.prog 28 [.slice (some ⟨b, 0, none⟩) 5 5].toArray w (Ret2 [1] [1] 0 w) := by
  have h := c28 (r := rivS 38) (A := some ⟨b, 0, none⟩) (c := 5)  hR (by decide) hT
  rw [ex_must.1, ex_must.2, ex_chk] at h
  exact h


theorem ex30 {w : World} {b : Nat} (hR : K.Rd w (some ⟨b, 0, none⟩) 4 eR (rivS 38)) (hT : Tab w) : Calls Tryd.prog 30 [.slice (some ⟨b, 0, none⟩) 5 5].toArray w (K.RetSE 3 1 K.eI [0, 1, 1, 2, 3] 0 w) := by
  have h := c30 (r := rivS 38) (A := some ⟨b, 0, none⟩) (c := 5)  hR (by decide) hT
  rw [ex_prf, ex_chk] at h
  exact h


theorem ex30b {w : World} {b : Nat} (hR : K.Rd w (some ⟨b, 0, none⟩) 4 eR (rivS 20)) (hT : Tab w) : Calls Tryd.prog 30 [.slice (some ⟨b, 0, none⟩) 5 5].toArray w (K.RetSE 3 1 K.eI [0, 1, 1, 2, 3] 0 w) := by
  have h := c30 (r := rivS 20) (A := some ⟨b, 0, none⟩) (c := 5)  hR (by decide) hT
  rw [ex_prf2, ex_chk2] at h
  exact h


theorem ex32 {w : World} {b : Nat} (hR : K.Rd w (some ⟨b, 0, none⟩) 4 eR (rivS 38))  : Calls Tryd.prog 32 [.slice (some ⟨b, 0, none⟩) 5 5].toArray w (RetI 5 [0, 35, 45, 70, 38] 0 w) := by
  have h := c32 (r := rivS 38) (A := some ⟨b, 0, none⟩) (c := 5)  hR (by decide)
  rw [ex_lst.1, ex_lst.2, ex_chk] at h
  exact h


theorem ex32b {w : World} {b : Nat} (hR : K.Rd w (some ⟨b, 0, none⟩) 4 eR (rivS 20))  : Calls Tryd.prog 32 [.slice (some ⟨b, 0, none⟩) 5 5].toArray w (RetI 20 [0, 20, 45, 70, 20] 0 w) := by
  have h := c32 (r := rivS 20) (A := some ⟨b, 0, none⟩) (c := 5)  hR (by decide)
  rw [ex_lst2.1, ex_lst2.2, ex_chk2] at h
  exact h


set_option maxRecDepth 100000 in
set_option maxHeartbeats 2000000 in
theorem c25 {w : World} (hT : Tab w) :
    Calls Tryd.prog 25 [].toArray w (K.Gives (.bool true) w) := by
  refine K.enter (args := []) Tryd.func25 rfl (n := 157) rfl ?_
  simp only [List.replicate, List.cons_append, List.nil_append]
  refine sr ?_
  refine qa ?_
  refine sn ?_
  refine sr ?_
  refine K.seq_loud (K.call_f cal_34 (fun F w hF hw => c34 w)) rfl ?_
  rintro h1 _
  refine zN ?_
  refine qa ?_
  refine sn ?_
  refine sr ?_
  refine qm ?_
  refine K.seq_loud (K.call_f cal_16 (fun F w hF hw => ex16 (K.Rd.lit hw (hF _ (K.m0)) (fun _ => rfl) (by decide) rfl))) rfl ?_
  rintro ⟨A1, a1⟩ hq1
  refine zN ?_
  refine qm ?_
  refine qx ?_
  refine qx ?_
  iterate 2 refine qa ?_
  refine sn ?_
  refine sr ?_
  refine qm ?_
  refine K.seq_loud (K.call_f cal_19 (fun F w hF hw => ex19 (K.Rd.lit hw (hF _ (K.m1)) (fun _ => rfl) (by decide) rfl))) rfl ?_
  rintro ⟨A2, a2⟩ hq2
  refine zN ?_
  refine qm ?_
  refine qx ?_
  refine qx ?_
  iterate 2 refine qa ?_
  refine sn ?_
  refine sr ?_
  refine qm ?_
  refine K.seq_loud (K.call_f cal_21 (fun F w hF hw => ex21 (K.Rd.lit hw (hF _ (K.m2)) (fun _ => rfl) (by decide) rfl))) rfl ?_
  rintro ⟨A3, a3⟩ hq3
  refine zN ?_
  refine qm ?_
  refine qx ?_
  refine qx ?_
  iterate 2 refine qa ?_
  refine sn ?_
  refine sr ?_
  refine qm ?_
  refine K.seq_loud (K.call_f cal_23 (fun F w hF hw => ex23 (K.Rd.lit hw (hF _ (K.m3)) (fun _ => rfl) (by decide) rfl))) rfl ?_
  rintro ⟨A4, a4⟩ hq4
  refine zN ?_
  refine qm ?_
  refine qx ?_
  refine qx ?_
  iterate 2 refine qa ?_
  refine sn ?_
  refine sr ?_
  refine qm ?_
  refine K.seq_loud (K.call_f cal_26 (fun F w hF hw => ex26 (K.Rd.lit hw (hF _ (K.m4)) (fun _ => rfl) (by decide) rfl) (hT.pass hw))) rfl ?_
  rintro ⟨A5, a5⟩ hq5
  refine zN ?_
  refine qm ?_
  refine qx ?_
  refine qx ?_
  iterate 2 refine qa ?_
  refine sn ?_
  refine sr ?_
  refine qm ?_
  refine K.seq_loud (K.call_f cal_28 (fun F w hF hw => ex28 (K.Rd.lit hw (hF _ (K.m5)) (fun _ => rfl) (by decide) rfl) (hT.pass hw))) rfl ?_
  rintro ⟨⟨A6, a6⟩, ⟨A7, a7⟩⟩ ⟨hq6, hq7⟩
  refine zN ?_
  refine qm ?_
  refine qx ?_
  refine qx ?_
  refine qx ?_
  iterate 3 refine qa ?_
  refine sn ?_
  refine sr ?_
  refine qm ?_
  refine K.seq_loud (K.call_f cal_30 (fun F w hF hw => ex30 (K.Rd.lit hw (hF _ (K.m7)) (fun _ => rfl) (by decide) rfl) (hT.pass hw))) rfl ?_
  rintro ⟨A8, a8⟩ hq8
  refine zN ?_
  refine qm ?_
  refine qx ?_
  refine qx ?_
  iterate 2 refine qa ?_
  refine sn ?_
  refine sr ?_
  refine qm ?_
  refine K.seq_loud (K.call_f cal_32 (fun F w hF hw => ex32 (K.Rd.lit hw (hF _ (K.m8)) (fun _ => rfl) (by decide) rfl))) rfl ?_
  rintro ⟨A9, a9⟩ hq9
  refine zN ?_
  refine qm ?_
  refine qx ?_
  refine qx ?_
  refine qx ?_
  iterate 3 refine qa ?_
  refine sn ?_
  refine sr ?_
  refine K.seq_pure (K.build (blT0)) rfl ?_
  refine zN ?_
  refine K.seq_pure (K.build (blT1)) rfl ?_
  refine zN ?_
  refine K.seq_new (K.buildSlice (bsT)) rfl ?_
  intro b69
  refine zN ?_
  refine K.seq_call (K.call_g cal_14 (fun F w hF hw => (by have hg := c14 (r := twoS) (A := some ⟨b69, 0, none⟩) (c := 2) (K.Rd.lit hw (hF _ (K.m0)) (fun _ => rfl) (by decide) rfl) (by decide); rw [ex_two] at hg; exact hg))) rfl ?_
  refine zN ?_
  refine qm ?_
  refine qx ?_
  refine qx ?_
  refine qx ?_
  iterate 3 refine qa ?_
  refine sn ?_
  refine sr ?_
  refine qm ?_
  refine qp (K.Pure.eq (K.eql rfl rfl) (show _ = Value.bool true from congrArg Value.bool (by decide))) ?_
  iterate 2 refine qm ?_
  refine qp (K.Pure.eq (K.eql rfl rfl) (show _ = Value.bool true from congrArg Value.bool (by decide))) ?_
  refine qp (K.pick_t rfl) ?_
  iterate 2 refine qm ?_
  refine qp (K.Pure.eq (K.eql rfl rfl) (show _ = Value.bool true from congrArg Value.bool (by decide))) ?_
  refine qp (K.pick_t rfl) ?_
  iterate 2 refine qm ?_
  refine qp (K.Pure.eq (K.eql rfl rfl) (show _ = Value.bool true from congrArg Value.bool (by decide))) ?_
  refine qp (K.pick_t rfl) ?_
  iterate 2 refine qm ?_
  refine qp (K.Pure.eq (K.eql rfl rfl) (show _ = Value.bool true from congrArg Value.bool (by decide))) ?_
  refine qp (K.pick_t rfl) ?_
  iterate 2 refine qm ?_
  refine qp (K.Pure.eq (K.eql rfl rfl) (show _ = Value.bool true from congrArg Value.bool (by decide))) ?_
  refine qp (K.pick_t rfl) ?_
  iterate 2 refine qm ?_
  refine qp (K.Pure.eq (K.eql rfl rfl) (show _ = Value.bool true from congrArg Value.bool (by decide))) ?_
  refine qp (K.pick_t rfl) ?_
  iterate 2 refine qm ?_
  refine qp (K.Pure.eq (K.eql rfl rfl) (show _ = Value.bool true from congrArg Value.bool (by decide))) ?_
  refine qp (K.pick_t rfl) ?_
  iterate 2 refine qm ?_
  refine qp (K.Pure.eq (K.eql rfl rfl) (show _ = Value.bool true from congrArg Value.bool (by decide))) ?_
  refine qp (K.pick_t rfl) ?_
  iterate 2 refine qm ?_
  refine K.seq_new (K.buildSlice (bsI2 _ _)) rfl ?_
  intro b110
  refine zN ?_
  refine K.seq_call (K.call_g cal_18 (fun F w hF hw => c18t (xs := [2, 4]) (K.Rd.own (e := K.eI) hw (hF _ (K.m10)) hq1 (fun _ => rfl) (by decide)) (K.Rd.lit hw (hF _ (K.m0)) (fun _ => rfl) (by decide) rfl) (by decide))) rfl ?_
  refine zN ?_
  refine qp (K.pick_t rfl) ?_
  iterate 2 refine qm ?_
  refine K.seq_new (K.buildSlice (bsI2 _ _)) rfl ?_
  intro b115
  refine zN ?_
  refine K.seq_call (K.call_g cal_18 (fun F w hF hw => c18t (xs := [3, 2]) (K.Rd.own (e := K.eI) hw (hF _ (K.m10)) hq2 (fun _ => rfl) (by decide)) (K.Rd.lit hw (hF _ (K.m0)) (fun _ => rfl) (by decide) rfl) (by decide))) rfl ?_
  refine zN ?_
  refine qp (K.pick_t rfl) ?_
  iterate 2 refine qm ?_
  refine K.seq_new (K.buildSlice (bsI5 _ _ _ _ _)) rfl ?_
  intro b120
  refine zN ?_
  refine K.seq_call (K.call_g cal_18 (fun F w hF hw => c18t (xs := [0, 40, 50, 70, 40]) (K.Rd.own (e := K.eI) hw (hF _ (K.m10)) hq3 (fun _ => rfl) (by decide)) (K.Rd.lit hw (hF _ (K.m0)) (fun _ => rfl) (by decide) rfl) (by decide))) rfl ?_
  refine zN ?_
  refine qp (K.pick_t rfl) ?_
  iterate 2 refine qm ?_
  refine K.seq_new (K.buildSlice (bsI5 _ _ _ _ _)) rfl ?_
  intro b125
  refine zN ?_
  refine K.seq_call (K.call_g cal_18 (fun F w hF hw => c18t (xs := [0, 35, 45, 70, 38]) (K.Rd.own (e := K.eI) hw (hF _ (K.m10)) hq4 (fun _ => rfl) (by decide)) (K.Rd.lit hw (hF _ (K.m0)) (fun _ => rfl) (by decide) rfl) (by decide))) rfl ?_
  refine zN ?_
  refine qp (K.pick_t rfl) ?_
  iterate 2 refine qm ?_
  refine K.seq_new (K.buildSlice (bsI1 _)) rfl ?_
  intro b130
  refine zN ?_
  refine K.seq_call (K.call_g cal_18 (fun F w hF hw => c18t (xs := [1]) (K.Rd.own (e := K.eI) hw (hF _ (K.m10)) hq5 (fun _ => rfl) (by decide)) (K.Rd.lit hw (hF _ (K.m0)) (fun _ => rfl) (by decide) rfl) (by decide))) rfl ?_
  refine zN ?_
  refine qp (K.pick_t rfl) ?_
  iterate 2 refine qm ?_
  refine K.seq_new (K.buildSlice (bsI1 _)) rfl ?_
  intro b135
  refine zN ?_
  refine K.seq_call (K.call_g cal_18 (fun F w hF hw => c18t (xs := [1]) (K.Rd.own (e := K.eI) hw (hF _ (K.m10)) hq6 (fun _ => rfl) (by decide)) (K.Rd.lit hw (hF _ (K.m0)) (fun _ => rfl) (by decide) rfl) (by decide))) rfl ?_
  refine zN ?_
  refine qp (K.pick_t rfl) ?_
  iterate 2 refine qm ?_
  refine K.seq_new (K.buildSlice (bsI1 _)) rfl ?_
  intro b140
  refine zN ?_
  refine K.seq_call (K.call_g cal_18 (fun F w hF hw => c18t (xs := [1]) (K.Rd.own (e := K.eI) hw (hF _ (K.m10)) hq7 (fun _ => rfl) (by decide)) (K.Rd.lit hw (hF _ (K.m0)) (fun _ => rfl) (by decide) rfl) (by decide))) rfl ?_
  refine zN ?_
  refine qp (K.pick_t rfl) ?_
  iterate 2 refine qm ?_
  refine K.seq_new (K.buildSlice (bsI5 _ _ _ _ _)) rfl ?_
  intro b145
  refine zN ?_
  refine K.seq_call (K.call_g cal_18 (fun F w hF hw => c18t (xs := [0, 1, 1, 2, 3]) (K.Rd.own (e := K.eI) hw (hF _ (K.m10)) hq8 (fun _ => rfl) (by decide)) (K.Rd.lit hw (hF _ (K.m0)) (fun _ => rfl) (by decide) rfl) (by decide))) rfl ?_
  refine zN ?_
  refine qp (K.pick_t rfl) ?_
  iterate 2 refine qm ?_
  refine qp (K.Pure.eq (K.eql rfl rfl) (show _ = Value.bool true from congrArg Value.bool (by decide))) ?_
  refine qp (K.pick_t rfl) ?_
  iterate 2 refine qm ?_
  refine K.seq_new (K.buildSlice (bsI5 _ _ _ _ _)) rfl ?_
  intro b154
  refine zN ?_
  refine K.seq_call (K.call_g cal_18 (fun F w hF hw => c18t (xs := [0, 35, 45, 70, 38]) (K.Rd.own (e := K.eI) hw (hF _ (K.m10)) hq9 (fun _ => rfl) (by decide)) (K.Rd.lit hw (hF _ (K.m0)) (fun _ => rfl) (by decide) rfl) (by decide))) rfl ?_
  refine zN ?_
  refine qp (K.pick_t rfl) ?_
  refine qa ?_
  refine sn ?_
  refine K.ret ?_
  refine K.end_ret (fun w _ => K.res_tmp rfl w) ?_
  exact K.gives rfl

set_option maxRecDepth 100000 in
set_option maxHeartbeats 1000000 in
theorem c5 {w : World} (hT : Tab w) :
    Calls Tryd.prog 5 [].toArray w (K.Gives (.bool true) w) := by
  refine K.enter (args := []) Tryd.func5 rfl (n := 74) rfl ?_
  simp only [List.replicate, List.cons_append, List.nil_append]
  refine sr ?_
  refine qa ?_
  refine sn ?_
  refine sr ?_
  refine K.seq_loud (K.call_f cal_34 (fun F w hF hw => c34 w)) rfl ?_
  rintro h1 _
  refine zN ?_
  refine qa ?_
  refine sn ?_
  refine sr ?_
  refine K.seq_loud (K.call_f cal_34 (fun F w hF hw => c34 w)) rfl ?_
  rintro h2 _
  refine zN ?_
  refine K.seq_loud (K.call_f cal_19 (fun F w hF hw => ex19b (K.Rd.lit hw (hF _ (K.m0)) (fun _ => rfl) (by decide) rfl))) rfl ?_
  rintro ⟨A1, a1⟩ hq1
  refine zN ?_
  refine qm ?_
  refine qx ?_
  refine qx ?_
  iterate 2 refine qa ?_
  refine sn ?_
  refine sr ?_
  refine qm ?_
  refine K.seq_loud (K.call_f cal_26 (fun F w hF hw => ex26b (K.Rd.lit hw (hF _ (K.m2)) (fun _ => rfl) (by decide) rfl) (hT.pass hw))) rfl ?_
  rintro ⟨A2, a2⟩ hq2
  refine zN ?_
  refine qm ?_
  refine qx ?_
  refine qx ?_
  iterate 2 refine qa ?_
  refine sn ?_
  refine sr ?_
  refine qm ?_
  refine K.seq_loud (K.call_f cal_30 (fun F w hF hw => ex30b (K.Rd.lit hw (hF _ (K.m3)) (fun _ => rfl) (by decide) rfl) (hT.pass hw))) rfl ?_
  rintro ⟨A3, a3⟩ hq3
  refine zN ?_
  refine qm ?_
  refine qx ?_
  refine qx ?_
  iterate 2 refine qa ?_
  refine sn ?_
  refine sr ?_
  refine qm ?_
  refine K.seq_loud (K.call_f cal_32 (fun F w hF hw => ex32b (K.Rd.lit hw (hF _ (K.m4)) (fun _ => rfl) (by decide) rfl))) rfl ?_
  rintro ⟨A4, a4⟩ hq4
  refine zN ?_
  refine qm ?_
  refine qx ?_
  refine qx ?_
  refine qx ?_
  iterate 3 refine qa ?_
  refine sn ?_
  refine sr ?_
  refine qm ?_
  refine qp (K.Pure.eq (K.eql rfl rfl) (show _ = Value.bool true from congrArg Value.bool (by decide))) ?_
  iterate 2 refine qm ?_
  refine qp (K.Pure.eq (K.eql rfl rfl) (show _ = Value.bool true from congrArg Value.bool (by decide))) ?_
  refine qp (K.pick_t rfl) ?_
  iterate 2 refine qm ?_
  refine qp (K.Pure.eq (K.eql rfl rfl) (show _ = Value.bool true from congrArg Value.bool (by decide))) ?_
  refine qp (K.pick_t rfl) ?_
  iterate 2 refine qm ?_
  refine qp (K.Pure.eq (K.eql rfl rfl) (show _ = Value.bool true from congrArg Value.bool (by decide))) ?_
  refine qp (K.pick_t rfl) ?_
  iterate 2 refine qm ?_
  refine K.seq_new (K.buildSlice (bsI2 _ _)) rfl ?_
  intro b49
  refine zN ?_
  refine K.seq_call (K.call_g cal_18 (fun F w hF hw => c18t (xs := [1, 0]) (K.Rd.own (e := K.eI) hw (hF _ (K.m4)) hq1 (fun _ => rfl) (by decide)) (K.Rd.lit hw (hF _ (K.m0)) (fun _ => rfl) (by decide) rfl) (by decide))) rfl ?_
  refine zN ?_
  refine qp (K.pick_t rfl) ?_
  iterate 2 refine qm ?_
  refine K.seq_new (K.buildSlice (bsI1 _)) rfl ?_
  intro b54
  refine zN ?_
  refine K.seq_call (K.call_g cal_18 (fun F w hF hw => c18t (xs := [1]) (K.Rd.own (e := K.eI) hw (hF _ (K.m4)) hq2 (fun _ => rfl) (by decide)) (K.Rd.lit hw (hF _ (K.m0)) (fun _ => rfl) (by decide) rfl) (by decide))) rfl ?_
  refine zN ?_
  refine qp (K.pick_t rfl) ?_
  iterate 2 refine qm ?_
  refine K.seq_new (K.buildSlice (bsI5 _ _ _ _ _)) rfl ?_
  intro b59
  refine zN ?_
  refine K.seq_call (K.call_g cal_18 (fun F w hF hw => c18t (xs := [0, 1, 1, 2, 3]) (K.Rd.own (e := K.eI) hw (hF _ (K.m4)) hq3 (fun _ => rfl) (by decide)) (K.Rd.lit hw (hF _ (K.m0)) (fun _ => rfl) (by decide) rfl) (by decide))) rfl ?_
  refine zN ?_
  refine qp (K.pick_t rfl) ?_
  iterate 2 refine qm ?_
  refine qp (K.Pure.eq (K.eql rfl rfl) (show _ = Value.bool true from congrArg Value.bool (by decide))) ?_
  refine qp (K.pick_t rfl) ?_
  iterate 2 refine qm ?_
  refine K.seq_new (K.buildSlice (bsI5 _ _ _ _ _)) rfl ?_
  intro b68
  refine zN ?_
  refine K.seq_call (K.call_g cal_18 (fun F w hF hw => c18t (xs := [0, 20, 45, 70, 20]) (K.Rd.own (e := K.eI) hw (hF _ (K.m4)) hq4 (fun _ => rfl) (by decide)) (K.Rd.lit hw (hF _ (K.m0)) (fun _ => rfl) (by decide) rfl) (by decide))) rfl ?_
  refine zN ?_
  refine qp (K.pick_t rfl) ?_
  refine qm ?_
  refine K.seq_call (K.call_g cal_25 (fun F w hF hw => c25 (hT.pass hw))) rfl ?_
  refine zN ?_
  refine qp (K.pick_t rfl) ?_
  refine qa ?_
  refine sn ?_
  refine K.ret ?_
  refine K.end_ret (fun w _ => K.res_tmp rfl w) ?_
  exact K.gives rfl

end Go.Proofs.YtoemnobfnnjopaaDoor
