/-
  Walks of the program's functions, printed by program: what each returns.
  Conditions stand in each theorem.
-/
import Derived.WalkArith
import Derived.Laws.Closers25b
import Derived.Test.YthkgnhcknkjgdaaDoorWw
set_option linter.unusedSimpArgs false
set_option linter.unusedVariables false
namespace Go.Proofs.YthkgnhcknkjgdaaDoor
open Go.RowKit Go
open Go.K (setd setn ev nth over cl eI eP eT setM setF)
attribute [local irreducible] K.blk K.row

theorem ex18 {w : World} {bh bp bs : Nat} (hH : K.Rd w (some ⟨bh, 0, none⟩) 1 K.eI (modS 40).hs) (hP : K.Rd w (some ⟨bp, 0, none⟩) 5 eN (modS 40).ps) (hS : K.Rd w (some ⟨bs, 0, none⟩) 4 eS (modS 40).ss)  : Calls Tryd.prog 18 [.agg #[.int .i64 4, .int .i64 2, .slice (some ⟨bh, 0, none⟩) 8 8, .slice (some ⟨bp, 0, none⟩) 3 3, .slice (some ⟨bs, 0, none⟩) 1 1], .int .i64 0, .int .i64 30, .int .i64 2].toArray w (K.RetSE 3 1 K.eI [0, 2] 0 w) := by
  have h := c18 (m := (modS 40)) (A := some ⟨bh, 0, none⟩) (B := some ⟨bp, 0, none⟩) (C := some ⟨bs, 0, none⟩) (c := 8) (d := 3) (e := 1) (s := 0) (eye := 30) (p := 2) hH hP hS (by decide) (by decide) (by decide) (by decide)
  rw [ex_hid.1, ex_hid.2] at h
  exact h


theorem ex18b {w : World} {bh bp bs : Nat} (hH : K.Rd w (some ⟨bh, 0, none⟩) 1 K.eI (modS 40).hs) (hP : K.Rd w (some ⟨bp, 0, none⟩) 5 eN (modS 40).ps) (hS : K.Rd w (some ⟨bs, 0, none⟩) 4 eS (modS 40).ss)  : Calls Tryd.prog 18 [.agg #[.int .i64 4, .int .i64 2, .slice (some ⟨bh, 0, none⟩) 8 8, .slice (some ⟨bp, 0, none⟩) 3 3, .slice (some ⟨bs, 0, none⟩) 1 1], .int .i64 0, .int .i64 30, .int .i64 1].toArray w (K.RetSE 3 1 K.eI [0] 0 w) := by
  have h := c18 (m := (modS 40)) (A := some ⟨bh, 0, none⟩) (B := some ⟨bp, 0, none⟩) (C := some ⟨bs, 0, none⟩) (c := 8) (d := 3) (e := 1) (s := 0) (eye := 30) (p := 1) hH hP hS (by decide) (by decide) (by decide) (by decide)
  rw [ex_hid1.1, ex_hid1.2] at h
  exact h


theorem ex18c {w : World} {bh bp bs : Nat} (hH : K.Rd w (some ⟨bh, 0, none⟩) 1 K.eI (modS 40).hs) (hP : K.Rd w (some ⟨bp, 0, none⟩) 5 eN (modS 40).ps) (hS : K.Rd w (some ⟨bs, 0, none⟩) 4 eS (modS 40).ss)  : Calls Tryd.prog 18 [.agg #[.int .i64 4, .int .i64 2, .slice (some ⟨bh, 0, none⟩) 8 8, .slice (some ⟨bp, 0, none⟩) 3 3, .slice (some ⟨bs, 0, none⟩) 1 1], .int .i64 0, .int .i64 100, .int .i64 1].toArray w (K.RetSE 3 1 K.eI [] 0 w) := by
  have h := c18 (m := (modS 40)) (A := some ⟨bh, 0, none⟩) (B := some ⟨bp, 0, none⟩) (C := some ⟨bs, 0, none⟩) (c := 8) (d := 3) (e := 1) (s := 0) (eye := 100) (p := 1) hH hP hS (by decide) (by decide) (by decide) (by decide)
  rw [ex_hid2.1, ex_hid2.2] at h
  exact h


theorem ex21 {w : World} {bh bp bs : Nat} (hH : K.Rd w (some ⟨bh, 0, none⟩) 1 K.eI (modS 40).hs) (hP : K.Rd w (some ⟨bp, 0, none⟩) 5 eN (modS 40).ps) (hS : K.Rd w (some ⟨bs, 0, none⟩) 4 eS (modS 40).ss) (hT : Tab w) : Calls Tryd.prog 21 [.agg #[.int .i64 4, .int .i64 2, .slice (some ⟨bh, 0, none⟩) 8 8, .slice (some ⟨bp, 0, none⟩) 3 3, .slice (some ⟨bs, 0, none⟩) 1 1], .int .i64 0].toArray w (Ret2 [0] [0, 1, 2] 0 w) := by
  have h := c21 (m := (modS 40)) (A := some ⟨bh, 0, none⟩) (B := some ⟨bp, 0, none⟩) (C := some ⟨bs, 0, none⟩) (c := 8) (d := 3) (e := 1) (s := 0) hH hP hS (by decide) (by decide) (by decide) (by decide) hT
  rw [ex_seen.1, ex_seen.2.1, ex_seen.2.2] at h
  exact h


theorem ex23 {w : World} {bh bp bs : Nat} (hH : K.Rd w (some ⟨bh, 0, none⟩) 1 K.eI (modS 40).hs) (hP : K.Rd w (some ⟨bp, 0, none⟩) 5 eN (modS 40).ps) (hS : K.Rd w (some ⟨bs, 0, none⟩) 4 eS (modS 40).ss)  : Calls Tryd.prog 23 [.agg #[.int .i64 4, .int .i64 2, .slice (some ⟨bh, 0, none⟩) 8 8, .slice (some ⟨bp, 0, none⟩) 3 3, .slice (some ⟨bs, 0, none⟩) 1 1], .int .i64 0, .int .i64 1].toArray w (K.Gives (.tuple #[.int .i64 35, .int .i64 0]) w) := by
  have h := c23 (m := (modS 40)) (A := some ⟨bh, 0, none⟩) (B := some ⟨bp, 0, none⟩) (C := some ⟨bs, 0, none⟩) (c := 8) (d := 3) (e := 1) (s := 0) (p := 1) hH hP hS (by decide) (by decide) (by decide) (by decide)
  rw [ex_eye.1] at h
  exact h


theorem ex23b {w : World} {bh bp bs : Nat} (hH : K.Rd w (some ⟨bh, 0, none⟩) 1 K.eI (modS 40).hs) (hP : K.Rd w (some ⟨bp, 0, none⟩) 5 eN (modS 40).ps) (hS : K.Rd w (some ⟨bs, 0, none⟩) 4 eS (modS 40).ss)  : Calls Tryd.prog 23 [.agg #[.int .i64 4, .int .i64 2, .slice (some ⟨bh, 0, none⟩) 8 8, .slice (some ⟨bp, 0, none⟩) 3 3, .slice (some ⟨bs, 0, none⟩) 1 1], .int .i64 0, .int .i64 0].toArray w (K.Gives (.tuple #[.int .i64 0, .int .i64 0]) w) := by
  have h := c23 (m := (modS 40)) (A := some ⟨bh, 0, none⟩) (B := some ⟨bp, 0, none⟩) (C := some ⟨bs, 0, none⟩) (c := 8) (d := 3) (e := 1) (s := 0) (p := 0) hH hP hS (by decide) (by decide) (by decide) (by decide)
  rw [ex_eye.2.1] at h
  exact h


theorem ex23c {w : World} {bh bp bs : Nat} (hH : K.Rd w (some ⟨bh, 0, none⟩) 1 K.eI (modS 40).hs) (hP : K.Rd w (some ⟨bp, 0, none⟩) 5 eN (modS 40).ps) (hS : K.Rd w (some ⟨bs, 0, none⟩) 4 eS (modS 40).ss)  : Calls Tryd.prog 23 [.agg #[.int .i64 4, .int .i64 2, .slice (some ⟨bh, 0, none⟩) 8 8, .slice (some ⟨bp, 0, none⟩) 3 3, .slice (some ⟨bs, 0, none⟩) 1 1], .int .i64 0, .int .i64 2].toArray w (K.Gives (.tuple #[.int .i64 34, .int .i64 0]) w) := by
  have h := c23 (m := (modS 40)) (A := some ⟨bh, 0, none⟩) (B := some ⟨bp, 0, none⟩) (C := some ⟨bs, 0, none⟩) (c := 8) (d := 3) (e := 1) (s := 0) (p := 2) hH hP hS (by decide) (by decide) (by decide) (by decide)
  rw [ex_eye.2.2] at h
  exact h


theorem ex26 {w : World} {bh bp bs : Nat} (hH : K.Rd w (some ⟨bh, 0, none⟩) 1 K.eI (modS 40).hs) (hP : K.Rd w (some ⟨bp, 0, none⟩) 5 eN (modS 40).ps) (hS : K.Rd w (some ⟨bs, 0, none⟩) 4 eS (modS 40).ss)  : Calls Tryd.prog 26 [.agg #[.int .i64 4, .int .i64 2, .slice (some ⟨bh, 0, none⟩) 8 8, .slice (some ⟨bp, 0, none⟩) 3 3, .slice (some ⟨bs, 0, none⟩) 1 1]].toArray w (K.RetSE 3 1 K.eI [30, 31, 12] 0 w) := by
  have h := c26 (m := (modS 40)) (A := some ⟨bh, 0, none⟩) (B := some ⟨bp, 0, none⟩) (C := some ⟨bs, 0, none⟩) (c := 8) (d := 3) (e := 1)  hH hP hS (by decide) (by decide) (by decide) (by decide)
  rw [ex_lng.1, ex_lng.2.1] at h
  exact h


theorem ex26b {w : World} {bh bp bs : Nat} (hH : K.Rd w (some ⟨bh, 0, none⟩) 1 K.eI (modS 11).hs) (hP : K.Rd w (some ⟨bp, 0, none⟩) 5 eN (modS 11).ps) (hS : K.Rd w (some ⟨bs, 0, none⟩) 4 eS (modS 11).ss)  : Calls Tryd.prog 26 [.agg #[.int .i64 4, .int .i64 2, .slice (some ⟨bh, 0, none⟩) 8 8, .slice (some ⟨bp, 0, none⟩) 3 3, .slice (some ⟨bs, 0, none⟩) 1 1]].toArray w (K.RetSE 3 1 K.eI [] 9 w) := by
  have h := c26 (m := (modS 11)) (A := some ⟨bh, 0, none⟩) (B := some ⟨bp, 0, none⟩) (C := some ⟨bs, 0, none⟩) (c := 8) (d := 3) (e := 1)  hH hP hS (by decide) (by decide) (by decide) (by decide)
  rw [(by unfold lngL; rw [if_neg (by rw [ex_lng.2.2]; decide)] : lngL (modS 11) = []), ex_lng.2.2] at h
  exact h


theorem ex28 {w : World} {bh bp bs : Nat} (hH : K.Rd w (some ⟨bh, 0, none⟩) 1 K.eI (modS 40).hs) (hP : K.Rd w (some ⟨bp, 0, none⟩) 5 eN (modS 40).ps) (hS : K.Rd w (some ⟨bs, 0, none⟩) 4 eS (modS 40).ss)  : Calls Tryd.prog 28 [.agg #[.int .i64 4, .int .i64 2, .slice (some ⟨bh, 0, none⟩) 8 8, .slice (some ⟨bp, 0, none⟩) 3 3, .slice (some ⟨bs, 0, none⟩) 1 1]].toArray w (K.Gives (.tuple #[.int .i64 0, .int .i64 0, .int .i64 0, .int .i64 0, .int .i64 4]) w) := by
  have h := c28 (m := (modS 40)) (A := some ⟨bh, 0, none⟩) (B := some ⟨bp, 0, none⟩) (C := some ⟨bs, 0, none⟩) (c := 8) (d := 3) (e := 1)  hH hP hS (by decide) (by decide) (by decide) (by decide)
  rw [ex_stuck.1] at h
  exact h


theorem ex28b {w : World} {bh bp bs : Nat} (hH : K.Rd w (some ⟨bh, 0, none⟩) 1 K.eI (modS 11).hs) (hP : K.Rd w (some ⟨bp, 0, none⟩) 5 eN (modS 11).ps) (hS : K.Rd w (some ⟨bs, 0, none⟩) 4 eS (modS 11).ss)  : Calls Tryd.prog 28 [.agg #[.int .i64 4, .int .i64 2, .slice (some ⟨bh, 0, none⟩) 8 8, .slice (some ⟨bp, 0, none⟩) 3 3, .slice (some ⟨bs, 0, none⟩) 1 1]].toArray w (K.Gives (.tuple #[.int .i64 2, .int .i64 2, .int .i64 0, .int .i64 2, .int .i64 0]) w) := by
  have h := c28 (m := (modS 11)) (A := some ⟨bh, 0, none⟩) (B := some ⟨bp, 0, none⟩) (C := some ⟨bs, 0, none⟩) (c := 8) (d := 3) (e := 1)  hH hP hS (by decide) (by decide) (by decide) (by decide)
  rw [ex_stuck.2] at h
  exact h


theorem ex30 {w : World} {bh bp bs : Nat} (hH : K.Rd w (some ⟨bh, 0, none⟩) 1 K.eI (modS 40).hs) (hP : K.Rd w (some ⟨bp, 0, none⟩) 5 eN (modS 40).ps) (hS : K.Rd w (some ⟨bs, 0, none⟩) 4 eS (modS 40).ss) (hT : Tab w) : Calls Tryd.prog 30 [.agg #[.int .i64 4, .int .i64 2, .slice (some ⟨bh, 0, none⟩) 8 8, .slice (some ⟨bp, 0, none⟩) 3 3, .slice (some ⟨bs, 0, none⟩) 1 1], .int .i64 30].toArray w (K.Ret (fun r : Option Addr × Nat => ([0, 1, 2] : List Int).length = 0 ∨ ∃ b, r.1 = some ⟨b, 0, none⟩) (fun r => .tuple #[.int .i64 (-1), .int .i64 (-1), .slice r.1 ([0, 1, 2] : List Int).length r.2, .int .i64 0]) (fun r => [K.row (.slice r.1 ([0, 1, 2] : List Int).length r.2) 3 1 ([0, 1, 2] : List Int).length (([0, 1, 2] : List Int).flatMap K.eI)]) w) := by
  have h := c30 (m := (modS 40)) (A := some ⟨bh, 0, none⟩) (B := some ⟨bp, 0, none⟩) (C := some ⟨bs, 0, none⟩) (c := 8) (d := 3) (e := 1) (eye := 30) hH hP hS (by decide) (by decide) (by decide) (by decide) hT
  rw [ex_best.1, ex_best.2] at h
  exact h


theorem ex34 {w : World} {bh bp bs : Nat} (hH : K.Rd w (some ⟨bh, 0, none⟩) 1 K.eI (modS 40).hs) (hP : K.Rd w (some ⟨bp, 0, none⟩) 5 eN (modS 40).ps) (hS : K.Rd w (some ⟨bs, 0, none⟩) 4 eS (modS 40).ss) (hT : Tab w) : Calls Tryd.prog 34 [.agg #[.int .i64 4, .int .i64 2, .slice (some ⟨bh, 0, none⟩) 8 8, .slice (some ⟨bp, 0, none⟩) 3 3, .slice (some ⟨bs, 0, none⟩) 1 1]].toArray w (K.RetSE 3 1 K.eI [0, 1] 0 w) := by
  have h := c34 (m := (modS 40)) (A := some ⟨bh, 0, none⟩) (B := some ⟨bp, 0, none⟩) (C := some ⟨bs, 0, none⟩) (c := 8) (d := 3) (e := 1)  hH hP hS (by decide) (by decide) (by decide) (by decide) hT
  rw [ex_off, ex_chk] at h
  exact h


theorem ex32 {w : World} {bh bp bs : Nat} (hH : K.Rd w (some ⟨bh, 0, none⟩) 1 K.eI (modS 40).hs) (hP : K.Rd w (some ⟨bp, 0, none⟩) 5 eN (modS 40).ps) (hS : K.Rd w (some ⟨bs, 0, none⟩) 4 eS (modS 40).ss) (hT : Tab w) : Calls Tryd.prog 32 [.agg #[.int .i64 4, .int .i64 2, .slice (some ⟨bh, 0, none⟩) 8 8, .slice (some ⟨bp, 0, none⟩) 3 3, .slice (some ⟨bs, 0, none⟩) 1 1]].toArray w (K.RetSE 3 1 K.eI [] 9 w) := by
  have h := c32 (m := (modS 40)) (A := some ⟨bh, 0, none⟩) (B := some ⟨bp, 0, none⟩) (C := some ⟨bs, 0, none⟩) (c := 8) (d := 3) (e := 1)  hH hP hS (by decide) (by decide) (by decide) (by decide) hT
  rw [(by unfold fewL; rw [if_neg (by rw [ex_chk]; decide), show fewM (modS 40) = none by decide +kernel]; rfl : fewL (modS 40) = []), ex_few.1] at h
  exact h


theorem ex32b {w : World} {bh bp bs : Nat} (hH : K.Rd w (some ⟨bh, 0, none⟩) 1 K.eI (mod1 40).hs) (hP : K.Rd w (some ⟨bp, 0, none⟩) 5 eN (mod1 40).ps) (hS : K.Rd w (some ⟨bs, 0, none⟩) 4 eS (mod1 40).ss) (hT : Tab w) : Calls Tryd.prog 32 [.agg #[.int .i64 4, .int .i64 2, .slice (some ⟨bh, 0, none⟩) 8 8, .slice (some ⟨bp, 0, none⟩) 1 3, .slice (some ⟨bs, 0, none⟩) 1 1]].toArray w (K.RetSE 3 1 K.eI [0] 0 w) := by
  have h := c32 (m := (mod1 40)) (A := some ⟨bh, 0, none⟩) (B := some ⟨bp, 0, none⟩) (C := some ⟨bs, 0, none⟩) (c := 8) (d := 3) (e := 1)  hH hP hS (by decide) (by decide) (by decide) (by decide) hT
  rw [ex_few.2.1, ex_few.2.2] at h
  exact h


set_option maxRecDepth 100000 in
set_option maxHeartbeats 2000000 in
theorem c25 {w : World} (hT : Tab w) :
    Calls Tryd.prog 25 [].toArray w (K.Gives (.bool true) w) := by
  refine K.enter (args := []) Tryd.func25 rfl (n := 196) rfl ?_
  simp only [List.replicate, List.cons_append, List.nil_append]
  refine sr ?_
  refine qa ?_
  refine sn ?_
  refine sr ?_
  refine K.seq_loud (K.call_f cal_36 (fun F w hF hw => c36 w)) rfl ?_
  rintro ⟨h1, p1, s1⟩ _
  refine zN ?_
  refine K.seq_new (K.alloc zr_26) rfl ?_
  intro b1
  refine zN ?_
  refine K.seq_st (K.store_all sz_26 rfl rfl rfl rfl (K.rp0)) rfl ?_
  refine zN ?_
  refine sn ?_
  refine sr ?_
  refine K.seq_sil (K.loadA_own ag_26 rfl (K.m0) rfl) rfl ?_
  refine zN ?_
  refine K.seq_loud (K.call_f cal_18 (fun F w hF hw => ex18 (K.Rd.lit hw (hF _ (K.m3)) (fun _ => rfl) (by decide) rfl) (K.Rd.lit hw (hF _ (K.m2)) (fun _ => rfl) (by decide) rfl) (K.Rd.lit hw (hF _ (K.m1)) (fun _ => rfl) (by decide) rfl))) rfl ?_
  rintro ⟨A1, a1⟩ hq1
  refine zN ?_
  refine qm ?_
  refine qx ?_
  refine qx ?_
  iterate 2 refine qa ?_
  refine sn ?_
  refine sr ?_
  refine K.seq_sil (K.loadA_own ag_26 rfl (K.m1) rfl) rfl ?_
  refine zN ?_
  refine K.seq_loud (K.call_f cal_21 (fun F w hF hw => ex21 (K.Rd.lit hw (hF _ (K.m4)) (fun _ => rfl) (by decide) rfl) (K.Rd.lit hw (hF _ (K.m3)) (fun _ => rfl) (by decide) rfl) (K.Rd.lit hw (hF _ (K.m2)) (fun _ => rfl) (by decide) rfl) (hT.pass hw))) rfl ?_
  rintro ⟨⟨A2, a2⟩, ⟨A3, a3⟩⟩ ⟨hq2, hq3⟩
  refine zN ?_
  refine qm ?_
  refine qx ?_
  refine qx ?_
  refine qx ?_
  iterate 3 refine qa ?_
  refine sn ?_
  refine sr ?_
  refine K.seq_sil (K.loadA_own ag_26 rfl (K.m3) rfl) rfl ?_
  refine zN ?_
  refine K.seq_call (K.call_g cal_23 (fun F w hF hw => ex23 (K.Rd.lit hw (hF _ (K.m6)) (fun _ => rfl) (by decide) rfl) (K.Rd.lit hw (hF _ (K.m5)) (fun _ => rfl) (by decide) rfl) (K.Rd.lit hw (hF _ (K.m4)) (fun _ => rfl) (by decide) rfl))) rfl ?_
  refine zN ?_
  refine qm ?_
  refine qx ?_
  refine qx ?_
  iterate 2 refine qa ?_
  refine sn ?_
  refine sr ?_
  refine K.seq_sil (K.loadA_own ag_26 rfl (K.m3) rfl) rfl ?_
  refine zN ?_
  refine K.seq_loud (K.call_f cal_26 (fun F w hF hw => ex26 (K.Rd.lit hw (hF _ (K.m6)) (fun _ => rfl) (by decide) rfl) (K.Rd.lit hw (hF _ (K.m5)) (fun _ => rfl) (by decide) rfl) (K.Rd.lit hw (hF _ (K.m4)) (fun _ => rfl) (by decide) rfl))) rfl ?_
  rintro ⟨A4, a4⟩ hq4
  refine zN ?_
  refine qm ?_
  refine qx ?_
  refine qx ?_
  iterate 2 refine qa ?_
  refine sn ?_
  refine sr ?_
  refine K.seq_sil (K.loadA_own ag_26 rfl (K.m4) rfl) rfl ?_
  refine zN ?_
  refine K.seq_call (K.call_g cal_28 (fun F w hF hw => ex28 (K.Rd.lit hw (hF _ (K.m7)) (fun _ => rfl) (by decide) rfl) (K.Rd.lit hw (hF _ (K.m6)) (fun _ => rfl) (by decide) rfl) (K.Rd.lit hw (hF _ (K.m5)) (fun _ => rfl) (by decide) rfl))) rfl ?_
  refine zN ?_
  refine qm ?_
  refine qx ?_
  refine qx ?_
  refine qx ?_
  refine qx ?_
  refine qx ?_
  iterate 5 refine qa ?_
  refine sn ?_
  refine sr ?_
  refine K.seq_loud (K.call_f cal_36 (fun F w hF hw => c36 w)) rfl ?_
  rintro ⟨h2, p2, s2⟩ _
  refine zN ?_
  refine K.seq_call (K.call_g cal_28 (fun F w hF hw => ex28b (K.Rd.lit hw (hF _ (K.m2)) (fun _ => rfl) (by decide) rfl) (K.Rd.lit hw (hF _ (K.m1)) (fun _ => rfl) (by decide) rfl) (K.Rd.lit hw (hF _ (K.m0)) (fun _ => rfl) (by decide) rfl))) rfl ?_
  refine zN ?_
  refine qm ?_
  refine qx ?_
  refine qx ?_
  refine qx ?_
  refine qx ?_
  refine qx ?_
  iterate 5 refine qa ?_
  refine sn ?_
  refine sr ?_
  refine K.seq_sil (K.loadA_own ag_26 rfl (K.m7) rfl) rfl ?_
  refine zN ?_
  refine K.seq_loud (K.call_f cal_30 (fun F w hF hw => ex30 (K.Rd.lit hw (hF _ (K.m10)) (fun _ => rfl) (by decide) rfl) (K.Rd.lit hw (hF _ (K.m9)) (fun _ => rfl) (by decide) rfl) (K.Rd.lit hw (hF _ (K.m8)) (fun _ => rfl) (by decide) rfl) (hT.pass hw))) rfl ?_
  rintro ⟨A5, a5⟩ hq5
  refine zN ?_
  refine qm ?_
  refine qx ?_
  refine qx ?_
  refine qx ?_
  refine qx ?_
  iterate 4 refine qa ?_
  refine sn ?_
  refine sr ?_
  refine K.seq_sil (K.loadA_own ag_26 rfl (K.m8) rfl) rfl ?_
  refine zN ?_
  refine K.seq_loud (K.call_f cal_34 (fun F w hF hw => ex34 (K.Rd.lit hw (hF _ (K.m11)) (fun _ => rfl) (by decide) rfl) (K.Rd.lit hw (hF _ (K.m10)) (fun _ => rfl) (by decide) rfl) (K.Rd.lit hw (hF _ (K.m9)) (fun _ => rfl) (by decide) rfl) (hT.pass hw))) rfl ?_
  rintro ⟨A6, a6⟩ hq6
  refine zN ?_
  refine qm ?_
  refine qx ?_
  refine qx ?_
  iterate 2 refine qa ?_
  refine sn ?_
  refine sr ?_
  refine K.seq_sil (K.loadA_own ag_26 rfl (K.m9) rfl) rfl ?_
  refine zN ?_
  refine K.seq_loud (K.call_f cal_32 (fun F w hF hw => ex32 (K.Rd.lit hw (hF _ (K.m12)) (fun _ => rfl) (by decide) rfl) (K.Rd.lit hw (hF _ (K.m11)) (fun _ => rfl) (by decide) rfl) (K.Rd.lit hw (hF _ (K.m10)) (fun _ => rfl) (by decide) rfl) (hT.pass hw))) rfl ?_
  rintro ⟨A7, a7⟩ hq7
  refine zN ?_
  refine qm ?_
  refine qx ?_
  refine qx ?_
  iterate 2 refine qa ?_
  refine sn ?_
  refine sr ?_
  refine qp (K.fieldAddr_lit fo_26_3 rfl) ?_
  refine K.seq_sil (K.load1_own one_23 rfl (K.m10) rfl) rfl ?_
  refine zN ?_
  refine K.seq_pure (K.slice_hi 1 sl_23 rfl rfl rfl (by decide)) rfl ?_
  refine zN ?_
  refine qp (K.fieldAddr_lit fo_26_3 rfl) ?_
  refine K.seq_st (K.store sz_23 rfl rfl rfl rfl (K.rp10)) rfl ?_
  refine zN ?_
  refine sn ?_
  refine sr ?_
  refine K.seq_sil (K.loadA_own ag_26 rfl (K.m10) rfl) rfl ?_
  refine zN ?_
  refine K.seq_loud (K.call_f cal_32 (fun F w hF hw => ex32b (K.Rd.lit hw (hF _ (K.m13)) (fun _ => rfl) (by decide) rfl) ((K.Rd.lit (e := eN) (size := 5) (xs := (modS 40).ps) hw (hF _ (K.m12)) (fun _ => rfl) (by decide) rfl).take 1) (K.Rd.lit hw (hF _ (K.m11)) (fun _ => rfl) (by decide) rfl) (hT.pass hw))) rfl ?_
  rintro ⟨A8, a8⟩ hq8
  refine zN ?_
  refine qm ?_
  refine qx ?_
  refine qx ?_
  iterate 2 refine qa ?_
  refine sn ?_
  refine sr ?_
  refine qm ?_
  refine qp (K.Pure.eq (K.eql rfl rfl) (show _ = Value.bool true from congrArg Value.bool (by decide))) ?_
  iterate 2 refine qm ?_
  refine qp (K.Pure.eq (K.eql rfl rfl) (show _ = Value.bool true from congrArg Value.bool (by decide))) ?_
  refine qp (K.pick_t rfl) ?_
  iterate 2 refine qm ?_
  refine qp (K.Pure.eq (K.eql rfl rfl) (show _ = Value.bool true from congrArg Value.bool (by decide))) ?_
  refine qp (K.pick_t rfl) ?_
  iterate 2 refine qm ?_
  refine qp (K.Pure.eq (K.eql rfl rfl) (show _ = Value.bool true from congrArg Value.bool (by decide))) ?_
  refine qp (K.pick_t rfl) ?_
  iterate 2 refine qm ?_
  refine qp (K.Pure.eq (K.eql rfl rfl) (show _ = Value.bool true from congrArg Value.bool (by decide))) ?_
  refine qp (K.pick_t rfl) ?_
  iterate 2 refine qm ?_
  refine qp (K.Pure.eq (K.eql rfl rfl) (show _ = Value.bool true from congrArg Value.bool (by decide))) ?_
  refine qp (K.pick_t rfl) ?_
  iterate 2 refine qm ?_
  refine qp (K.Pure.eq (K.eql rfl rfl) (show _ = Value.bool true from congrArg Value.bool (by decide))) ?_
  refine qp (K.pick_t rfl) ?_
  iterate 2 refine qm ?_
  refine qp (K.Pure.eq (K.eql rfl rfl) (show _ = Value.bool true from congrArg Value.bool (by decide))) ?_
  refine qp (K.pick_t rfl) ?_
  iterate 2 refine qm ?_
  refine qp (K.Pure.eq (K.eql rfl rfl) (show _ = Value.bool true from congrArg Value.bool (by decide))) ?_
  refine qp (K.pick_t rfl) ?_
  iterate 2 refine qm ?_
  refine qp (K.Pure.eq (K.eql rfl rfl) (show _ = Value.bool true from congrArg Value.bool (by decide))) ?_
  refine qp (K.pick_t rfl) ?_
  iterate 2 refine qm ?_
  refine K.seq_new (K.buildSlice (bsI2 _ _)) rfl ?_
  intro b135
  refine zN ?_
  refine K.seq_call (K.call_g cal_20 (fun F w hF hw => c20t (xs := [0, 2]) (K.Rd.own (e := K.eI) hw (hF _ (K.m11)) hq1 (fun _ => rfl) (by decide)) (K.Rd.lit hw (hF _ (K.m0)) (fun _ => rfl) (by decide) rfl) (by decide))) rfl ?_
  refine zN ?_
  refine qp (K.pick_t rfl) ?_
  iterate 2 refine qm ?_
  refine K.seq_new (K.buildSlice (bsI1 _)) rfl ?_
  intro b140
  refine zN ?_
  refine K.seq_call (K.call_g cal_20 (fun F w hF hw => c20t (xs := [0]) (K.Rd.own (e := K.eI) hw (hF _ (K.m11)) hq2 (fun _ => rfl) (by decide)) (K.Rd.lit hw (hF _ (K.m0)) (fun _ => rfl) (by decide) rfl) (by decide))) rfl ?_
  refine zN ?_
  refine qp (K.pick_t rfl) ?_
  iterate 2 refine qm ?_
  refine K.seq_new (K.buildSlice (bsI3 _ _ _)) rfl ?_
  intro b145
  refine zN ?_
  refine K.seq_call (K.call_g cal_20 (fun F w hF hw => c20t (xs := [0, 1, 2]) (K.Rd.own (e := K.eI) hw (hF _ (K.m11)) hq3 (fun _ => rfl) (by decide)) (K.Rd.lit hw (hF _ (K.m0)) (fun _ => rfl) (by decide) rfl) (by decide))) rfl ?_
  refine zN ?_
  refine qp (K.pick_t rfl) ?_
  iterate 2 refine qm ?_
  refine qp (K.Pure.eq (K.eql rfl rfl) (show _ = Value.bool true from congrArg Value.bool (by decide))) ?_
  refine qp (K.pick_t rfl) ?_
  iterate 2 refine qm ?_
  refine K.seq_new (K.buildSlice (bsI3 _ _ _)) rfl ?_
  intro b154
  refine zN ?_
  refine K.seq_call (K.call_g cal_20 (fun F w hF hw => c20t (xs := [30, 31, 12]) (K.Rd.own (e := K.eI) hw (hF _ (K.m11)) hq4 (fun _ => rfl) (by decide)) (K.Rd.lit hw (hF _ (K.m0)) (fun _ => rfl) (by decide) rfl) (by decide))) rfl ?_
  refine zN ?_
  refine qp (K.pick_t rfl) ?_
  iterate 2 refine qm ?_
  refine qp (K.Pure.eq (K.eql rfl rfl) (show _ = Value.bool true from congrArg Value.bool (by decide))) ?_
  refine qp (K.pick_t rfl) ?_
  iterate 2 refine qm ?_
  refine qp (K.Pure.eq (K.eql rfl rfl) (show _ = Value.bool true from congrArg Value.bool (by decide))) ?_
  refine qp (K.pick_t rfl) ?_
  iterate 2 refine qm ?_
  refine qp (K.Pure.eq (K.eql rfl rfl) (show _ = Value.bool true from congrArg Value.bool (by decide))) ?_
  refine qp (K.pick_t rfl) ?_
  iterate 2 refine qm ?_
  refine qp (K.Pure.eq (K.eql rfl rfl) (show _ = Value.bool true from congrArg Value.bool (by decide))) ?_
  refine qp (K.pick_t rfl) ?_
  iterate 2 refine qm ?_
  refine qp (K.Pure.eq (K.eql rfl rfl) (show _ = Value.bool true from congrArg Value.bool (by decide))) ?_
  refine qp (K.pick_t rfl) ?_
  iterate 2 refine qm ?_
  refine qp (K.Pure.eq (K.eql rfl rfl) (show _ = Value.bool true from congrArg Value.bool (by decide))) ?_
  refine qp (K.pick_t rfl) ?_
  iterate 2 refine qm ?_
  refine K.seq_new (K.buildSlice (bsI3 _ _ _)) rfl ?_
  intro b183
  refine zN ?_
  refine K.seq_call (K.call_g cal_20 (fun F w hF hw => c20t (xs := [0, 1, 2]) (K.Rd.own (e := K.eI) hw (hF _ (K.m8)) hq5 (fun _ => rfl) (by decide)) (K.Rd.lit hw (hF _ (K.m0)) (fun _ => rfl) (by decide) rfl) (by decide))) rfl ?_
  refine zN ?_
  refine qp (K.pick_t rfl) ?_
  iterate 2 refine qm ?_
  refine K.seq_new (K.buildSlice (bsI2 _ _)) rfl ?_
  intro b188
  refine zN ?_
  refine K.seq_call (K.call_g cal_20 (fun F w hF hw => c20t (xs := [0, 1]) (K.Rd.own (e := K.eI) hw (hF _ (K.m8)) hq6 (fun _ => rfl) (by decide)) (K.Rd.lit hw (hF _ (K.m0)) (fun _ => rfl) (by decide) rfl) (by decide))) rfl ?_
  refine zN ?_
  refine qp (K.pick_t rfl) ?_
  iterate 2 refine qm ?_
  refine K.seq_new (K.buildSlice (bsI1 _)) rfl ?_
  intro b193
  refine zN ?_
  refine K.seq_call (K.call_g cal_20 (fun F w hF hw => c20t (xs := [0]) (K.Rd.own (e := K.eI) hw (hF _ (K.m7)) hq8 (fun _ => rfl) (by decide)) (K.Rd.lit hw (hF _ (K.m0)) (fun _ => rfl) (by decide) rfl) (by decide))) rfl ?_
  refine zN ?_
  refine qp (K.pick_t rfl) ?_
  refine qa ?_
  refine sn ?_
  refine K.ret ?_
  refine K.end_ret (fun w _ => K.res_tmp rfl w) ?_
  exact K.gives rfl

end Go.Proofs.YthkgnhcknkjgdaaDoor
