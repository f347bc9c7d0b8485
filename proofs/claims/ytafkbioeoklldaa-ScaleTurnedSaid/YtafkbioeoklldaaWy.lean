/-
  Walks of the program's functions, printed by program: what each returns.
  Conditions stand in each theorem.
-/
import Derived.Test.YtafkbioeoklldaaKf
import Derived.Test.YtafkbioeoklldaaK2
import Derived.WalkArith
import Derived.Test.YtafkbioeoklldaaS6
import Derived.Test.YtafkbioeoklldaaWh
import Derived.Test.YtafkbioeoklldaaWm
import Derived.Test.YtafkbioeoklldaaWv
import Derived.Test.YtafkbioeoklldaaWx
import Derived.Test.YtafkbioeoklldaaWq
set_option linter.unusedSimpArgs false
set_option linter.unusedVariables false
namespace Go.Proofs.Ytafkbioeoklldaa
open Go.RowKit Go
open Go.K (setd setn ev nth over cl eI eP eT setM setF)
attribute [local irreducible] K.blk K.row
theorem c19t {A B : Option Addr} {c d : Nat} {xs : List Int} {w : World} (hX : K.Rd w A 1 K.eI xs) (hY : K.Rd w B 1 K.eI xs) (hn : xs.length ≤ 4611686018427387904) : Calls Try.prog 19 [.slice A xs.length c, .slice B xs.length d].toArray w (K.Gives (.bool true) w) := by
  have h := c19 (c := c) (d := d) hX hY hn hn
  rw [decide_eq_true rfl] at h
  exact h
theorem c33t {A B : Option Addr} {c d : Nat} {xs : List (Int × Int)} {w : World} (hX : K.Rd w A 2 K.eP xs) (hY : K.Rd w B 2 K.eP xs) (hn : xs.length ≤ 4611686018427387904) : Calls Try.prog 33 [.slice A xs.length c, .slice B xs.length d].toArray w (K.Gives (.bool true) w) := by
  have h := c33 (c := c) (d := d) hX hY hn hn
  rw [decide_eq_true rfl] at h
  exact h
theorem bs22_1 (a : Int) : K.Bs Try.prog 22 1 [(0, .int .i64 a)] 3 [.int .i64 a] := fun w => by kernel_rfl
theorem bs22_3 (a b c : Int) : K.Bs Try.prog 22 3 [(0, .int .i64 a), (1, .int .i64 b), (2, .int .i64 c)] 3 [.int .i64 a, .int .i64 b, .int .i64 c] := fun w => by kernel_rfl
theorem bs22_4 (a b c d : Int) : K.Bs Try.prog 22 4 [(0, .int .i64 a), (1, .int .i64 b), (2, .int .i64 c), (3, .int .i64 d)] 3 [.int .i64 a, .int .i64 b, .int .i64 c, .int .i64 d] := fun w => by kernel_rfl
theorem bs41_1 (a b c : Int) : K.Bs Try.prog 41 1 [(0, .agg #[.int .i64 a, .int .i64 b, .int .i64 c])] 53 [.int .i64 a, .int .i64 b, .int .i64 c] := fun w => by kernel_rfl
theorem bs42_3 (a b c d e f : Int) : K.Bs Try.prog 42 3 [(0, .agg #[.int .i64 a, .int .i64 b]), (1, .agg #[.int .i64 c, .int .i64 d]), (2, .agg #[.int .i64 e, .int .i64 f])] 27 [.int .i64 a, .int .i64 b, .int .i64 c, .int .i64 d, .int .i64 e, .int .i64 f] := fun w => by kernel_rfl
theorem bs42_6 (a b c d e f a2 b2 c2 d2 e2 f2 : Int) : K.Bs Try.prog 42 6 [(0, .agg #[.int .i64 a, .int .i64 b]), (1, .agg #[.int .i64 c, .int .i64 d]), (2, .agg #[.int .i64 e, .int .i64 f]), (3, .agg #[.int .i64 a2, .int .i64 b2]), (4, .agg #[.int .i64 c2, .int .i64 d2]), (5, .agg #[.int .i64 e2, .int .i64 f2])] 27 [.int .i64 a, .int .i64 b, .int .i64 c, .int .i64 d, .int .i64 e, .int .i64 f, .int .i64 a2, .int .i64 b2, .int .i64 c2, .int .i64 d2, .int .i64 e2, .int .i64 f2] := fun w => by kernel_rfl

theorem aw17 {A B : Option Addr} {c d : Nat} {w : World} (hH : K.Rd w A 1 K.eI caH) (hR : K.Rd w B 2 K.eP caR) : Calls Try.prog 17 [.agg #[.int .i64 2, .int .i64 100, .int .i64 50, .slice A caH.length c, .slice B caR.length d], .agg #[.int .i64 1, .int .i64 2]].toArray w (K.RetSE 3 1 K.eI [0, 5, 13, 30] 0 w) := by
  have h := c17 (A := A) (B := B) (c := c) (d := d) (kind := 2) (base := 100) (most := 50) (hs := caH) (rs := caR) (u := 1) (v := 2) (w := w) hH hR (by decide) (by decide)
  rw [a17.1, a17.2] at h
  exact h


theorem aw20 {A B : Option Addr} {c d : Nat} {w : World} (hH : K.Rd w A 1 K.eI caH) (hR : K.Rd w B 2 K.eP caR) : Calls Try.prog 20 [.agg #[.int .i64 2, .int .i64 100, .int .i64 50, .slice A caH.length c, .slice B caR.length d], .agg #[.int .i64 2, .int .i64 3]].toArray w (K.RetSE 3 1 K.eI [50, 0, 15] 0 w) := by
  have h := c20 (A := A) (B := B) (c := c) (d := d) (kind := 2) (base := 100) (most := 50) (hs := caH) (rs := caR) (u := 2) (v := 3) (w := w) hH hR (by decide) (by decide)
  rw [a20.1, a20.2] at h
  exact h


theorem aw22 {A B : Option Addr} {c d : Nat} {w : World} (hH : K.Rd w A 1 K.eI caH) (hR : K.Rd w B 2 K.eP caR) : Calls Try.prog 22 [.agg #[.int .i64 2, .int .i64 100, .int .i64 50, .slice A caH.length c, .slice B caR.length d], .agg #[.int .i64 1, .int .i64 30]].toArray w (K.RetSE 3 1 K.eI [0] 0 w) := by
  have h := c22 (A := A) (B := B) (c := c) (d := d) (kind := 2) (base := 100) (most := 50) (hs := caH) (rs := caR) (u := 1) (v := 30) (w := w) hH hR (by decide) (by decide)
  rw [a22.1, a22.2] at h
  exact h


theorem aw27 {A B : Option Addr} {c d : Nat} {w : World} (hH : K.Rd w A 1 K.eI caH) (hR : K.Rd w B 2 K.eP caR) : Calls Try.prog 27 [.agg #[.int .i64 2, .int .i64 100, .int .i64 50, .slice A caH.length c, .slice B caR.length d], .int .i64 47].toArray w (K.Gives (.tuple #[.agg #[.int .i64 5, .int .i64 6], .int .i64 0]) w) := by
  have h := c27 (A := A) (B := B) (c := c) (d := d) (kind := 2) (base := 100) (most := 50) (hs := caH) (rs := caR) (limit := 47) (w := w) hH hR (by decide) (by decide)
  rw [a27] at h
  exact h


theorem aw29 {A B : Option Addr} {c d : Nat} {w : World} (hH : K.Rd w A 1 K.eI caH) (hR : K.Rd w B 2 K.eP caR) : Calls Try.prog 29 [.agg #[.int .i64 2, .int .i64 100, .int .i64 50, .slice A caH.length c, .slice B caR.length d]].toArray w (K.Gives (.tuple #[.agg #[.int .i64 1, .int .i64 16], .int .i64 0]) w) := by
  have h := c29 (A := A) (B := B) (c := c) (d := d) (kind := 2) (base := 100) (most := 50) (hs := caH) (rs := caR)  (w := w) hH hR (by decide) (by decide)
  rw [a29] at h
  exact h


theorem aw31 {A B : Option Addr} {c d : Nat} {w : World} (hH : K.Rd w A 1 K.eI caH) (hR : K.Rd w B 2 K.eP caR) {M : Option Addr} {cm : Nat} (hM : K.Rd w M 3 K.eT [(3, 41, 41)]) : Calls Try.prog 31 [.agg #[.int .i64 2, .int .i64 100, .int .i64 50, .slice A caH.length c, .slice B caR.length d], .slice M 1 cm].toArray w (K.RetSE 27 2 K.eP [(19, 28), (17, 25), (15, 22), (13, 19), (11, 16), (20, 29)] 0 w) := by
  have h := c31 (A := A) (B := B) (c := c) (d := d) (kind := 2) (base := 100) (most := 50) (hs := caH) (rs := caR) (M := M) (cm := cm) (ms := [(3, 41, 41)]) (w := w) hH hR (by decide) (by decide) hM (by decide)
  rw [a31.1, a31.2] at h
  exact h


theorem aw24 {A B : Option Addr} {c d : Nat} {w : World} (hH : K.Rd w A 1 K.eI caH) (hR : K.Rd w B 2 K.eP caR) : Calls Try.prog 24 [.agg #[.int .i64 2, .int .i64 100, .int .i64 50, .slice A caH.length c, .slice B caR.length d], .agg #[.int .i64 1, .int .i64 2], .agg #[.int .i64 2, .int .i64 3]].toArray w (K.RetSE 3 1 K.eI [1, 2, 3] 0 w) := by
  have h := c24 (A := A) (B := B) (c := c) (d := d) (kind := 2) (base := 100) (most := 50) (hs := caH) (rs := caR) (u := 1) (v := 2) (u2 := 2) (v2 := 3) (w := w) hH hR (by decide) (by decide)
  rw [a24.1, a24.2] at h
  exact h


theorem aw34 {A B : Option Addr} {c d : Nat} {w : World} (hH : K.Rd w A 1 K.eI caH) (hR : K.Rd w B 2 K.eP caR) {C : Option Addr} {cc : Nat} (hS : K.Rd w C 2 K.eP [(1, 2), (3, 5), (2, 3)]) : Calls Try.prog 34 [.agg #[.int .i64 2, .int .i64 100, .int .i64 50, .slice A caH.length c, .slice B caR.length d], .slice C 3 cc].toArray w (K.RetSE 3 1 K.eI [1] 0 w) := by
  have h := c34 (A := A) (B := B) (c := c) (d := d) (kind := 2) (base := 100) (most := 50) (hs := caH) (rs := caR) (C := C) (cc := cc) (l := [(1, 2), (3, 5), (2, 3)]) (w := w) hH hR (by decide) (by decide) hS (by decide)
  rw [a34.1, a34.2] at h
  exact h


theorem aw34b {A B : Option Addr} {c d : Nat} {w : World} (hH : K.Rd w A 1 K.eI caH) (hR : K.Rd w B 2 K.eP caR) {C : Option Addr} {cc : Nat} (hS : K.Rd w C 2 K.eP [(19, 28), (17, 25)]) : Calls Try.prog 34 [.agg #[.int .i64 2, .int .i64 100, .int .i64 50, .slice A caH.length c, .slice B caR.length d], .slice C 2 cc].toArray w (K.RetSE 3 1 K.eI ([] : List Int) 5 w) := by
  have h := c34 (A := A) (B := B) (c := c) (d := d) (kind := 2) (base := 100) (most := 50) (hs := caH) (rs := caR) (C := C) (cc := cc) (l := [(19, 28), (17, 25)]) (w := w) hH hR (by decide) (by decide) hS (by decide)
  rw [a34b.1, a34b.2] at h
  exact h


set_option maxRecDepth 100000 in
theorem c26 (w : World) :
    Calls Try.prog 26 [].toArray w (K.Gives (.bool true) w) := by
  refine K.enter (args := []) Try.func26 rfl (n := 160) rfl ?_
  simp only [List.replicate, List.cons_append, List.nil_append]
  refine K.seq ?_
  refine K.region_lit ?_
  refine K.seq_pure (K.assign) rfl ?_
  dsimp only [setd, setn, ev, nth]
  refine K.seq_nil ?_
  refine K.norm_then ?_
  refine K.seq ?_
  refine K.region_lit ?_
  refine K.seq_loud (K.call_f cal_36 (fun F w hF hw => c36 (kind := 2) w)) rfl ?_
  rintro ⟨bh, br⟩ _
  try dsimp only [setd, setn, ev, nth, over, cl, eI, eP, eT, List.map, List.append, List.drop, List.take]
  refine K.seq_new (K.alloc zr_25) rfl ?_
  intro b1
  try dsimp only [setd, setn, ev, nth, over, cl, eI, eP, eT, List.map, List.append, List.drop, List.take]
  refine K.seq_st (K.store_all sz_25 rfl rfl rfl rfl (K.rp0)) rfl ?_
  try dsimp only [setd, setn, ev, nth, over, cl, eI, eP, eT, List.map, List.append, List.drop, List.take]
  refine K.seq_nil ?_
  refine K.norm_then ?_
  refine K.seq ?_
  refine K.draw_L [] Try_mixed ?_
  refine K.d_mem 0 rfl (K.loadA_own ag_25 rfl (K.m0) rfl) (fun _ h => h) (by kernel_rfl) (by kernel_rfl) rfl ?_
  try dsimp only [setd, setn, ev, nth, over, cl, eI, eP, eT, List.map, List.append, List.drop, List.take]
  refine K.d_call 1 rfl (K.call_g cal_37 (fun F w hF hw => c37 w)) (fun _ h => h) (by kernel_rfl) rfl ?_
  try dsimp only [setd, setn, ev, nth, over, cl, eI, eP, eT, List.map, List.append, List.drop, List.take]
  refine K.d_loud 2 rfl (K.call_f cal_17 (fun F w hF hw => aw17 (K.Rd.lit hw (hF _ (K.m2)) (fun _ => rfl) (by decide) rfl) (K.Rd.lit hw (hF _ (K.m1)) (fun _ => rfl) (by decide) rfl))) (fun _ h => h) (by kernel_rfl) rfl ?_
  rintro ⟨A1, c1⟩ hA1
  try dsimp only [setd, setn, ev, nth, over, cl, eI, eP, eT, List.map, List.append, List.drop, List.take]
  refine K.d_pure 3 rfl (K.move) (by kernel_rfl) rfl ?_
  dsimp only [setd, setn, ev, nth]
  refine K.d_pure 4 rfl (K.extract rfl rfl) (by kernel_rfl) rfl ?_
  dsimp only [setd, setn, ev, nth]
  refine K.d_pure 5 rfl (K.extract rfl rfl) (by kernel_rfl) rfl ?_
  dsimp only [setd, setn, ev, nth]
  refine K.d_pure 6 rfl (K.assign) (by kernel_rfl) rfl ?_
  dsimp only [setd, setn, ev, nth]
  refine K.d_pure 7 rfl (K.assign) (by kernel_rfl) rfl ?_
  dsimp only [setd, setn, ev, nth]
  refine K.d_done (by kernel_rfl) ?_
  refine K.norm_then ?_
  refine K.seq ?_
  refine K.draw_L [] Try_mixed ?_
  refine K.d_mem 0 rfl (K.loadA_own ag_25 rfl (K.m1) rfl) (fun _ h => h) (by kernel_rfl) (by kernel_rfl) rfl ?_
  try dsimp only [setd, setn, ev, nth, over, cl, eI, eP, eT, List.map, List.append, List.drop, List.take]
  refine K.d_call 1 rfl (K.call_g cal_37 (fun F w hF hw => c37 w)) (fun _ h => h) (by kernel_rfl) rfl ?_
  try dsimp only [setd, setn, ev, nth, over, cl, eI, eP, eT, List.map, List.append, List.drop, List.take]
  refine K.d_loud 2 rfl (K.call_f cal_20 (fun F w hF hw => aw20 (K.Rd.lit hw (hF _ (K.m3)) (fun _ => rfl) (by decide) rfl) (K.Rd.lit hw (hF _ (K.m2)) (fun _ => rfl) (by decide) rfl))) (fun _ h => h) (by kernel_rfl) rfl ?_
  rintro ⟨A2, c2⟩ hA2
  try dsimp only [setd, setn, ev, nth, over, cl, eI, eP, eT, List.map, List.append, List.drop, List.take]
  refine K.d_pure 3 rfl (K.move) (by kernel_rfl) rfl ?_
  dsimp only [setd, setn, ev, nth]
  refine K.d_pure 4 rfl (K.extract rfl rfl) (by kernel_rfl) rfl ?_
  dsimp only [setd, setn, ev, nth]
  refine K.d_pure 5 rfl (K.extract rfl rfl) (by kernel_rfl) rfl ?_
  dsimp only [setd, setn, ev, nth]
  refine K.d_pure 6 rfl (K.assign) (by kernel_rfl) rfl ?_
  dsimp only [setd, setn, ev, nth]
  refine K.d_pure 7 rfl (K.assign) (by kernel_rfl) rfl ?_
  dsimp only [setd, setn, ev, nth]
  refine K.d_done (by kernel_rfl) ?_
  refine K.norm_then ?_
  refine K.seq ?_
  refine K.draw_L [] Try_mixed ?_
  refine K.d_mem 0 rfl (K.loadA_own ag_25 rfl (K.m2) rfl) (fun _ h => h) (by kernel_rfl) (by kernel_rfl) rfl ?_
  try dsimp only [setd, setn, ev, nth, over, cl, eI, eP, eT, List.map, List.append, List.drop, List.take]
  refine K.d_call 1 rfl (K.call_g cal_37 (fun F w hF hw => c37 w)) (fun _ h => h) (by kernel_rfl) rfl ?_
  try dsimp only [setd, setn, ev, nth, over, cl, eI, eP, eT, List.map, List.append, List.drop, List.take]
  refine K.d_loud 2 rfl (K.call_f cal_22 (fun F w hF hw => aw22 (K.Rd.lit hw (hF _ (K.m4)) (fun _ => rfl) (by decide) rfl) (K.Rd.lit hw (hF _ (K.m3)) (fun _ => rfl) (by decide) rfl))) (fun _ h => h) (by kernel_rfl) rfl ?_
  rintro ⟨A3, c3⟩ hA3
  try dsimp only [setd, setn, ev, nth, over, cl, eI, eP, eT, List.map, List.append, List.drop, List.take]
  refine K.d_pure 3 rfl (K.move) (by kernel_rfl) rfl ?_
  dsimp only [setd, setn, ev, nth]
  refine K.d_pure 4 rfl (K.extract rfl rfl) (by kernel_rfl) rfl ?_
  dsimp only [setd, setn, ev, nth]
  refine K.d_pure 5 rfl (K.extract rfl rfl) (by kernel_rfl) rfl ?_
  dsimp only [setd, setn, ev, nth]
  refine K.d_pure 6 rfl (K.assign) (by kernel_rfl) rfl ?_
  dsimp only [setd, setn, ev, nth]
  refine K.d_pure 7 rfl (K.assign) (by kernel_rfl) rfl ?_
  dsimp only [setd, setn, ev, nth]
  refine K.d_done (by kernel_rfl) ?_
  refine K.norm_then ?_
  refine K.seq ?_
  refine K.region_lit ?_
  refine K.seq_sil (K.loadA_own ag_25 rfl (K.m3) rfl) rfl ?_
  try dsimp only [setd, setn, ev, nth, over, cl, eI, eP, eT, List.map, List.append, List.drop, List.take]
  refine K.seq_call (K.call_g cal_27 (fun F w hF hw => aw27 (K.Rd.lit hw (hF _ (K.m5)) (fun _ => rfl) (by decide) rfl) (K.Rd.lit hw (hF _ (K.m4)) (fun _ => rfl) (by decide) rfl))) rfl ?_
  try dsimp only [setd, setn, ev, nth, over, cl, eI, eP, eT, List.map, List.append, List.drop, List.take]
  refine K.seq_pure (K.move) rfl ?_
  dsimp only [setd, setn, ev, nth]
  refine K.seq_pure (K.extract rfl rfl) rfl ?_
  dsimp only [setd, setn, ev, nth]
  refine K.seq_pure (K.extract rfl rfl) rfl ?_
  dsimp only [setd, setn, ev, nth]
  refine K.seq_new (K.alloc zr_27) rfl ?_
  intro b8
  try dsimp only [setd, setn, ev, nth, over, cl, eI, eP, eT, List.map, List.append, List.drop, List.take]
  refine K.seq_st (K.store_all sz_27 rfl rfl rfl rfl (K.rp0)) rfl ?_
  try dsimp only [setd, setn, ev, nth, over, cl, eI, eP, eT, List.map, List.append, List.drop, List.take]
  refine K.seq_pure (K.assign) rfl ?_
  dsimp only [setd, setn, ev, nth]
  refine K.seq_nil ?_
  refine K.norm_then ?_
  refine K.seq ?_
  refine K.region_lit ?_
  refine K.seq_sil (K.loadA_own ag_25 rfl (K.m4) rfl) rfl ?_
  try dsimp only [setd, setn, ev, nth, over, cl, eI, eP, eT, List.map, List.append, List.drop, List.take]
  refine K.seq_call (K.call_g cal_29 (fun F w hF hw => aw29 (K.Rd.lit hw (hF _ (K.m6)) (fun _ => rfl) (by decide) rfl) (K.Rd.lit hw (hF _ (K.m5)) (fun _ => rfl) (by decide) rfl))) rfl ?_
  try dsimp only [setd, setn, ev, nth, over, cl, eI, eP, eT, List.map, List.append, List.drop, List.take]
  refine K.seq_pure (K.move) rfl ?_
  dsimp only [setd, setn, ev, nth]
  refine K.seq_pure (K.extract rfl rfl) rfl ?_
  dsimp only [setd, setn, ev, nth]
  refine K.seq_pure (K.extract rfl rfl) rfl ?_
  dsimp only [setd, setn, ev, nth]
  refine K.seq_new (K.alloc zr_27) rfl ?_
  intro b10
  try dsimp only [setd, setn, ev, nth, over, cl, eI, eP, eT, List.map, List.append, List.drop, List.take]
  refine K.seq_st (K.store_all sz_27 rfl rfl rfl rfl (K.rp0)) rfl ?_
  try dsimp only [setd, setn, ev, nth, over, cl, eI, eP, eT, List.map, List.append, List.drop, List.take]
  refine K.seq_pure (K.assign) rfl ?_
  dsimp only [setd, setn, ev, nth]
  refine K.seq_nil ?_
  refine K.norm_then ?_
  refine K.seq ?_
  refine K.draw_L [] Try_mixed ?_
  refine K.d_mem 0 rfl (K.loadA_own ag_25 rfl (K.m5) rfl) (fun _ h => h) (by kernel_rfl) (by kernel_rfl) rfl ?_
  try dsimp only [setd, setn, ev, nth, over, cl, eI, eP, eT, List.map, List.append, List.drop, List.take]
  refine K.d_call 1 rfl (K.call_g cal_38 (fun F w hF hw => c38 w)) (fun _ h => h) (by kernel_rfl) rfl ?_
  try dsimp only [setd, setn, ev, nth, over, cl, eI, eP, eT, List.map, List.append, List.drop, List.take]
  refine K.d_new 2 rfl (K.buildSlice (bs41_1 _ _ _)) (fun _ h => h) (by kernel_rfl) rfl ?_
  intro b52
  try dsimp only [setd, setn, ev, nth, over, cl, eI, eP, eT, List.map, List.append, List.drop, List.take]
  refine K.d_loud 3 rfl (K.call_f cal_31 (fun F w hF hw => aw31 (K.Rd.lit hw (hF _ (K.m8)) (fun _ => rfl) (by decide) rfl) (K.Rd.lit hw (hF _ (K.m7)) (fun _ => rfl) (by decide) rfl) (K.Rd.lit hw (hF _ (K.m0)) (fun _ => rfl) (by decide) rfl))) (fun _ h => K.tl h) (by kernel_rfl) rfl ?_
  rintro ⟨A4, c4⟩ hA4
  try dsimp only [setd, setn, ev, nth, over, cl, eI, eP, eT, List.map, List.append, List.drop, List.take]
  refine K.d_pure 4 rfl (K.move) (by kernel_rfl) rfl ?_
  dsimp only [setd, setn, ev, nth]
  refine K.d_pure 5 rfl (K.extract rfl rfl) (by kernel_rfl) rfl ?_
  dsimp only [setd, setn, ev, nth]
  refine K.d_pure 6 rfl (K.extract rfl rfl) (by kernel_rfl) rfl ?_
  dsimp only [setd, setn, ev, nth]
  refine K.d_pure 7 rfl (K.assign) (by kernel_rfl) rfl ?_
  dsimp only [setd, setn, ev, nth]
  refine K.d_pure 8 rfl (K.assign) (by kernel_rfl) rfl ?_
  dsimp only [setd, setn, ev, nth]
  refine K.d_done (by kernel_rfl) ?_
  refine K.norm_then ?_
  refine K.seq ?_
  refine K.draw_L [] Try_mixed ?_
  refine K.d_mem 0 rfl (K.loadA_own ag_25 rfl (K.m7) rfl) (fun _ h => h) (by kernel_rfl) (by kernel_rfl) rfl ?_
  try dsimp only [setd, setn, ev, nth, over, cl, eI, eP, eT, List.map, List.append, List.drop, List.take]
  refine K.d_call 1 rfl (K.call_g cal_37 (fun F w hF hw => c37 w)) (fun _ h => h) (by kernel_rfl) rfl ?_
  try dsimp only [setd, setn, ev, nth, over, cl, eI, eP, eT, List.map, List.append, List.drop, List.take]
  refine K.d_call 2 rfl (K.call_g cal_37 (fun F w hF hw => c37 w)) (fun _ h => h) (by kernel_rfl) rfl ?_
  try dsimp only [setd, setn, ev, nth, over, cl, eI, eP, eT, List.map, List.append, List.drop, List.take]
  refine K.d_loud 3 rfl (K.call_f cal_24 (fun F w hF hw => aw24 (K.Rd.lit hw (hF _ (K.m9)) (fun _ => rfl) (by decide) rfl) (K.Rd.lit hw (hF _ (K.m8)) (fun _ => rfl) (by decide) rfl))) (fun _ h => h) (by kernel_rfl) rfl ?_
  rintro ⟨A5, c5⟩ hA5
  try dsimp only [setd, setn, ev, nth, over, cl, eI, eP, eT, List.map, List.append, List.drop, List.take]
  refine K.d_pure 4 rfl (K.move) (by kernel_rfl) rfl ?_
  dsimp only [setd, setn, ev, nth]
  refine K.d_pure 5 rfl (K.extract rfl rfl) (by kernel_rfl) rfl ?_
  dsimp only [setd, setn, ev, nth]
  refine K.d_pure 6 rfl (K.extract rfl rfl) (by kernel_rfl) rfl ?_
  dsimp only [setd, setn, ev, nth]
  refine K.d_pure 7 rfl (K.assign) (by kernel_rfl) rfl ?_
  dsimp only [setd, setn, ev, nth]
  refine K.d_pure 8 rfl (K.assign) (by kernel_rfl) rfl ?_
  dsimp only [setd, setn, ev, nth]
  refine K.d_done (by kernel_rfl) ?_
  refine K.norm_then ?_
  refine K.seq ?_
  refine K.draw_L [] Try_mixed ?_
  refine K.d_mem 0 rfl (K.loadA_own ag_25 rfl (K.m8) rfl) (fun _ h => h) (by kernel_rfl) (by kernel_rfl) rfl ?_
  try dsimp only [setd, setn, ev, nth, over, cl, eI, eP, eT, List.map, List.append, List.drop, List.take]
  refine K.d_call 1 rfl (K.call_g cal_37 (fun F w hF hw => c37 w)) (fun _ h => h) (by kernel_rfl) rfl ?_
  try dsimp only [setd, setn, ev, nth, over, cl, eI, eP, eT, List.map, List.append, List.drop, List.take]
  refine K.d_call 2 rfl (K.call_g cal_37 (fun F w hF hw => c37 w)) (fun _ h => h) (by kernel_rfl) rfl ?_
  try dsimp only [setd, setn, ev, nth, over, cl, eI, eP, eT, List.map, List.append, List.drop, List.take]
  refine K.d_call 3 rfl (K.call_g cal_37 (fun F w hF hw => c37 w)) (fun _ h => h) (by kernel_rfl) rfl ?_
  try dsimp only [setd, setn, ev, nth, over, cl, eI, eP, eT, List.map, List.append, List.drop, List.take]
  refine K.d_new 4 rfl (K.buildSlice (bs42_3 _ _ _ _ _ _)) (fun _ h => h) (by kernel_rfl) rfl ?_
  intro b68
  try dsimp only [setd, setn, ev, nth, over, cl, eI, eP, eT, List.map, List.append, List.drop, List.take]
  refine K.d_loud 5 rfl (K.call_f cal_34 (fun F w hF hw => aw34 (K.Rd.lit hw (hF _ (K.m11)) (fun _ => rfl) (by decide) rfl) (K.Rd.lit hw (hF _ (K.m10)) (fun _ => rfl) (by decide) rfl) (K.Rd.lit hw (hF _ (K.m0)) (fun _ => rfl) (by decide) rfl))) (fun _ h => K.tl h) (by kernel_rfl) rfl ?_
  rintro ⟨A6, c6⟩ hA6
  try dsimp only [setd, setn, ev, nth, over, cl, eI, eP, eT, List.map, List.append, List.drop, List.take]
  refine K.d_pure 6 rfl (K.move) (by kernel_rfl) rfl ?_
  dsimp only [setd, setn, ev, nth]
  refine K.d_pure 7 rfl (K.extract rfl rfl) (by kernel_rfl) rfl ?_
  dsimp only [setd, setn, ev, nth]
  refine K.d_pure 8 rfl (K.extract rfl rfl) (by kernel_rfl) rfl ?_
  dsimp only [setd, setn, ev, nth]
  refine K.d_pure 9 rfl (K.assign) (by kernel_rfl) rfl ?_
  dsimp only [setd, setn, ev, nth]
  refine K.d_pure 10 rfl (K.assign) (by kernel_rfl) rfl ?_
  dsimp only [setd, setn, ev, nth]
  refine K.d_done (by kernel_rfl) ?_
  refine K.norm_then ?_
  refine K.seq ?_
  refine K.draw_L [] Try_mixed ?_
  refine K.d_mem 0 rfl (K.loadA_own ag_25 rfl (K.m10) rfl) (fun _ h => h) (by kernel_rfl) (by kernel_rfl) rfl ?_
  try dsimp only [setd, setn, ev, nth, over, cl, eI, eP, eT, List.map, List.append, List.drop, List.take]
  refine K.d_call 1 rfl (K.call_g cal_37 (fun F w hF hw => c37 w)) (fun _ h => h) (by kernel_rfl) rfl ?_
  try dsimp only [setd, setn, ev, nth, over, cl, eI, eP, eT, List.map, List.append, List.drop, List.take]
  refine K.d_call 2 rfl (K.call_g cal_37 (fun F w hF hw => c37 w)) (fun _ h => h) (by kernel_rfl) rfl ?_
  try dsimp only [setd, setn, ev, nth, over, cl, eI, eP, eT, List.map, List.append, List.drop, List.take]
  refine K.d_new 3 rfl (K.buildSlice (bs27_2 _ _ _ _)) (fun _ h => h) (by kernel_rfl) rfl ?_
  intro b76
  try dsimp only [setd, setn, ev, nth, over, cl, eI, eP, eT, List.map, List.append, List.drop, List.take]
  refine K.d_loud 4 rfl (K.call_f cal_34 (fun F w hF hw => aw34b (K.Rd.lit hw (hF _ (K.m13)) (fun _ => rfl) (by decide) rfl) (K.Rd.lit hw (hF _ (K.m12)) (fun _ => rfl) (by decide) rfl) (K.Rd.lit hw (hF _ (K.m0)) (fun _ => rfl) (by decide) rfl))) (fun _ h => K.tl h) (by kernel_rfl) rfl ?_
  rintro ⟨A7, c7⟩ hA7
  try dsimp only [setd, setn, ev, nth, over, cl, eI, eP, eT, List.map, List.append, List.drop, List.take]
  refine K.d_pure 5 rfl (K.move) (by kernel_rfl) rfl ?_
  dsimp only [setd, setn, ev, nth]
  refine K.d_pure 6 rfl (K.extract rfl rfl) (by kernel_rfl) rfl ?_
  dsimp only [setd, setn, ev, nth]
  refine K.d_pure 7 rfl (K.extract rfl rfl) (by kernel_rfl) rfl ?_
  dsimp only [setd, setn, ev, nth]
  refine K.d_pure 8 rfl (K.assign) (by kernel_rfl) rfl ?_
  dsimp only [setd, setn, ev, nth]
  refine K.d_pure 9 rfl (K.assign) (by kernel_rfl) rfl ?_
  dsimp only [setd, setn, ev, nth]
  refine K.d_done (by kernel_rfl) ?_
  refine K.norm_then ?_
  refine K.seq ?_
  refine K.draw_L [] Try_mixed ?_
  refine K.d_pure 0 rfl (K.move) (by kernel_rfl) rfl ?_
  dsimp only [setd, setn, ev, nth]
  refine K.d_pure 1 rfl (K.Pure.eq (K.eql rfl rfl) (show _ = Value.bool true from rfl)) (by kernel_rfl) rfl ?_
  dsimp only [setd, setn, ev, nth]
  refine K.d_pure 2 rfl (K.move) (by kernel_rfl) rfl ?_
  dsimp only [setd, setn, ev, nth]
  refine K.d_pure 3 rfl (K.move) (by kernel_rfl) rfl ?_
  dsimp only [setd, setn, ev, nth]
  refine K.d_pure 4 rfl (K.Pure.eq (K.eql rfl rfl) (show _ = Value.bool true from rfl)) (by kernel_rfl) rfl ?_
  dsimp only [setd, setn, ev, nth]
  refine K.d_pure 5 rfl (K.pick_t rfl) (by kernel_rfl) rfl ?_
  dsimp only [setd, setn, ev, nth]
  refine K.d_pure 6 rfl (K.move) (by kernel_rfl) rfl ?_
  dsimp only [setd, setn, ev, nth]
  refine K.d_pure 7 rfl (K.move) (by kernel_rfl) rfl ?_
  dsimp only [setd, setn, ev, nth]
  refine K.d_pure 8 rfl (K.Pure.eq (K.eql rfl rfl) (show _ = Value.bool true from rfl)) (by kernel_rfl) rfl ?_
  dsimp only [setd, setn, ev, nth]
  refine K.d_pure 9 rfl (K.pick_t rfl) (by kernel_rfl) rfl ?_
  dsimp only [setd, setn, ev, nth]
  refine K.d_pure 10 rfl (K.move) (by kernel_rfl) rfl ?_
  dsimp only [setd, setn, ev, nth]
  refine K.d_pure 11 rfl (K.move) (by kernel_rfl) rfl ?_
  dsimp only [setd, setn, ev, nth]
  refine K.d_pure 12 rfl (K.Pure.eq (K.eql rfl rfl) (show _ = Value.bool true from rfl)) (by kernel_rfl) rfl ?_
  dsimp only [setd, setn, ev, nth]
  refine K.d_pure 13 rfl (K.pick_t rfl) (by kernel_rfl) rfl ?_
  dsimp only [setd, setn, ev, nth]
  refine K.d_pure 14 rfl (K.move) (by kernel_rfl) rfl ?_
  dsimp only [setd, setn, ev, nth]
  refine K.d_pure 15 rfl (K.move) (by kernel_rfl) rfl ?_
  dsimp only [setd, setn, ev, nth]
  refine K.d_pure 16 rfl (K.Pure.eq (K.eql rfl rfl) (show _ = Value.bool true from rfl)) (by kernel_rfl) rfl ?_
  dsimp only [setd, setn, ev, nth]
  refine K.d_pure 17 rfl (K.pick_t rfl) (by kernel_rfl) rfl ?_
  dsimp only [setd, setn, ev, nth]
  refine K.d_pure 18 rfl (K.move) (by kernel_rfl) rfl ?_
  dsimp only [setd, setn, ev, nth]
  refine K.d_pure 19 rfl (K.move) (by kernel_rfl) rfl ?_
  dsimp only [setd, setn, ev, nth]
  refine K.d_pure 20 rfl (K.Pure.eq (K.eql rfl rfl) (show _ = Value.bool true from rfl)) (by kernel_rfl) rfl ?_
  dsimp only [setd, setn, ev, nth]
  refine K.d_pure 21 rfl (K.pick_t rfl) (by kernel_rfl) rfl ?_
  dsimp only [setd, setn, ev, nth]
  refine K.d_pure 22 rfl (K.move) (by kernel_rfl) rfl ?_
  dsimp only [setd, setn, ev, nth]
  refine K.d_pure 23 rfl (K.move) (by kernel_rfl) rfl ?_
  dsimp only [setd, setn, ev, nth]
  refine K.d_pure 24 rfl (K.Pure.eq (K.eql rfl rfl) (show _ = Value.bool true from rfl)) (by kernel_rfl) rfl ?_
  dsimp only [setd, setn, ev, nth]
  refine K.d_pure 25 rfl (K.pick_t rfl) (by kernel_rfl) rfl ?_
  dsimp only [setd, setn, ev, nth]
  refine K.d_pure 26 rfl (K.move) (by kernel_rfl) rfl ?_
  dsimp only [setd, setn, ev, nth]
  refine K.d_pure 27 rfl (K.move) (by kernel_rfl) rfl ?_
  dsimp only [setd, setn, ev, nth]
  refine K.d_pure 28 rfl (K.Pure.eq (K.eql rfl rfl) (show _ = Value.bool true from rfl)) (by kernel_rfl) rfl ?_
  dsimp only [setd, setn, ev, nth]
  refine K.d_pure 29 rfl (K.pick_t rfl) (by kernel_rfl) rfl ?_
  dsimp only [setd, setn, ev, nth]
  refine K.d_pure 30 rfl (K.move) (by kernel_rfl) rfl ?_
  dsimp only [setd, setn, ev, nth]
  refine K.d_pure 31 rfl (K.move) (by kernel_rfl) rfl ?_
  dsimp only [setd, setn, ev, nth]
  refine K.d_pure 32 rfl (K.Pure.eq (K.eql rfl rfl) (show _ = Value.bool true from rfl)) (by kernel_rfl) rfl ?_
  dsimp only [setd, setn, ev, nth]
  refine K.d_pure 33 rfl (K.pick_t rfl) (by kernel_rfl) rfl ?_
  dsimp only [setd, setn, ev, nth]
  refine K.d_pure 34 rfl (K.move) (by kernel_rfl) rfl ?_
  dsimp only [setd, setn, ev, nth]
  refine K.d_pure 35 rfl (K.move) (by kernel_rfl) rfl ?_
  dsimp only [setd, setn, ev, nth]
  refine K.d_new 36 rfl (K.buildSlice (bs22_4 _ _ _ _)) (fun _ h => h) (by kernel_rfl) rfl ?_
  intro b116
  try dsimp only [setd, setn, ev, nth, over, cl, eI, eP, eT, List.map, List.append, List.drop, List.take]
  refine K.d_call 37 rfl (K.call_g cal_19 (fun F w hF hw => c19t (xs := [0, 5, 13, 30]) (K.Rd.own hw (hF _ (K.m12)) hA1 (fun _ => rfl) (by decide)) (K.Rd.lit hw (hF _ (K.m0)) (fun _ => rfl) (by decide) rfl) (by decide))) (fun _ h => K.tl h) (by kernel_rfl) rfl ?_
  try dsimp only [setd, setn, ev, nth, over, cl, eI, eP, eT, List.map, List.append, List.drop, List.take]
  refine K.d_pure 38 rfl (K.pick_t rfl) (by kernel_rfl) rfl ?_
  dsimp only [setd, setn, ev, nth]
  refine K.d_pure 39 rfl (K.move) (by kernel_rfl) rfl ?_
  dsimp only [setd, setn, ev, nth]
  refine K.d_pure 40 rfl (K.move) (by kernel_rfl) rfl ?_
  dsimp only [setd, setn, ev, nth]
  refine K.d_new 41 rfl (K.buildSlice (bs22_3 _ _ _)) (fun _ h => K.tl h) (by kernel_rfl) rfl ?_
  intro b121
  try dsimp only [setd, setn, ev, nth, over, cl, eI, eP, eT, List.map, List.append, List.drop, List.take]
  refine K.d_call 42 rfl (K.call_g cal_19 (fun F w hF hw => c19t (xs := [50, 0, 15]) (K.Rd.own hw (hF _ (K.m12)) hA2 (fun _ => rfl) (by decide)) (K.Rd.lit hw (hF _ (K.m0)) (fun _ => rfl) (by decide) rfl) (by decide))) (fun _ h => K.tl (K.tl h)) (by kernel_rfl) rfl ?_
  try dsimp only [setd, setn, ev, nth, over, cl, eI, eP, eT, List.map, List.append, List.drop, List.take]
  refine K.d_pure 43 rfl (K.pick_t rfl) (by kernel_rfl) rfl ?_
  dsimp only [setd, setn, ev, nth]
  refine K.d_pure 44 rfl (K.move) (by kernel_rfl) rfl ?_
  dsimp only [setd, setn, ev, nth]
  refine K.d_pure 45 rfl (K.move) (by kernel_rfl) rfl ?_
  dsimp only [setd, setn, ev, nth]
  refine K.d_new 46 rfl (K.buildSlice (bs22_1 _)) (fun _ h => K.tl (K.tl h)) (by kernel_rfl) rfl ?_
  intro b126
  try dsimp only [setd, setn, ev, nth, over, cl, eI, eP, eT, List.map, List.append, List.drop, List.take]
  refine K.d_call 47 rfl (K.call_g cal_19 (fun F w hF hw => c19t (xs := [0]) (K.Rd.own hw (hF _ (K.m12)) hA3 (fun _ => rfl) (by decide)) (K.Rd.lit hw (hF _ (K.m0)) (fun _ => rfl) (by decide) rfl) (by decide))) (fun _ h => K.tl (K.tl (K.tl h))) (by kernel_rfl) rfl ?_
  try dsimp only [setd, setn, ev, nth, over, cl, eI, eP, eT, List.map, List.append, List.drop, List.take]
  refine K.d_pure 48 rfl (K.pick_t rfl) (by kernel_rfl) rfl ?_
  dsimp only [setd, setn, ev, nth]
  refine K.d_pure 49 rfl (K.move) (by kernel_rfl) rfl ?_
  dsimp only [setd, setn, ev, nth]
  refine K.d_mem 50 rfl (K.loadA_own ag_27 rfl (K.m8) rfl) (fun _ h => K.tl (K.tl (K.tl h))) (by kernel_rfl) (by kernel_rfl) rfl ?_
  try dsimp only [setd, setn, ev, nth, over, cl, eI, eP, eT, List.map, List.append, List.drop, List.take]
  refine K.d_call 51 rfl (K.call_g cal_37 (fun F w hF hw => c37 w)) (fun _ h => K.tl (K.tl (K.tl h))) (by kernel_rfl) rfl ?_
  try dsimp only [setd, setn, ev, nth, over, cl, eI, eP, eT, List.map, List.append, List.drop, List.take]
  refine K.d_pure 52 rfl (K.Pure.eq (K.eql_s2 s2_27 rfl rfl) (show _ = Value.bool true from congrArg Value.bool (decide_eq_true rfl))) (by kernel_rfl) rfl ?_
  dsimp only [setd, setn, ev, nth]
  refine K.d_pure 53 rfl (K.pick_t rfl) (by kernel_rfl) rfl ?_
  dsimp only [setd, setn, ev, nth]
  refine K.d_pure 54 rfl (K.move) (by kernel_rfl) rfl ?_
  dsimp only [setd, setn, ev, nth]
  refine K.d_mem 55 rfl (K.loadA_own ag_27 rfl (K.m7) rfl) (fun _ h => K.tl (K.tl (K.tl h))) (by kernel_rfl) (by kernel_rfl) rfl ?_
  try dsimp only [setd, setn, ev, nth, over, cl, eI, eP, eT, List.map, List.append, List.drop, List.take]
  refine K.d_call 56 rfl (K.call_g cal_37 (fun F w hF hw => c37 w)) (fun _ h => K.tl (K.tl (K.tl h))) (by kernel_rfl) rfl ?_
  try dsimp only [setd, setn, ev, nth, over, cl, eI, eP, eT, List.map, List.append, List.drop, List.take]
  refine K.d_pure 57 rfl (K.Pure.eq (K.eql_s2 s2_27 rfl rfl) (show _ = Value.bool true from congrArg Value.bool (decide_eq_true rfl))) (by kernel_rfl) rfl ?_
  dsimp only [setd, setn, ev, nth]
  refine K.d_pure 58 rfl (K.pick_t rfl) (by kernel_rfl) rfl ?_
  dsimp only [setd, setn, ev, nth]
  refine K.d_pure 59 rfl (K.move) (by kernel_rfl) rfl ?_
  dsimp only [setd, setn, ev, nth]
  refine K.d_pure 60 rfl (K.move) (by kernel_rfl) rfl ?_
  dsimp only [setd, setn, ev, nth]
  refine K.d_call 61 rfl (K.call_g cal_37 (fun F w hF hw => c37 w)) (fun _ h => K.tl (K.tl (K.tl h))) (by kernel_rfl) rfl ?_
  try dsimp only [setd, setn, ev, nth, over, cl, eI, eP, eT, List.map, List.append, List.drop, List.take]
  refine K.d_call 62 rfl (K.call_g cal_37 (fun F w hF hw => c37 w)) (fun _ h => K.tl (K.tl (K.tl h))) (by kernel_rfl) rfl ?_
  try dsimp only [setd, setn, ev, nth, over, cl, eI, eP, eT, List.map, List.append, List.drop, List.take]
  refine K.d_call 63 rfl (K.call_g cal_37 (fun F w hF hw => c37 w)) (fun _ h => K.tl (K.tl (K.tl h))) (by kernel_rfl) rfl ?_
  try dsimp only [setd, setn, ev, nth, over, cl, eI, eP, eT, List.map, List.append, List.drop, List.take]
  refine K.d_call 64 rfl (K.call_g cal_37 (fun F w hF hw => c37 w)) (fun _ h => K.tl (K.tl (K.tl h))) (by kernel_rfl) rfl ?_
  try dsimp only [setd, setn, ev, nth, over, cl, eI, eP, eT, List.map, List.append, List.drop, List.take]
  refine K.d_call 65 rfl (K.call_g cal_37 (fun F w hF hw => c37 w)) (fun _ h => K.tl (K.tl (K.tl h))) (by kernel_rfl) rfl ?_
  try dsimp only [setd, setn, ev, nth, over, cl, eI, eP, eT, List.map, List.append, List.drop, List.take]
  refine K.d_call 66 rfl (K.call_g cal_37 (fun F w hF hw => c37 w)) (fun _ h => K.tl (K.tl (K.tl h))) (by kernel_rfl) rfl ?_
  try dsimp only [setd, setn, ev, nth, over, cl, eI, eP, eT, List.map, List.append, List.drop, List.take]
  refine K.d_new 67 rfl (K.buildSlice (bs42_6 _ _ _ _ _ _ _ _ _ _ _ _)) (fun _ h => K.tl (K.tl (K.tl h))) (by kernel_rfl) rfl ?_
  intro b147
  try dsimp only [setd, setn, ev, nth, over, cl, eI, eP, eT, List.map, List.append, List.drop, List.take]
  refine K.d_call 68 rfl (K.call_g cal_33 (fun F w hF hw => c33t (xs := [(19, 28), (17, 25), (15, 22), (13, 19), (11, 16), (20, 29)]) (K.Rd.own hw (hF _ (K.m9)) hA4 (fun _ => rfl) (by decide)) (K.Rd.lit hw (hF _ (K.m0)) (fun _ => rfl) (by decide) rfl) (by decide))) (fun _ h => K.tl (K.tl (K.tl (K.tl h)))) (by kernel_rfl) rfl ?_
  try dsimp only [setd, setn, ev, nth, over, cl, eI, eP, eT, List.map, List.append, List.drop, List.take]
  refine K.d_pure 69 rfl (K.pick_t rfl) (by kernel_rfl) rfl ?_
  dsimp only [setd, setn, ev, nth]
  refine K.d_pure 70 rfl (K.move) (by kernel_rfl) rfl ?_
  dsimp only [setd, setn, ev, nth]
  refine K.d_pure 71 rfl (K.move) (by kernel_rfl) rfl ?_
  dsimp only [setd, setn, ev, nth]
  refine K.d_new 72 rfl (K.buildSlice (bs22_3 _ _ _)) (fun _ h => K.tl (K.tl (K.tl (K.tl h)))) (by kernel_rfl) rfl ?_
  intro b152
  try dsimp only [setd, setn, ev, nth, over, cl, eI, eP, eT, List.map, List.append, List.drop, List.take]
  refine K.d_call 73 rfl (K.call_g cal_19 (fun F w hF hw => c19t (xs := [1, 2, 3]) (K.Rd.own hw (hF _ (K.m9)) hA5 (fun _ => rfl) (by decide)) (K.Rd.lit hw (hF _ (K.m0)) (fun _ => rfl) (by decide) rfl) (by decide))) (fun _ h => K.tl (K.tl (K.tl (K.tl (K.tl h))))) (by kernel_rfl) rfl ?_
  try dsimp only [setd, setn, ev, nth, over, cl, eI, eP, eT, List.map, List.append, List.drop, List.take]
  refine K.d_pure 74 rfl (K.pick_t rfl) (by kernel_rfl) rfl ?_
  dsimp only [setd, setn, ev, nth]
  refine K.d_pure 75 rfl (K.move) (by kernel_rfl) rfl ?_
  dsimp only [setd, setn, ev, nth]
  refine K.d_pure 76 rfl (K.move) (by kernel_rfl) rfl ?_
  dsimp only [setd, setn, ev, nth]
  refine K.d_new 77 rfl (K.buildSlice (bs22_1 _)) (fun _ h => K.tl (K.tl (K.tl (K.tl (K.tl h))))) (by kernel_rfl) rfl ?_
  intro b157
  try dsimp only [setd, setn, ev, nth, over, cl, eI, eP, eT, List.map, List.append, List.drop, List.take]
  refine K.d_call 78 rfl (K.call_g cal_19 (fun F w hF hw => c19t (xs := [1]) (K.Rd.own hw (hF _ (K.m8)) hA6 (fun _ => rfl) (by decide)) (K.Rd.lit hw (hF _ (K.m0)) (fun _ => rfl) (by decide) rfl) (by decide))) (fun _ h => K.tl (K.tl (K.tl (K.tl (K.tl (K.tl h)))))) (by kernel_rfl) rfl ?_
  try dsimp only [setd, setn, ev, nth, over, cl, eI, eP, eT, List.map, List.append, List.drop, List.take]
  refine K.d_pure 79 rfl (K.pick_t rfl) (by kernel_rfl) rfl ?_
  dsimp only [setd, setn, ev, nth]
  refine K.d_pure 80 rfl (K.assign) (by kernel_rfl) rfl ?_
  dsimp only [setd, setn, ev, nth]
  refine K.d_done (by kernel_rfl) ?_
  refine K.norm_then ?_
  refine K.ret ?_
  refine K.end_ret (fun w _ => K.res_tmp rfl w) ?_
  exact K.gives rfl

end Go.Proofs.Ytafkbioeoklldaa
