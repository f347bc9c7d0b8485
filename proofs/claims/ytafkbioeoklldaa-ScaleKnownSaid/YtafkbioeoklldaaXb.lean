/-
  Walks of the program's functions, printed by program: what each returns.
  Conditions stand in each theorem.
-/
import Derived.Test.YtafkbioeoklldaaKf
import Derived.Test.YtafkbioeoklldaaKh
import Derived.Test.YtafkbioeoklldaaKl
import Derived.Test.YtafkbioeoklldaaKi
import Derived.WalkArith
import Derived.Test.YtafkbioeoklldaaWy
set_option linter.unusedSimpArgs false
set_option linter.unusedVariables false
namespace Go.Proofs.Ytafkbioeoklldaa
open Go.RowKit Go
attribute [local irreducible] K.blk K.row
theorem bs41_2 (a b c d e f : Int) : K.Bs Try.prog 41 2 [(0, .agg #[.int .i64 a, .int .i64 b, .int .i64 c]), (1, .agg #[.int .i64 d, .int .i64 e, .int .i64 f])] 53 [.int .i64 a, .int .i64 b, .int .i64 c, .int .i64 d, .int .i64 e, .int .i64 f] := fun w => by kernel_rfl

theorem bw17 {A B : Option Addr} {c d : Nat} {w : World} (hH : K.Rd w A 1 K.eI caH) (hR : K.Rd w B 2 K.eP caR) : Calls Try.prog 17 [.agg #[.int .i64 2, .int .i64 100, .int .i64 50, .slice A caH.length c, .slice B caR.length d], .agg #[.int .i64 2, .int .i64 3]].toArray w (K.RetSE 3 1 K.eI [0, 7, 17, 40] 0 w) := by
  have h := c17 (A := A) (B := B) (c := c) (d := d) (kind := 2) (base := 100) (most := 50) (hs := caH) (rs := caR) (u := 2) (v := 3) (w := w) hH hR (by decide) (by decide)
  rw [b17.1, b17.2] at h
  exact h


theorem bw17d {A B : Option Addr} {c d : Nat} {w : World} (hH : K.Rd w A 1 K.eI caH) (hR : K.Rd w B 2 K.eP caR) : Calls Try.prog 17 [.agg #[.int .i64 1, .int .i64 100, .int .i64 50, .slice A caH.length c, .slice B caR.length d], .agg #[.int .i64 2, .int .i64 3]].toArray w (K.RetSE 3 1 K.eI [0, 6, 16, 40] 0 w) := by
  have h := c17 (A := A) (B := B) (c := c) (d := d) (kind := 1) (base := 100) (most := 50) (hs := caH) (rs := caR) (u := 2) (v := 3) (w := w) hH hR (by decide) (by decide)
  rw [b17d.1, b17d.2] at h
  exact h


theorem bw17u {A B : Option Addr} {c d : Nat} {w : World} (hH : K.Rd w A 1 K.eI caH) (hR : K.Rd w B 2 K.eP caR) : Calls Try.prog 17 [.agg #[.int .i64 3, .int .i64 100, .int .i64 50, .slice A caH.length c, .slice B caR.length d], .agg #[.int .i64 2, .int .i64 3]].toArray w (K.RetSE 3 1 K.eI [0, 7, 17, 40] 0 w) := by
  have h := c17 (A := A) (B := B) (c := c) (d := d) (kind := 3) (base := 100) (most := 50) (hs := caH) (rs := caR) (u := 2) (v := 3) (w := w) hH hR (by decide) (by decide)
  rw [b17u.1, b17u.2] at h
  exact h


theorem bw20 {A B : Option Addr} {c d : Nat} {w : World} (hH : K.Rd w A 1 K.eI caH) (hR : K.Rd w B 2 K.eP caR) : Calls Try.prog 20 [.agg #[.int .i64 2, .int .i64 100, .int .i64 50, .slice A caH.length c, .slice B caR.length d], .agg #[.int .i64 1, .int .i64 2]].toArray w (K.RetSE 3 1 K.eI [0, 67, 29] 0 w) := by
  have h := c20 (A := A) (B := B) (c := c) (d := d) (kind := 2) (base := 100) (most := 50) (hs := caH) (rs := caR) (u := 1) (v := 2) (w := w) hH hR (by decide) (by decide)
  rw [b20.1, b20.2] at h
  exact h


theorem bw22 {A B : Option Addr} {c d : Nat} {w : World} (hH : K.Rd w A 1 K.eI caH) (hR : K.Rd w B 2 K.eP caR) : Calls Try.prog 22 [.agg #[.int .i64 2, .int .i64 100, .int .i64 50, .slice A caH.length c, .slice B caR.length d], .agg #[.int .i64 1, .int .i64 2]].toArray w (K.RetSE 3 1 K.eI ([] : List Int) 0 w) := by
  have h := c22 (A := A) (B := B) (c := c) (d := d) (kind := 2) (base := 100) (most := 50) (hs := caH) (rs := caR) (u := 1) (v := 2) (w := w) hH hR (by decide) (by decide)
  rw [b22.1, b22.2] at h
  exact h


theorem bw27 {A B : Option Addr} {c d : Nat} {w : World} (hH : K.Rd w A 1 K.eI caH) (hR : K.Rd w B 2 K.eP caR) : Calls Try.prog 27 [.agg #[.int .i64 2, .int .i64 100, .int .i64 50, .slice A caH.length c, .slice B caR.length d], .int .i64 0].toArray w (K.Gives (.tuple #[.agg #[.int .i64 4, .int .i64 5], .int .i64 0]) w) := by
  have h := c27 (A := A) (B := B) (c := c) (d := d) (kind := 2) (base := 100) (most := 50) (hs := caH) (rs := caR) (limit := 0) (w := w) hH hR (by decide) (by decide)
  rw [b27] at h
  exact h


theorem bw27b {A B : Option Addr} {c d : Nat} {w : World} (hH : K.Rd w A 1 K.eI caH) (hR : K.Rd w B 2 K.eP caR) : Calls Try.prog 27 [.agg #[.int .i64 2, .int .i64 100, .int .i64 50, .slice A caH.length c, .slice B caR.length d], .int .i64 48].toArray w (K.Gives (.tuple #[.agg #[.int .i64 21, .int .i64 25], .int .i64 0]) w) := by
  have h := c27 (A := A) (B := B) (c := c) (d := d) (kind := 2) (base := 100) (most := 50) (hs := caH) (rs := caR) (limit := 48) (w := w) hH hR (by decide) (by decide)
  rw [b27b] at h
  exact h


theorem bw31 {A B : Option Addr} {c d : Nat} {w : World} (hH : K.Rd w A 1 K.eI caH) (hR : K.Rd w B 2 K.eP caR) {M : Option Addr} {cm : Nat} (hM : K.Rd w M 3 K.eT [(2, 17, 17), (3, 40, 40)]) : Calls Try.prog 31 [.agg #[.int .i64 2, .int .i64 100, .int .i64 50, .slice A caH.length c, .slice B caR.length d], .slice M 2 cm].toArray w (K.RetSE 27 2 K.eP [(2, 3)] 0 w) := by
  have h := c31 (A := A) (B := B) (c := c) (d := d) (kind := 2) (base := 100) (most := 50) (hs := caH) (rs := caR) (M := M) (cm := cm) (ms := [(2, 17, 17), (3, 40, 40)]) (w := w) hH hR (by decide) (by decide) hM (by decide)
  rw [b31.1, b31.2] at h
  exact h


theorem bw24 {A B : Option Addr} {c d : Nat} {w : World} (hH : K.Rd w A 1 K.eI caH) (hR : K.Rd w B 2 K.eP caR) : Calls Try.prog 24 [.agg #[.int .i64 2, .int .i64 100, .int .i64 50, .slice A caH.length c, .slice B caR.length d], .agg #[.int .i64 19, .int .i64 28], .agg #[.int .i64 17, .int .i64 25]].toArray w (K.RetSE 3 1 K.eI ([] : List Int) 0 w) := by
  have h := c24 (A := A) (B := B) (c := c) (d := d) (kind := 2) (base := 100) (most := 50) (hs := caH) (rs := caR) (u := 19) (v := 28) (u2 := 17) (v2 := 25) (w := w) hH hR (by decide) (by decide)
  rw [b24.1, b24.2] at h
  exact h


set_option maxRecDepth 100000 in
theorem c6 (w : World) :
    Calls Try.prog 6 [].toArray w (K.Gives (.bool true) w) := by
  refine K.enter (args := []) Try.func6 rfl (n := 159) rfl ?_
  simp only [List.replicate, List.cons_append, List.nil_append]
  refine K.seq ?_
  refine K.region_lit ?_
  refine K.seq_pure (K.assign) rfl ?_
  dsimp only [K.setd, K.setn, K.ev, K.nth]
  refine K.seq_nil ?_
  refine K.norm_then ?_
  refine K.seq ?_
  refine K.region_lit ?_
  refine K.seq_loud (K.call_f cal_36 (fun F w hF hw => c36 (kind := 2) w)) rfl ?_
  rintro ⟨bh, br⟩ _
  try dsimp only [K.setd, K.setn, K.ev, K.nth, K.over, K.cl, K.eI, K.eP, K.eT, List.map, List.append, List.drop, List.take]
  refine K.seq_new (K.alloc zr_25) rfl ?_
  intro b1
  try dsimp only [K.setd, K.setn, K.ev, K.nth, K.over, K.cl, K.eI, K.eP, K.eT, List.map, List.append, List.drop, List.take]
  refine K.seq_st (K.store_all sz_25 rfl rfl rfl rfl (K.Rep.here)) rfl ?_
  try dsimp only [K.setd, K.setn, K.ev, K.nth, K.over, K.cl, K.eI, K.eP, K.eT, List.map, List.append, List.drop, List.take]
  refine K.seq_nil ?_
  refine K.norm_then ?_
  refine K.seq ?_
  refine K.draw_L [] Try_mixed ?_
  refine K.d_mem 0 rfl (K.loadA_own ag_25 rfl (List.Mem.head _) rfl) (by intro c hc; first | exact hc | (repeat (first | exact hc | exact List.mem_of_mem_drop hc | apply List.mem_cons_of_mem))) (by kernel_rfl) (by kernel_rfl) rfl ?_
  try dsimp only [K.setd, K.setn, K.ev, K.nth, K.over, K.cl, K.eI, K.eP, K.eT, List.map, List.append, List.drop, List.take]
  refine K.d_call 1 rfl (K.call_g cal_37 (fun F w hF hw => c37 w)) (by intro c hc; first | exact hc | (repeat (first | exact hc | exact List.mem_of_mem_drop hc | apply List.mem_cons_of_mem))) (by kernel_rfl) rfl ?_
  try dsimp only [K.setd, K.setn, K.ev, K.nth, K.over, K.cl, K.eI, K.eP, K.eT, List.map, List.append, List.drop, List.take]
  refine K.d_loud 2 rfl (K.call_f cal_17 (fun F w hF hw => bw17 (K.Rd.lit hw (hF _ (List.Mem.tail _ (List.Mem.tail _ (List.Mem.head _)))) (fun _ => rfl) (by decide) rfl) (K.Rd.lit hw (hF _ (List.Mem.tail _ (List.Mem.head _))) (fun _ => rfl) (by decide) rfl))) (by intro c hc; first | exact hc | (repeat (first | exact hc | exact List.mem_of_mem_drop hc | apply List.mem_cons_of_mem))) (by kernel_rfl) rfl ?_
  rintro ⟨A1, c1⟩ hA1
  try dsimp only [K.setd, K.setn, K.ev, K.nth, K.over, K.cl, K.eI, K.eP, K.eT, List.map, List.append, List.drop, List.take]
  refine K.d_pure 3 rfl (K.move) (by kernel_rfl) rfl ?_
  dsimp only [K.setd, K.setn, K.ev, K.nth]
  refine K.d_pure 4 rfl (K.extract rfl rfl) (by kernel_rfl) rfl ?_
  dsimp only [K.setd, K.setn, K.ev, K.nth]
  refine K.d_pure 5 rfl (K.extract rfl rfl) (by kernel_rfl) rfl ?_
  dsimp only [K.setd, K.setn, K.ev, K.nth]
  refine K.d_pure 6 rfl (K.assign) (by kernel_rfl) rfl ?_
  dsimp only [K.setd, K.setn, K.ev, K.nth]
  refine K.d_pure 7 rfl (K.assign) (by kernel_rfl) rfl ?_
  dsimp only [K.setd, K.setn, K.ev, K.nth]
  refine K.d_done (by kernel_rfl) ?_
  refine K.norm_then ?_
  refine K.seq ?_
  refine K.region_lit ?_
  refine K.seq_loud (K.call_f cal_36 (fun F w hF hw => c36 (kind := 1) w)) rfl ?_
  rintro ⟨bh2, br2⟩ _
  try dsimp only [K.setd, K.setn, K.ev, K.nth, K.over, K.cl, K.eI, K.eP, K.eT, List.map, List.append, List.drop, List.take]
  refine K.seq_call (K.call_g cal_37 (fun F w hF hw => c37 w)) rfl ?_
  try dsimp only [K.setd, K.setn, K.ev, K.nth, K.over, K.cl, K.eI, K.eP, K.eT, List.map, List.append, List.drop, List.take]
  refine K.seq_loud (K.call_f cal_17 (fun F w hF hw => bw17d (K.Rd.lit hw (hF _ (List.Mem.tail _ (List.Mem.head _))) (fun _ => rfl) (by decide) rfl) (K.Rd.lit hw (hF _ (List.Mem.head _)) (fun _ => rfl) (by decide) rfl))) rfl ?_
  rintro ⟨A2, c2⟩ hA2
  try dsimp only [K.setd, K.setn, K.ev, K.nth, K.over, K.cl, K.eI, K.eP, K.eT, List.map, List.append, List.drop, List.take]
  refine K.seq_pure (K.move) rfl ?_
  dsimp only [K.setd, K.setn, K.ev, K.nth]
  refine K.seq_pure (K.extract rfl rfl) rfl ?_
  dsimp only [K.setd, K.setn, K.ev, K.nth]
  refine K.seq_pure (K.extract rfl rfl) rfl ?_
  dsimp only [K.setd, K.setn, K.ev, K.nth]
  refine K.seq_pure (K.assign) rfl ?_
  dsimp only [K.setd, K.setn, K.ev, K.nth]
  refine K.seq_pure (K.assign) rfl ?_
  dsimp only [K.setd, K.setn, K.ev, K.nth]
  refine K.seq_nil ?_
  refine K.norm_then ?_
  refine K.seq ?_
  refine K.region_lit ?_
  refine K.seq_loud (K.call_f cal_36 (fun F w hF hw => c36 (kind := 3) w)) rfl ?_
  rintro ⟨bh3, br3⟩ _
  try dsimp only [K.setd, K.setn, K.ev, K.nth, K.over, K.cl, K.eI, K.eP, K.eT, List.map, List.append, List.drop, List.take]
  refine K.seq_call (K.call_g cal_37 (fun F w hF hw => c37 w)) rfl ?_
  try dsimp only [K.setd, K.setn, K.ev, K.nth, K.over, K.cl, K.eI, K.eP, K.eT, List.map, List.append, List.drop, List.take]
  refine K.seq_loud (K.call_f cal_17 (fun F w hF hw => bw17u (K.Rd.lit hw (hF _ (List.Mem.tail _ (List.Mem.head _))) (fun _ => rfl) (by decide) rfl) (K.Rd.lit hw (hF _ (List.Mem.head _)) (fun _ => rfl) (by decide) rfl))) rfl ?_
  rintro ⟨A3, c3⟩ hA3
  try dsimp only [K.setd, K.setn, K.ev, K.nth, K.over, K.cl, K.eI, K.eP, K.eT, List.map, List.append, List.drop, List.take]
  refine K.seq_pure (K.move) rfl ?_
  dsimp only [K.setd, K.setn, K.ev, K.nth]
  refine K.seq_pure (K.extract rfl rfl) rfl ?_
  dsimp only [K.setd, K.setn, K.ev, K.nth]
  refine K.seq_pure (K.extract rfl rfl) rfl ?_
  dsimp only [K.setd, K.setn, K.ev, K.nth]
  refine K.seq_pure (K.assign) rfl ?_
  dsimp only [K.setd, K.setn, K.ev, K.nth]
  refine K.seq_pure (K.assign) rfl ?_
  dsimp only [K.setd, K.setn, K.ev, K.nth]
  refine K.seq_nil ?_
  refine K.norm_then ?_
  refine K.seq ?_
  refine K.draw_L [] Try_mixed ?_
  refine K.d_mem 0 rfl (K.loadA_own ag_25 rfl (List.Mem.tail _ (List.Mem.tail _ (List.Mem.tail _ (List.Mem.tail _ (List.Mem.tail _ (List.Mem.tail _ (List.Mem.tail _ (List.Mem.head _)))))))) rfl) (by intro c hc; first | exact hc | (repeat (first | exact hc | exact List.mem_of_mem_drop hc | apply List.mem_cons_of_mem))) (by kernel_rfl) (by kernel_rfl) rfl ?_
  try dsimp only [K.setd, K.setn, K.ev, K.nth, K.over, K.cl, K.eI, K.eP, K.eT, List.map, List.append, List.drop, List.take]
  refine K.d_call 1 rfl (K.call_g cal_37 (fun F w hF hw => c37 w)) (by intro c hc; first | exact hc | (repeat (first | exact hc | exact List.mem_of_mem_drop hc | apply List.mem_cons_of_mem))) (by kernel_rfl) rfl ?_
  try dsimp only [K.setd, K.setn, K.ev, K.nth, K.over, K.cl, K.eI, K.eP, K.eT, List.map, List.append, List.drop, List.take]
  refine K.d_loud 2 rfl (K.call_f cal_20 (fun F w hF hw => bw20 (K.Rd.lit hw (hF _ (List.Mem.tail _ (List.Mem.tail _ (List.Mem.tail _ (List.Mem.tail _ (List.Mem.tail _ (List.Mem.tail _ (List.Mem.tail _ (List.Mem.tail _ (List.Mem.tail _ (List.Mem.head _))))))))))) (fun _ => rfl) (by decide) rfl) (K.Rd.lit hw (hF _ (List.Mem.tail _ (List.Mem.tail _ (List.Mem.tail _ (List.Mem.tail _ (List.Mem.tail _ (List.Mem.tail _ (List.Mem.tail _ (List.Mem.tail _ (List.Mem.head _)))))))))) (fun _ => rfl) (by decide) rfl))) (by intro c hc; first | exact hc | (repeat (first | exact hc | exact List.mem_of_mem_drop hc | apply List.mem_cons_of_mem))) (by kernel_rfl) rfl ?_
  rintro ⟨A4, c4⟩ hA4
  try dsimp only [K.setd, K.setn, K.ev, K.nth, K.over, K.cl, K.eI, K.eP, K.eT, List.map, List.append, List.drop, List.take]
  refine K.d_pure 3 rfl (K.move) (by kernel_rfl) rfl ?_
  dsimp only [K.setd, K.setn, K.ev, K.nth]
  refine K.d_pure 4 rfl (K.extract rfl rfl) (by kernel_rfl) rfl ?_
  dsimp only [K.setd, K.setn, K.ev, K.nth]
  refine K.d_pure 5 rfl (K.extract rfl rfl) (by kernel_rfl) rfl ?_
  dsimp only [K.setd, K.setn, K.ev, K.nth]
  refine K.d_pure 6 rfl (K.assign) (by kernel_rfl) rfl ?_
  dsimp only [K.setd, K.setn, K.ev, K.nth]
  refine K.d_pure 7 rfl (K.assign) (by kernel_rfl) rfl ?_
  dsimp only [K.setd, K.setn, K.ev, K.nth]
  refine K.d_done (by kernel_rfl) ?_
  refine K.norm_then ?_
  refine K.seq ?_
  refine K.draw_L [] Try_mixed ?_
  refine K.d_mem 0 rfl (K.loadA_own ag_25 rfl (List.Mem.tail _ (List.Mem.tail _ (List.Mem.tail _ (List.Mem.tail _ (List.Mem.tail _ (List.Mem.tail _ (List.Mem.tail _ (List.Mem.tail _ (List.Mem.head _))))))))) rfl) (by intro c hc; first | exact hc | (repeat (first | exact hc | exact List.mem_of_mem_drop hc | apply List.mem_cons_of_mem))) (by kernel_rfl) (by kernel_rfl) rfl ?_
  try dsimp only [K.setd, K.setn, K.ev, K.nth, K.over, K.cl, K.eI, K.eP, K.eT, List.map, List.append, List.drop, List.take]
  refine K.d_call 1 rfl (K.call_g cal_37 (fun F w hF hw => c37 w)) (by intro c hc; first | exact hc | (repeat (first | exact hc | exact List.mem_of_mem_drop hc | apply List.mem_cons_of_mem))) (by kernel_rfl) rfl ?_
  try dsimp only [K.setd, K.setn, K.ev, K.nth, K.over, K.cl, K.eI, K.eP, K.eT, List.map, List.append, List.drop, List.take]
  refine K.d_loud 2 rfl (K.call_f cal_22 (fun F w hF hw => bw22 (K.Rd.lit hw (hF _ (List.Mem.tail _ (List.Mem.tail _ (List.Mem.tail _ (List.Mem.tail _ (List.Mem.tail _ (List.Mem.tail _ (List.Mem.tail _ (List.Mem.tail _ (List.Mem.tail _ (List.Mem.tail _ (List.Mem.head _)))))))))))) (fun _ => rfl) (by decide) rfl) (K.Rd.lit hw (hF _ (List.Mem.tail _ (List.Mem.tail _ (List.Mem.tail _ (List.Mem.tail _ (List.Mem.tail _ (List.Mem.tail _ (List.Mem.tail _ (List.Mem.tail _ (List.Mem.tail _ (List.Mem.head _))))))))))) (fun _ => rfl) (by decide) rfl))) (by intro c hc; first | exact hc | (repeat (first | exact hc | exact List.mem_of_mem_drop hc | apply List.mem_cons_of_mem))) (by kernel_rfl) rfl ?_
  rintro ⟨A5, c5⟩ hA5
  try dsimp only [K.setd, K.setn, K.ev, K.nth, K.over, K.cl, K.eI, K.eP, K.eT, List.map, List.append, List.drop, List.take]
  refine K.d_pure 3 rfl (K.move) (by kernel_rfl) rfl ?_
  dsimp only [K.setd, K.setn, K.ev, K.nth]
  refine K.d_pure 4 rfl (K.extract rfl rfl) (by kernel_rfl) rfl ?_
  dsimp only [K.setd, K.setn, K.ev, K.nth]
  refine K.d_pure 5 rfl (K.extract rfl rfl) (by kernel_rfl) rfl ?_
  dsimp only [K.setd, K.setn, K.ev, K.nth]
  refine K.d_pure 6 rfl (K.assign) (by kernel_rfl) rfl ?_
  dsimp only [K.setd, K.setn, K.ev, K.nth]
  refine K.d_pure 7 rfl (K.assign) (by kernel_rfl) rfl ?_
  dsimp only [K.setd, K.setn, K.ev, K.nth]
  refine K.d_done (by kernel_rfl) ?_
  refine K.norm_then ?_
  refine K.seq ?_
  refine K.region_lit ?_
  refine K.seq_sil (K.loadA_own ag_25 rfl (List.Mem.tail _ (List.Mem.tail _ (List.Mem.tail _ (List.Mem.tail _ (List.Mem.tail _ (List.Mem.tail _ (List.Mem.tail _ (List.Mem.tail _ (List.Mem.tail _ (List.Mem.head _)))))))))) rfl) rfl ?_
  try dsimp only [K.setd, K.setn, K.ev, K.nth, K.over, K.cl, K.eI, K.eP, K.eT, List.map, List.append, List.drop, List.take]
  refine K.seq_call (K.call_g cal_27 (fun F w hF hw => bw27 (K.Rd.lit hw (hF _ (List.Mem.tail _ (List.Mem.tail _ (List.Mem.tail _ (List.Mem.tail _ (List.Mem.tail _ (List.Mem.tail _ (List.Mem.tail _ (List.Mem.tail _ (List.Mem.tail _ (List.Mem.tail _ (List.Mem.tail _ (List.Mem.head _))))))))))))) (fun _ => rfl) (by decide) rfl) (K.Rd.lit hw (hF _ (List.Mem.tail _ (List.Mem.tail _ (List.Mem.tail _ (List.Mem.tail _ (List.Mem.tail _ (List.Mem.tail _ (List.Mem.tail _ (List.Mem.tail _ (List.Mem.tail _ (List.Mem.tail _ (List.Mem.head _)))))))))))) (fun _ => rfl) (by decide) rfl))) rfl ?_
  try dsimp only [K.setd, K.setn, K.ev, K.nth, K.over, K.cl, K.eI, K.eP, K.eT, List.map, List.append, List.drop, List.take]
  refine K.seq_pure (K.move) rfl ?_
  dsimp only [K.setd, K.setn, K.ev, K.nth]
  refine K.seq_pure (K.extract rfl rfl) rfl ?_
  dsimp only [K.setd, K.setn, K.ev, K.nth]
  refine K.seq_pure (K.extract rfl rfl) rfl ?_
  dsimp only [K.setd, K.setn, K.ev, K.nth]
  refine K.seq_new (K.alloc zr_27) rfl ?_
  intro b12
  try dsimp only [K.setd, K.setn, K.ev, K.nth, K.over, K.cl, K.eI, K.eP, K.eT, List.map, List.append, List.drop, List.take]
  refine K.seq_st (K.store_all sz_27 rfl rfl rfl rfl (K.Rep.here)) rfl ?_
  try dsimp only [K.setd, K.setn, K.ev, K.nth, K.over, K.cl, K.eI, K.eP, K.eT, List.map, List.append, List.drop, List.take]
  refine K.seq_pure (K.assign) rfl ?_
  dsimp only [K.setd, K.setn, K.ev, K.nth]
  refine K.seq_nil ?_
  refine K.norm_then ?_
  refine K.seq ?_
  refine K.region_lit ?_
  refine K.seq_sil (K.loadA_own ag_25 rfl (List.Mem.tail _ (List.Mem.tail _ (List.Mem.tail _ (List.Mem.tail _ (List.Mem.tail _ (List.Mem.tail _ (List.Mem.tail _ (List.Mem.tail _ (List.Mem.tail _ (List.Mem.tail _ (List.Mem.head _))))))))))) rfl) rfl ?_
  try dsimp only [K.setd, K.setn, K.ev, K.nth, K.over, K.cl, K.eI, K.eP, K.eT, List.map, List.append, List.drop, List.take]
  refine K.seq_call (K.call_g cal_27 (fun F w hF hw => bw27b (K.Rd.lit hw (hF _ (List.Mem.tail _ (List.Mem.tail _ (List.Mem.tail _ (List.Mem.tail _ (List.Mem.tail _ (List.Mem.tail _ (List.Mem.tail _ (List.Mem.tail _ (List.Mem.tail _ (List.Mem.tail _ (List.Mem.tail _ (List.Mem.tail _ (List.Mem.head _)))))))))))))) (fun _ => rfl) (by decide) rfl) (K.Rd.lit hw (hF _ (List.Mem.tail _ (List.Mem.tail _ (List.Mem.tail _ (List.Mem.tail _ (List.Mem.tail _ (List.Mem.tail _ (List.Mem.tail _ (List.Mem.tail _ (List.Mem.tail _ (List.Mem.tail _ (List.Mem.tail _ (List.Mem.head _))))))))))))) (fun _ => rfl) (by decide) rfl))) rfl ?_
  try dsimp only [K.setd, K.setn, K.ev, K.nth, K.over, K.cl, K.eI, K.eP, K.eT, List.map, List.append, List.drop, List.take]
  refine K.seq_pure (K.move) rfl ?_
  dsimp only [K.setd, K.setn, K.ev, K.nth]
  refine K.seq_pure (K.extract rfl rfl) rfl ?_
  dsimp only [K.setd, K.setn, K.ev, K.nth]
  refine K.seq_pure (K.extract rfl rfl) rfl ?_
  dsimp only [K.setd, K.setn, K.ev, K.nth]
  refine K.seq_new (K.alloc zr_27) rfl ?_
  intro b14
  try dsimp only [K.setd, K.setn, K.ev, K.nth, K.over, K.cl, K.eI, K.eP, K.eT, List.map, List.append, List.drop, List.take]
  refine K.seq_st (K.store_all sz_27 rfl rfl rfl rfl (K.Rep.here)) rfl ?_
  try dsimp only [K.setd, K.setn, K.ev, K.nth, K.over, K.cl, K.eI, K.eP, K.eT, List.map, List.append, List.drop, List.take]
  refine K.seq_pure (K.assign) rfl ?_
  dsimp only [K.setd, K.setn, K.ev, K.nth]
  refine K.seq_nil ?_
  refine K.norm_then ?_
  refine K.seq ?_
  refine K.draw_L [] Try_mixed ?_
  refine K.d_mem 0 rfl (K.loadA_own ag_25 rfl (List.Mem.tail _ (List.Mem.tail _ (List.Mem.tail _ (List.Mem.tail _ (List.Mem.tail _ (List.Mem.tail _ (List.Mem.tail _ (List.Mem.tail _ (List.Mem.tail _ (List.Mem.tail _ (List.Mem.tail _ (List.Mem.head _)))))))))))) rfl) (by intro c hc; first | exact hc | (repeat (first | exact hc | exact List.mem_of_mem_drop hc | apply List.mem_cons_of_mem))) (by kernel_rfl) (by kernel_rfl) rfl ?_
  try dsimp only [K.setd, K.setn, K.ev, K.nth, K.over, K.cl, K.eI, K.eP, K.eT, List.map, List.append, List.drop, List.take]
  refine K.d_call 1 rfl (K.call_g cal_38 (fun F w hF hw => c38 w)) (by intro c hc; first | exact hc | (repeat (first | exact hc | exact List.mem_of_mem_drop hc | apply List.mem_cons_of_mem))) (by kernel_rfl) rfl ?_
  try dsimp only [K.setd, K.setn, K.ev, K.nth, K.over, K.cl, K.eI, K.eP, K.eT, List.map, List.append, List.drop, List.take]
  refine K.d_call 2 rfl (K.call_g cal_38 (fun F w hF hw => c38 w)) (by intro c hc; first | exact hc | (repeat (first | exact hc | exact List.mem_of_mem_drop hc | apply List.mem_cons_of_mem))) (by kernel_rfl) rfl ?_
  try dsimp only [K.setd, K.setn, K.ev, K.nth, K.over, K.cl, K.eI, K.eP, K.eT, List.map, List.append, List.drop, List.take]
  refine K.d_new 3 rfl (K.buildSlice (bs41_2 _ _ _ _ _ _)) (by intro c hc; first | exact hc | (repeat (first | exact hc | exact List.mem_of_mem_drop hc | apply List.mem_cons_of_mem))) (by kernel_rfl) rfl ?_
  intro b65
  try dsimp only [K.setd, K.setn, K.ev, K.nth, K.over, K.cl, K.eI, K.eP, K.eT, List.map, List.append, List.drop, List.take]
  refine K.d_loud 4 rfl (K.call_f cal_31 (fun F w hF hw => bw31 (K.Rd.lit hw (hF _ (List.Mem.tail _ (List.Mem.tail _ (List.Mem.tail _ (List.Mem.tail _ (List.Mem.tail _ (List.Mem.tail _ (List.Mem.tail _ (List.Mem.tail _ (List.Mem.tail _ (List.Mem.tail _ (List.Mem.tail _ (List.Mem.tail _ (List.Mem.tail _ (List.Mem.tail _ (List.Mem.head _)))))))))))))))) (fun _ => rfl) (by decide) rfl) (K.Rd.lit hw (hF _ (List.Mem.tail _ (List.Mem.tail _ (List.Mem.tail _ (List.Mem.tail _ (List.Mem.tail _ (List.Mem.tail _ (List.Mem.tail _ (List.Mem.tail _ (List.Mem.tail _ (List.Mem.tail _ (List.Mem.tail _ (List.Mem.tail _ (List.Mem.tail _ (List.Mem.head _))))))))))))))) (fun _ => rfl) (by decide) rfl) (K.Rd.lit hw (hF _ (List.Mem.head _)) (fun _ => rfl) (by decide) rfl))) (by intro c hc; first | exact hc | (repeat (first | exact hc | exact List.mem_of_mem_drop hc | apply List.mem_cons_of_mem))) (by kernel_rfl) rfl ?_
  rintro ⟨A6, c6⟩ hA6
  try dsimp only [K.setd, K.setn, K.ev, K.nth, K.over, K.cl, K.eI, K.eP, K.eT, List.map, List.append, List.drop, List.take]
  refine K.d_pure 5 rfl (K.move) (by kernel_rfl) rfl ?_
  dsimp only [K.setd, K.setn, K.ev, K.nth]
  refine K.d_pure 6 rfl (K.extract rfl rfl) (by kernel_rfl) rfl ?_
  dsimp only [K.setd, K.setn, K.ev, K.nth]
  refine K.d_pure 7 rfl (K.extract rfl rfl) (by kernel_rfl) rfl ?_
  dsimp only [K.setd, K.setn, K.ev, K.nth]
  refine K.d_pure 8 rfl (K.assign) (by kernel_rfl) rfl ?_
  dsimp only [K.setd, K.setn, K.ev, K.nth]
  refine K.d_pure 9 rfl (K.assign) (by kernel_rfl) rfl ?_
  dsimp only [K.setd, K.setn, K.ev, K.nth]
  refine K.d_done (by kernel_rfl) ?_
  refine K.norm_then ?_
  refine K.seq ?_
  refine K.draw_L [] Try_mixed ?_
  refine K.d_mem 0 rfl (K.loadA_own ag_25 rfl (List.Mem.tail _ (List.Mem.tail _ (List.Mem.tail _ (List.Mem.tail _ (List.Mem.tail _ (List.Mem.tail _ (List.Mem.tail _ (List.Mem.tail _ (List.Mem.tail _ (List.Mem.tail _ (List.Mem.tail _ (List.Mem.tail _ (List.Mem.tail _ (List.Mem.head _)))))))))))))) rfl) (by intro c hc; first | exact hc | (repeat (first | exact hc | exact List.mem_of_mem_drop hc | apply List.mem_cons_of_mem))) (by kernel_rfl) (by kernel_rfl) rfl ?_
  try dsimp only [K.setd, K.setn, K.ev, K.nth, K.over, K.cl, K.eI, K.eP, K.eT, List.map, List.append, List.drop, List.take]
  refine K.d_call 1 rfl (K.call_g cal_37 (fun F w hF hw => c37 w)) (by intro c hc; first | exact hc | (repeat (first | exact hc | exact List.mem_of_mem_drop hc | apply List.mem_cons_of_mem))) (by kernel_rfl) rfl ?_
  try dsimp only [K.setd, K.setn, K.ev, K.nth, K.over, K.cl, K.eI, K.eP, K.eT, List.map, List.append, List.drop, List.take]
  refine K.d_call 2 rfl (K.call_g cal_37 (fun F w hF hw => c37 w)) (by intro c hc; first | exact hc | (repeat (first | exact hc | exact List.mem_of_mem_drop hc | apply List.mem_cons_of_mem))) (by kernel_rfl) rfl ?_
  try dsimp only [K.setd, K.setn, K.ev, K.nth, K.over, K.cl, K.eI, K.eP, K.eT, List.map, List.append, List.drop, List.take]
  refine K.d_loud 3 rfl (K.call_f cal_24 (fun F w hF hw => bw24 (K.Rd.lit hw (hF _ (List.Mem.tail _ (List.Mem.tail _ (List.Mem.tail _ (List.Mem.tail _ (List.Mem.tail _ (List.Mem.tail _ (List.Mem.tail _ (List.Mem.tail _ (List.Mem.tail _ (List.Mem.tail _ (List.Mem.tail _ (List.Mem.tail _ (List.Mem.tail _ (List.Mem.tail _ (List.Mem.tail _ (List.Mem.head _))))))))))))))))) (fun _ => rfl) (by decide) rfl) (K.Rd.lit hw (hF _ (List.Mem.tail _ (List.Mem.tail _ (List.Mem.tail _ (List.Mem.tail _ (List.Mem.tail _ (List.Mem.tail _ (List.Mem.tail _ (List.Mem.tail _ (List.Mem.tail _ (List.Mem.tail _ (List.Mem.tail _ (List.Mem.tail _ (List.Mem.tail _ (List.Mem.tail _ (List.Mem.head _)))))))))))))))) (fun _ => rfl) (by decide) rfl))) (by intro c hc; first | exact hc | (repeat (first | exact hc | exact List.mem_of_mem_drop hc | apply List.mem_cons_of_mem))) (by kernel_rfl) rfl ?_
  rintro ⟨A7, c7⟩ hA7
  try dsimp only [K.setd, K.setn, K.ev, K.nth, K.over, K.cl, K.eI, K.eP, K.eT, List.map, List.append, List.drop, List.take]
  refine K.d_pure 4 rfl (K.move) (by kernel_rfl) rfl ?_
  dsimp only [K.setd, K.setn, K.ev, K.nth]
  refine K.d_pure 5 rfl (K.extract rfl rfl) (by kernel_rfl) rfl ?_
  dsimp only [K.setd, K.setn, K.ev, K.nth]
  refine K.d_pure 6 rfl (K.extract rfl rfl) (by kernel_rfl) rfl ?_
  dsimp only [K.setd, K.setn, K.ev, K.nth]
  refine K.d_pure 7 rfl (K.assign) (by kernel_rfl) rfl ?_
  dsimp only [K.setd, K.setn, K.ev, K.nth]
  refine K.d_pure 8 rfl (K.assign) (by kernel_rfl) rfl ?_
  dsimp only [K.setd, K.setn, K.ev, K.nth]
  refine K.d_done (by kernel_rfl) ?_
  refine K.norm_then ?_
  refine K.seq ?_
  refine K.draw_L [] Try_mixed ?_
  refine K.d_pure 0 rfl (K.move) (by kernel_rfl) rfl ?_
  dsimp only [K.setd, K.setn, K.ev, K.nth]
  refine K.d_pure 1 rfl (K.Pure.eq (K.eql rfl rfl) (show _ = Value.bool true from rfl)) (by kernel_rfl) rfl ?_
  dsimp only [K.setd, K.setn, K.ev, K.nth]
  refine K.d_pure 2 rfl (K.move) (by kernel_rfl) rfl ?_
  dsimp only [K.setd, K.setn, K.ev, K.nth]
  refine K.d_pure 3 rfl (K.move) (by kernel_rfl) rfl ?_
  dsimp only [K.setd, K.setn, K.ev, K.nth]
  refine K.d_pure 4 rfl (K.Pure.eq (K.eql rfl rfl) (show _ = Value.bool true from rfl)) (by kernel_rfl) rfl ?_
  dsimp only [K.setd, K.setn, K.ev, K.nth]
  refine K.d_pure 5 rfl (K.pick_t rfl) (by kernel_rfl) rfl ?_
  dsimp only [K.setd, K.setn, K.ev, K.nth]
  refine K.d_pure 6 rfl (K.move) (by kernel_rfl) rfl ?_
  dsimp only [K.setd, K.setn, K.ev, K.nth]
  refine K.d_pure 7 rfl (K.move) (by kernel_rfl) rfl ?_
  dsimp only [K.setd, K.setn, K.ev, K.nth]
  refine K.d_pure 8 rfl (K.Pure.eq (K.eql rfl rfl) (show _ = Value.bool true from rfl)) (by kernel_rfl) rfl ?_
  dsimp only [K.setd, K.setn, K.ev, K.nth]
  refine K.d_pure 9 rfl (K.pick_t rfl) (by kernel_rfl) rfl ?_
  dsimp only [K.setd, K.setn, K.ev, K.nth]
  refine K.d_pure 10 rfl (K.move) (by kernel_rfl) rfl ?_
  dsimp only [K.setd, K.setn, K.ev, K.nth]
  refine K.d_pure 11 rfl (K.move) (by kernel_rfl) rfl ?_
  dsimp only [K.setd, K.setn, K.ev, K.nth]
  refine K.d_pure 12 rfl (K.Pure.eq (K.eql rfl rfl) (show _ = Value.bool true from rfl)) (by kernel_rfl) rfl ?_
  dsimp only [K.setd, K.setn, K.ev, K.nth]
  refine K.d_pure 13 rfl (K.pick_t rfl) (by kernel_rfl) rfl ?_
  dsimp only [K.setd, K.setn, K.ev, K.nth]
  refine K.d_pure 14 rfl (K.move) (by kernel_rfl) rfl ?_
  dsimp only [K.setd, K.setn, K.ev, K.nth]
  refine K.d_pure 15 rfl (K.move) (by kernel_rfl) rfl ?_
  dsimp only [K.setd, K.setn, K.ev, K.nth]
  refine K.d_pure 16 rfl (K.Pure.eq (K.eql rfl rfl) (show _ = Value.bool true from rfl)) (by kernel_rfl) rfl ?_
  dsimp only [K.setd, K.setn, K.ev, K.nth]
  refine K.d_pure 17 rfl (K.pick_t rfl) (by kernel_rfl) rfl ?_
  dsimp only [K.setd, K.setn, K.ev, K.nth]
  refine K.d_pure 18 rfl (K.move) (by kernel_rfl) rfl ?_
  dsimp only [K.setd, K.setn, K.ev, K.nth]
  refine K.d_pure 19 rfl (K.move) (by kernel_rfl) rfl ?_
  dsimp only [K.setd, K.setn, K.ev, K.nth]
  refine K.d_pure 20 rfl (K.Pure.eq (K.eql rfl rfl) (show _ = Value.bool true from rfl)) (by kernel_rfl) rfl ?_
  dsimp only [K.setd, K.setn, K.ev, K.nth]
  refine K.d_pure 21 rfl (K.pick_t rfl) (by kernel_rfl) rfl ?_
  dsimp only [K.setd, K.setn, K.ev, K.nth]
  refine K.d_pure 22 rfl (K.move) (by kernel_rfl) rfl ?_
  dsimp only [K.setd, K.setn, K.ev, K.nth]
  refine K.d_pure 23 rfl (K.move) (by kernel_rfl) rfl ?_
  dsimp only [K.setd, K.setn, K.ev, K.nth]
  refine K.d_pure 24 rfl (K.Pure.eq (K.eql rfl rfl) (show _ = Value.bool true from rfl)) (by kernel_rfl) rfl ?_
  dsimp only [K.setd, K.setn, K.ev, K.nth]
  refine K.d_pure 25 rfl (K.pick_t rfl) (by kernel_rfl) rfl ?_
  dsimp only [K.setd, K.setn, K.ev, K.nth]
  refine K.d_pure 26 rfl (K.move) (by kernel_rfl) rfl ?_
  dsimp only [K.setd, K.setn, K.ev, K.nth]
  refine K.d_pure 27 rfl (K.move) (by kernel_rfl) rfl ?_
  dsimp only [K.setd, K.setn, K.ev, K.nth]
  refine K.d_pure 28 rfl (K.Pure.eq (K.eql rfl rfl) (show _ = Value.bool true from rfl)) (by kernel_rfl) rfl ?_
  dsimp only [K.setd, K.setn, K.ev, K.nth]
  refine K.d_pure 29 rfl (K.pick_t rfl) (by kernel_rfl) rfl ?_
  dsimp only [K.setd, K.setn, K.ev, K.nth]
  refine K.d_pure 30 rfl (K.move) (by kernel_rfl) rfl ?_
  dsimp only [K.setd, K.setn, K.ev, K.nth]
  refine K.d_pure 31 rfl (K.move) (by kernel_rfl) rfl ?_
  dsimp only [K.setd, K.setn, K.ev, K.nth]
  refine K.d_pure 32 rfl (K.Pure.eq (K.eql rfl rfl) (show _ = Value.bool true from rfl)) (by kernel_rfl) rfl ?_
  dsimp only [K.setd, K.setn, K.ev, K.nth]
  refine K.d_pure 33 rfl (K.pick_t rfl) (by kernel_rfl) rfl ?_
  dsimp only [K.setd, K.setn, K.ev, K.nth]
  refine K.d_pure 34 rfl (K.move) (by kernel_rfl) rfl ?_
  dsimp only [K.setd, K.setn, K.ev, K.nth]
  refine K.d_pure 35 rfl (K.move) (by kernel_rfl) rfl ?_
  dsimp only [K.setd, K.setn, K.ev, K.nth]
  refine K.d_new 36 rfl (K.buildSlice (bs22_4 _ _ _ _)) (by intro c hc; first | exact hc | (repeat (first | exact hc | exact List.mem_of_mem_drop hc | apply List.mem_cons_of_mem))) (by kernel_rfl) rfl ?_
  intro b112
  try dsimp only [K.setd, K.setn, K.ev, K.nth, K.over, K.cl, K.eI, K.eP, K.eT, List.map, List.append, List.drop, List.take]
  refine K.d_call 37 rfl (K.call_g cal_19 (fun F w hF hw => c19t (xs := [0, 7, 17, 40]) (K.Rd.own hw (hF _ (List.Mem.tail _ (List.Mem.tail _ (List.Mem.tail _ (List.Mem.tail _ (List.Mem.tail _ (List.Mem.tail _ (List.Mem.tail _ (List.Mem.tail _ (List.Mem.tail _ (List.Mem.tail _ (List.Mem.tail _ (List.Mem.tail _ (List.Mem.tail _ (List.Mem.tail _ (List.Mem.head _)))))))))))))))) hA1 (fun _ => rfl) (by decide)) (K.Rd.lit hw (hF _ (List.Mem.head _)) (fun _ => rfl) (by decide) rfl) (by decide))) (by intro c hc; first | exact hc | (repeat (first | exact hc | exact List.mem_of_mem_drop hc | apply List.mem_cons_of_mem))) (by kernel_rfl) rfl ?_
  try dsimp only [K.setd, K.setn, K.ev, K.nth, K.over, K.cl, K.eI, K.eP, K.eT, List.map, List.append, List.drop, List.take]
  refine K.d_pure 38 rfl (K.pick_t rfl) (by kernel_rfl) rfl ?_
  dsimp only [K.setd, K.setn, K.ev, K.nth]
  refine K.d_pure 39 rfl (K.move) (by kernel_rfl) rfl ?_
  dsimp only [K.setd, K.setn, K.ev, K.nth]
  refine K.d_pure 40 rfl (K.move) (by kernel_rfl) rfl ?_
  dsimp only [K.setd, K.setn, K.ev, K.nth]
  refine K.d_new 41 rfl (K.buildSlice (bs22_4 _ _ _ _)) (by intro c hc; first | exact hc | (repeat (first | exact hc | exact List.mem_of_mem_drop hc | apply List.mem_cons_of_mem))) (by kernel_rfl) rfl ?_
  intro b117
  try dsimp only [K.setd, K.setn, K.ev, K.nth, K.over, K.cl, K.eI, K.eP, K.eT, List.map, List.append, List.drop, List.take]
  refine K.d_call 42 rfl (K.call_g cal_19 (fun F w hF hw => c19t (xs := [0, 6, 16, 40]) (K.Rd.own hw (hF _ (List.Mem.tail _ (List.Mem.tail _ (List.Mem.tail _ (List.Mem.tail _ (List.Mem.tail _ (List.Mem.tail _ (List.Mem.tail _ (List.Mem.tail _ (List.Mem.tail _ (List.Mem.tail _ (List.Mem.tail _ (List.Mem.tail _ (List.Mem.head _)))))))))))))) hA2 (fun _ => rfl) (by decide)) (K.Rd.lit hw (hF _ (List.Mem.head _)) (fun _ => rfl) (by decide) rfl) (by decide))) (by intro c hc; first | exact hc | (repeat (first | exact hc | exact List.mem_of_mem_drop hc | apply List.mem_cons_of_mem))) (by kernel_rfl) rfl ?_
  try dsimp only [K.setd, K.setn, K.ev, K.nth, K.over, K.cl, K.eI, K.eP, K.eT, List.map, List.append, List.drop, List.take]
  refine K.d_pure 43 rfl (K.pick_t rfl) (by kernel_rfl) rfl ?_
  dsimp only [K.setd, K.setn, K.ev, K.nth]
  refine K.d_pure 44 rfl (K.move) (by kernel_rfl) rfl ?_
  dsimp only [K.setd, K.setn, K.ev, K.nth]
  refine K.d_pure 45 rfl (K.move) (by kernel_rfl) rfl ?_
  dsimp only [K.setd, K.setn, K.ev, K.nth]
  refine K.d_new 46 rfl (K.buildSlice (bs22_4 _ _ _ _)) (by intro c hc; first | exact hc | (repeat (first | exact hc | exact List.mem_of_mem_drop hc | apply List.mem_cons_of_mem))) (by kernel_rfl) rfl ?_
  intro b122
  try dsimp only [K.setd, K.setn, K.ev, K.nth, K.over, K.cl, K.eI, K.eP, K.eT, List.map, List.append, List.drop, List.take]
  refine K.d_call 47 rfl (K.call_g cal_19 (fun F w hF hw => c19t (xs := [0, 7, 17, 40]) (K.Rd.own hw (hF _ (List.Mem.tail _ (List.Mem.tail _ (List.Mem.tail _ (List.Mem.tail _ (List.Mem.tail _ (List.Mem.tail _ (List.Mem.tail _ (List.Mem.tail _ (List.Mem.tail _ (List.Mem.tail _ (List.Mem.head _)))))))))))) hA3 (fun _ => rfl) (by decide)) (K.Rd.lit hw (hF _ (List.Mem.head _)) (fun _ => rfl) (by decide) rfl) (by decide))) (by intro c hc; first | exact hc | (repeat (first | exact hc | exact List.mem_of_mem_drop hc | apply List.mem_cons_of_mem))) (by kernel_rfl) rfl ?_
  try dsimp only [K.setd, K.setn, K.ev, K.nth, K.over, K.cl, K.eI, K.eP, K.eT, List.map, List.append, List.drop, List.take]
  refine K.d_pure 48 rfl (K.pick_t rfl) (by kernel_rfl) rfl ?_
  dsimp only [K.setd, K.setn, K.ev, K.nth]
  refine K.d_pure 49 rfl (K.move) (by kernel_rfl) rfl ?_
  dsimp only [K.setd, K.setn, K.ev, K.nth]
  refine K.d_pure 50 rfl (K.move) (by kernel_rfl) rfl ?_
  dsimp only [K.setd, K.setn, K.ev, K.nth]
  refine K.d_new 51 rfl (K.buildSlice (bs22_3 _ _ _)) (by intro c hc; first | exact hc | (repeat (first | exact hc | exact List.mem_of_mem_drop hc | apply List.mem_cons_of_mem))) (by kernel_rfl) rfl ?_
  intro b127
  try dsimp only [K.setd, K.setn, K.ev, K.nth, K.over, K.cl, K.eI, K.eP, K.eT, List.map, List.append, List.drop, List.take]
  refine K.d_call 52 rfl (K.call_g cal_19 (fun F w hF hw => c19t (xs := [0, 67, 29]) (K.Rd.own hw (hF _ (List.Mem.tail _ (List.Mem.tail _ (List.Mem.tail _ (List.Mem.tail _ (List.Mem.tail _ (List.Mem.tail _ (List.Mem.tail _ (List.Mem.tail _ (List.Mem.tail _ (List.Mem.tail _ (List.Mem.head _)))))))))))) hA4 (fun _ => rfl) (by decide)) (K.Rd.lit hw (hF _ (List.Mem.head _)) (fun _ => rfl) (by decide) rfl) (by decide))) (by intro c hc; first | exact hc | (repeat (first | exact hc | exact List.mem_of_mem_drop hc | apply List.mem_cons_of_mem))) (by kernel_rfl) rfl ?_
  try dsimp only [K.setd, K.setn, K.ev, K.nth, K.over, K.cl, K.eI, K.eP, K.eT, List.map, List.append, List.drop, List.take]
  refine K.d_pure 53 rfl (K.pick_t rfl) (by kernel_rfl) rfl ?_
  dsimp only [K.setd, K.setn, K.ev, K.nth]
  refine K.d_pure 54 rfl (K.move) (by kernel_rfl) rfl ?_
  dsimp only [K.setd, K.setn, K.ev, K.nth]
  refine K.d_pure 55 rfl (K.move) (by kernel_rfl) rfl ?_
  dsimp only [K.setd, K.setn, K.ev, K.nth]
  refine K.d_pure 56 rfl (K.len_sl sl_22 rfl) (by kernel_rfl) rfl ?_
  dsimp only [K.setd, K.setn, K.ev, K.nth]
  refine K.d_pure 57 rfl (K.Pure.eq (K.eql rfl rfl) (show _ = Value.bool true from congrArg Value.bool (decide_eq_true rfl))) (by kernel_rfl) rfl ?_
  dsimp only [K.setd, K.setn, K.ev, K.nth]
  refine K.d_pure 58 rfl (K.pick_t rfl) (by kernel_rfl) rfl ?_
  dsimp only [K.setd, K.setn, K.ev, K.nth]
  refine K.d_pure 59 rfl (K.move) (by kernel_rfl) rfl ?_
  dsimp only [K.setd, K.setn, K.ev, K.nth]
  refine K.d_mem 60 rfl (K.loadA_own ag_27 rfl (List.Mem.tail _ (List.Mem.tail _ (List.Mem.tail _ (List.Mem.tail _ (List.Mem.head _))))) rfl) (by intro c hc; first | exact hc | (repeat (first | exact hc | exact List.mem_of_mem_drop hc | apply List.mem_cons_of_mem))) (by kernel_rfl) (by kernel_rfl) rfl ?_
  try dsimp only [K.setd, K.setn, K.ev, K.nth, K.over, K.cl, K.eI, K.eP, K.eT, List.map, List.append, List.drop, List.take]
  refine K.d_call 61 rfl (K.call_g cal_37 (fun F w hF hw => c37 w)) (by intro c hc; first | exact hc | (repeat (first | exact hc | exact List.mem_of_mem_drop hc | apply List.mem_cons_of_mem))) (by kernel_rfl) rfl ?_
  try dsimp only [K.setd, K.setn, K.ev, K.nth, K.over, K.cl, K.eI, K.eP, K.eT, List.map, List.append, List.drop, List.take]
  refine K.d_pure 62 rfl (K.Pure.eq (K.eql_s2 s2_27 rfl rfl) (show _ = Value.bool true from congrArg Value.bool (decide_eq_true rfl))) (by kernel_rfl) rfl ?_
  dsimp only [K.setd, K.setn, K.ev, K.nth]
  refine K.d_pure 63 rfl (K.pick_t rfl) (by kernel_rfl) rfl ?_
  dsimp only [K.setd, K.setn, K.ev, K.nth]
  refine K.d_pure 64 rfl (K.move) (by kernel_rfl) rfl ?_
  dsimp only [K.setd, K.setn, K.ev, K.nth]
  refine K.d_mem 65 rfl (K.loadA_own ag_27 rfl (List.Mem.tail _ (List.Mem.tail _ (List.Mem.tail _ (List.Mem.head _)))) rfl) (by intro c hc; first | exact hc | (repeat (first | exact hc | exact List.mem_of_mem_drop hc | apply List.mem_cons_of_mem))) (by kernel_rfl) (by kernel_rfl) rfl ?_
  try dsimp only [K.setd, K.setn, K.ev, K.nth, K.over, K.cl, K.eI, K.eP, K.eT, List.map, List.append, List.drop, List.take]
  refine K.d_call 66 rfl (K.call_g cal_37 (fun F w hF hw => c37 w)) (by intro c hc; first | exact hc | (repeat (first | exact hc | exact List.mem_of_mem_drop hc | apply List.mem_cons_of_mem))) (by kernel_rfl) rfl ?_
  try dsimp only [K.setd, K.setn, K.ev, K.nth, K.over, K.cl, K.eI, K.eP, K.eT, List.map, List.append, List.drop, List.take]
  refine K.d_pure 67 rfl (K.Pure.eq (K.eql_s2 s2_27 rfl rfl) (show _ = Value.bool true from congrArg Value.bool (decide_eq_true rfl))) (by kernel_rfl) rfl ?_
  dsimp only [K.setd, K.setn, K.ev, K.nth]
  refine K.d_pure 68 rfl (K.pick_t rfl) (by kernel_rfl) rfl ?_
  dsimp only [K.setd, K.setn, K.ev, K.nth]
  refine K.d_pure 69 rfl (K.move) (by kernel_rfl) rfl ?_
  dsimp only [K.setd, K.setn, K.ev, K.nth]
  refine K.d_pure 70 rfl (K.move) (by kernel_rfl) rfl ?_
  dsimp only [K.setd, K.setn, K.ev, K.nth]
  refine K.d_call 71 rfl (K.call_g cal_37 (fun F w hF hw => c37 w)) (by intro c hc; first | exact hc | (repeat (first | exact hc | exact List.mem_of_mem_drop hc | apply List.mem_cons_of_mem))) (by kernel_rfl) rfl ?_
  try dsimp only [K.setd, K.setn, K.ev, K.nth, K.over, K.cl, K.eI, K.eP, K.eT, List.map, List.append, List.drop, List.take]
  refine K.d_new 72 rfl (K.buildSlice (bs27 _ _)) (by intro c hc; first | exact hc | (repeat (first | exact hc | exact List.mem_of_mem_drop hc | apply List.mem_cons_of_mem))) (by kernel_rfl) rfl ?_
  intro b148
  try dsimp only [K.setd, K.setn, K.ev, K.nth, K.over, K.cl, K.eI, K.eP, K.eT, List.map, List.append, List.drop, List.take]
  refine K.d_call 73 rfl (K.call_g cal_33 (fun F w hF hw => c33t (xs := [(2, 3)]) (K.Rd.own hw (hF _ (List.Mem.tail _ (List.Mem.tail _ (List.Mem.tail _ (List.Mem.tail _ (List.Mem.tail _ (List.Mem.tail _ (List.Mem.head _)))))))) hA6 (fun _ => rfl) (by decide)) (K.Rd.lit hw (hF _ (List.Mem.head _)) (fun _ => rfl) (by decide) rfl) (by decide))) (by intro c hc; first | exact hc | (repeat (first | exact hc | exact List.mem_of_mem_drop hc | apply List.mem_cons_of_mem))) (by kernel_rfl) rfl ?_
  try dsimp only [K.setd, K.setn, K.ev, K.nth, K.over, K.cl, K.eI, K.eP, K.eT, List.map, List.append, List.drop, List.take]
  refine K.d_pure 74 rfl (K.pick_t rfl) (by kernel_rfl) rfl ?_
  dsimp only [K.setd, K.setn, K.ev, K.nth]
  refine K.d_pure 75 rfl (K.move) (by kernel_rfl) rfl ?_
  dsimp only [K.setd, K.setn, K.ev, K.nth]
  refine K.d_pure 76 rfl (K.move) (by kernel_rfl) rfl ?_
  dsimp only [K.setd, K.setn, K.ev, K.nth]
  refine K.d_pure 77 rfl (K.len_sl sl_22 rfl) (by kernel_rfl) rfl ?_
  dsimp only [K.setd, K.setn, K.ev, K.nth]
  refine K.d_pure 78 rfl (K.Pure.eq (K.eql rfl rfl) (show _ = Value.bool true from congrArg Value.bool (decide_eq_true rfl))) (by kernel_rfl) rfl ?_
  dsimp only [K.setd, K.setn, K.ev, K.nth]
  refine K.d_pure 79 rfl (K.pick_t rfl) (by kernel_rfl) rfl ?_
  dsimp only [K.setd, K.setn, K.ev, K.nth]
  refine K.d_pure 80 rfl (K.move) (by kernel_rfl) rfl ?_
  dsimp only [K.setd, K.setn, K.ev, K.nth]
  refine K.d_call 81 rfl (K.call_g cal_26 (fun F w hF hw => c26 w)) (by intro c hc; first | exact hc | (repeat (first | exact hc | exact List.mem_of_mem_drop hc | apply List.mem_cons_of_mem))) (by kernel_rfl) rfl ?_
  try dsimp only [K.setd, K.setn, K.ev, K.nth, K.over, K.cl, K.eI, K.eP, K.eT, List.map, List.append, List.drop, List.take]
  refine K.d_pure 82 rfl (K.pick_t rfl) (by kernel_rfl) rfl ?_
  dsimp only [K.setd, K.setn, K.ev, K.nth]
  refine K.d_pure 83 rfl (K.assign) (by kernel_rfl) rfl ?_
  dsimp only [K.setd, K.setn, K.ev, K.nth]
  refine K.d_done (by kernel_rfl) ?_
  refine K.norm_then ?_
  refine K.ret ?_
  refine K.end_ret (fun w _ => K.res_tmp rfl w) ?_
  exact K.gives rfl

end Go.Proofs.Ytafkbioeoklldaa
