/-
  Walks of the program's functions, printed by program: what each returns.
  Conditions stand in each theorem.
-/
import Derived.Test.YtafkbioeoklldaaKf
import Derived.Test.YtafkbioeoklldaaK2
import Derived.WalkArith
import Derived.Test.YtafkbioeoklldaaS1
import Derived.Test.YtafkbioeoklldaaWa
import Derived.Test.YtafkbioeoklldaaWb
import Derived.Test.YtafkbioeoklldaaWc
import Derived.Test.YtafkbioeoklldaaWd
import Derived.Test.YtafkbioeoklldaaWe
import Derived.Test.YtafkbioeoklldaaWf
set_option linter.unusedSimpArgs false
set_option linter.unusedVariables false
namespace Go.Proofs.Ytafkbioeoklldaa
open Go.RowKit Go
open Go.K (setd setn ev nth over cl eI eP eT setM setF)
attribute [local irreducible] K.blk K.row
theorem bsC : K.Bs Try.prog 22 4 [(0, .int .i64 100), (1, .int .i64 110), (2, .int .i64 125), (3, .int .i64 160)] 3 [.int .i64 100, .int .i64 110, .int .i64 125, .int .i64 160] := fun w => by kernel_rfl
theorem bl79 (a b : Int) : K.Bl Try.prog 79 [(0, .int .i64 a), (1, .int .i64 b)] (.agg #[.int .i64 a, .int .i64 b]) := fun w => by kernel_rfl
theorem bsR (a b a2 b2 a3 b3 : Int) : K.Bs Try.prog 23 3 [(0, .agg #[.int .i64 a, .int .i64 b]), (1, .agg #[.int .i64 a2, .int .i64 b2]), (2, .agg #[.int .i64 a3, .int .i64 b3])] 79 [.int .i64 a, .int .i64 b, .int .i64 a2, .int .i64 b2, .int .i64 a3, .int .i64 b3] := fun w => by kernel_rfl
theorem bl25 (a b c : Int) (p q : Nat) (n m : Nat) : K.Bl Try.prog 25 [(0, .int .i64 a), (1, .int .i64 b), (2, .int .i64 c), (3, .slice (some ⟨p, 0, none⟩) n n), (4, .slice (some ⟨q, 0, none⟩) m m)] (.agg #[.int .i64 a, .int .i64 b, .int .i64 c, .slice (some ⟨p, 0, none⟩) n n, .slice (some ⟨q, 0, none⟩) m m]) := fun w => by kernel_rfl

set_option maxRecDepth 100000 in
theorem c36 {kind : Int} (w : World) :
    Calls Try.prog 36 [.int .i64 kind].toArray w (K.Ret (fun _ : Nat × Nat => True) (fun r => .agg #[.int .i64 kind, .int .i64 100, .int .i64 50, .slice (some ⟨r.1, 0, none⟩) 4 4, .slice (some ⟨r.2, 0, none⟩) 3 3]) (fun r => [K.blk r.2 79 [.int .i64 0, .int .i64 1, .int .i64 1, .int .i64 2, .int .i64 3, .int .i64 2], K.blk r.1 3 [.int .i64 100, .int .i64 110, .int .i64 125, .int .i64 160]]) w) := by
  refine K.enter (args := [.int .i64 kind]) Try.func36 rfl (n := 9) rfl ?_
  simp only [List.replicate, List.cons_append, List.nil_append]
  refine K.seq ?_
  refine K.region_lit ?_
  refine K.seq_new (K.alloc zr_25) rfl ?_
  intro b2
  try dsimp only [setd, setn, ev, nth, over, cl, eI, eP, eT, List.map, List.append, List.drop, List.take]
  refine K.seq_nil ?_
  refine K.norm_then ?_
  refine K.seq ?_
  refine K.region_lit ?_
  refine K.seq_pure (K.move) rfl ?_
  dsimp only [setd, setn, ev, nth]
  refine K.seq_new (K.buildSlice (bsC)) rfl ?_
  intro b4
  try dsimp only [setd, setn, ev, nth, over, cl, eI, eP, eT, List.map, List.append, List.drop, List.take]
  refine K.seq_pure (K.build (bl79 _ _)) rfl ?_
  try dsimp only [setd, setn, ev, nth, over, cl, eI, eP, eT, List.map, List.append, List.drop, List.take]
  refine K.seq_pure (K.build (bl79 _ _)) rfl ?_
  try dsimp only [setd, setn, ev, nth, over, cl, eI, eP, eT, List.map, List.append, List.drop, List.take]
  refine K.seq_pure (K.build (bl79 _ _)) rfl ?_
  try dsimp only [setd, setn, ev, nth, over, cl, eI, eP, eT, List.map, List.append, List.drop, List.take]
  refine K.seq_new (K.buildSlice (bsR _ _ _ _ _ _)) rfl ?_
  intro b8
  try dsimp only [setd, setn, ev, nth, over, cl, eI, eP, eT, List.map, List.append, List.drop, List.take]
  refine K.seq_pure (K.build (bl25 _ _ _ _ _ _ _)) rfl ?_
  try dsimp only [setd, setn, ev, nth, over, cl, eI, eP, eT, List.map, List.append, List.drop, List.take]
  refine K.seq_st (K.store_all sz_25 rfl rfl rfl rfl (K.rp2)) rfl ?_
  try dsimp only [setd, setn, ev, nth, over, cl, eI, eP, eT, List.map, List.append, List.drop, List.take]
  refine K.seq_nil ?_
  refine K.norm_then ?_
  refine K.ret ?_
  refine K.end_ret (fun w hw => K.res_c rfl rfl (K.run_cellA ag_25 rfl (K.m2) rfl w hw)) ?_
  exact K.rets (b4, b8) trivial rfl (List.Sublist.cons_cons _ (List.Sublist.cons_cons _ (List.nil_sublist _)))

end Go.Proofs.Ytafkbioeoklldaa
