/-
  Walks of the program's functions, printed by program: what each returns.
  Conditions stand in each theorem.
-/
import Derived.Test.YtafkbioeoklldaaKf
import Derived.Test.YtafkbioeoklldaaK2
import Derived.WalkArith
import Derived.Test.YtafkbioeoklldaaK3
import Derived.Test.YtafkbioeoklldaaS1
import Derived.Test.YtafkbioeoklldaaWa
import Derived.Test.YtafkbioeoklldaaWd
import Derived.Test.YtafkbioeoklldaaWi
set_option linter.unusedSimpArgs false
set_option linter.unusedVariables false
namespace Go.Proofs.Ytafkbioeoklldaa
open Go.RowKit Go
open Go.K (setd setn ev nth over cl eI eP eT setM setF)
attribute [local irreducible] K.blk K.row

set_option maxRecDepth 100000 in
theorem c90  :
    R.Iter Try.prog 90 (fun x : Int × Int => Value.agg #[.int .i64 x.1, .int .i64 x.2]) SB := by
  intro lr J Jx f w hJa hJxa hf hR hJ0
  refine R.enter (args := [.func (.yield lr) #[] #[]]) Try.func90 rfl (m := 7) rfl ?_
  simp only [List.replicate, List.cons_append, List.nil_append]
  refine R.seq ?_
  refine R.region_lit rfl ?_
  refine K.seq_new (K.box) rfl ?_
  intro b1
  try dsimp only [setd, setn, ev, nth, over, cl, eI, eP, eT, List.map, List.append, List.drop, List.take]
  refine K.seq_nil ?_
  refine R.out ?_
  refine R.norm_then ?_
  refine R.seq ?_
  refine R.region_lit rfl ?_
  refine K.seq_new (K.alloc zr_63) rfl ?_
  intro b2
  try dsimp only [setd, setn, ev, nth, over, cl, eI, eP, eT, List.map, List.append, List.drop, List.take]
  refine K.seq_nil ?_
  refine R.out ?_
  refine R.norm_then ?_
  refine R.seq ?_
  refine R.region_lit rfl ?_
  refine K.seq_pure (K.mkFunc) rfl ?_
  try dsimp only [setd, setn, ev, nth, over, cl, eI, eP, eT, List.map, List.append, List.drop, List.take]
  refine K.seq_st (K.store sz_63 rfl rfl rfl rfl (K.rp0)) rfl ?_
  try dsimp only [setd, setn, ev, nth, over, cl, eI, eP, eT, List.map, List.append, List.drop, List.take]
  refine K.seq_nil ?_
  refine R.out ?_
  refine R.norm_then ?_
  refine R.lregion ?_
  refine R.lseq_sil (K.load1_own one_63 rfl (K.m0) rfl) rfl rfl ?_
  try dsimp only [setd, setn, ev, nth, over, cl, eI, eP, eT, List.map, List.append, List.drop, List.take]
  refine R.lseq_pure (K.build (bl27 _ _)) rfl rfl ?_
  try dsimp only [setd, setn, ev, nth, over, cl, eI, eP, eT, List.map, List.append, List.drop, List.take]
  refine R.lseq_pure (K.build (bl27 _ _)) rfl rfl ?_
  try dsimp only [setd, setn, ev, nth, over, cl, eI, eP, eT, List.map, List.append, List.drop, List.take]
  refine R.lseq_wild (first := []) (cap := [.pointer (some ⟨b2, 0, none⟩), .pointer (some ⟨b1, 0, none⟩)]) (post := fun w' bb w1 => R.Step SB J Jx SB.length 0 f w' bb w1) rfl cal_91 rfl (fun w' hw' => c91 hR hJa hJxa 60 (0, 1) (1, 0) 0 f w' (by decide) (by decide) (by decide) (by decide) (hJa _ _ _ _ hJ0 hw'.1) (fun i hi => Nat.lt_of_lt_of_le (hf i hi) hw'.1.size) (R.Own1.blk hw' (K.m0) hf) (R.Own1.blk hw' (K.m1) hf) (fun i x hi => by rw [Nat.zero_add]; exact hi)) ?_
  intro w1 hw1 bb w2 hst
  try dsimp only [setd, setn, ev, nth, over, cl, eI, eP, eT, List.map, List.append, List.drop, List.take]
  refine R.lseq_nil ?_
  refine R.end_normal (fun w _ => K.res_none rfl w) ?_
  intro w3 hw3
  refine ⟨⟨_, rfl⟩, ?_⟩
  rcases hst with ⟨_, f', h1, _⟩ | ⟨_, k', f', h1, h2⟩
  · rw [Nat.zero_add] at h1; exact .inl ⟨f', hJa _ _ _ _ h1 hw3.1⟩
  · exact .inr ⟨k', f', h1, hJxa _ _ _ _ h2 hw3.1⟩

set_option maxRecDepth 100000 in
theorem c67 (w : World) :
    Calls Try.prog 67 [].toArray w (K.Gives (.func (.func 90) #[] #[]) w) := by
  refine K.enter (args := []) Try.func67 rfl (n := 1) rfl ?_
  simp only [List.replicate, List.cons_append, List.nil_append]
  refine K.seq ?_
  refine K.region_lit ?_
  refine K.seq_pure (K.assign) rfl ?_
  dsimp only [setd, setn, ev, nth]
  refine K.seq_nil ?_
  refine K.norm_then ?_
  refine K.seq ?_
  refine K.region_lit ?_
  refine K.seq_pure (K.assign) rfl ?_
  dsimp only [setd, setn, ev, nth]
  refine K.seq_nil ?_
  refine K.norm_then ?_
  refine K.ret ?_
  refine K.end_ret (fun w _ => K.res_tmp rfl w) ?_
  exact K.gives rfl

end Go.Proofs.Ytafkbioeoklldaa
