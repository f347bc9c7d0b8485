/-
  Lemmas and walks of functions, joined and with only what the claim needs.
  Conditions stand in each theorem.
-/
import Derived.Test.YtfbglomliankmaaProg
import Derived.Test.YtfbglomliankmaaRows
import Derived.Below
import Derived.Laws.AppendOwn
import Derived.Laws.Rows
import Derived.Laws.Slices
import Derived.Tactics
import Derived.OrdersHeld
import Derived.KernelRfl
import Derived.WalkKit
import Derived.Deep.AppendLies
import Derived.IntWalk
import Derived.Scope
import Derived.WalkSpells
import Derived.DeepKeys
import Derived.Deep.Upon
import Derived.Laws.Small
import Derived.RangeFuncLeaves
import Derived.RangeFuncSeq
import Derived.OrdersIn
import Derived.Sort.LoopGhostIn
import Derived.TacticsIn
import Derived.RangeFuncOwn
import Derived.WideKeyMaps
import Derived.DeepKeys4
import Derived.Carry
import Derived.Laws.CopyRow
import Derived.Laws.MakeOwn
import Derived.WalkArith
import Derived.Laws.Closers25b
import Derived.ProofKit
import Derived.OpenShut
import Derived.ChangeOld
import Derived.SizedLaws
import Derived.Deep.Slices
import Derived.Deep.Fields
import Derived.ChangeSame
import Derived.Lib.SmallJoins
import Derived.Test.YtfbglomliankmaaZc
section
set_option linter.unusedSimpArgs false
set_option linter.unusedVariables false
namespace Go.Proofs.Ytfbglomliankmaa.Cv
open Go.RowKit Go
open Go.K (setd setn ev nth over cl eI eP eT setM setF)
attribute [local irreducible] K.blk K.row

set_option maxRecDepth 100000 in
theorem c75 {st : Int} {ps : List CvT} {A : Option Addr} {c : Nat} (w : World) :
    Calls Try.prog 75 [.agg #[.int .i64 st, .slice A ps.length c]].toArray w (K.Ret (fun _ : Nat => True) (fun q => .func (.func 95) #[] #[.pointer (some ⟨q, 0, none⟩)]) (fun q => [K.blk q 103 [.int .i64 st, .slice A ps.length c]]) w) := by
  refine K.enter (args := [.agg #[.int .i64 st, .slice A ps.length c]]) Try.func75 rfl (n := 3) rfl ?_
  simp only [List.replicate, List.cons_append, List.nil_append]
  refine K.seq ?_
  refine K.region_lit ?_
  refine K.seq_new (K.box) rfl ?_
  intro b1
  try dsimp only [setd, setn, ev, nth, over, cl, eI, eP, eT, eC, List.map, List.append, List.drop, List.take]
  refine K.seq_pure (K.assign) rfl ?_
  dsimp only [setd, setn, ev, nth]
  refine K.seq_nil ?_
  refine K.norm_then ?_
  refine K.seq ?_
  refine K.region_lit ?_
  refine K.seq_pure (K.mkFunc) rfl ?_
  try dsimp only [setd, setn, ev, nth, over, cl, eI, eP, eT, eC, List.map, List.append, List.drop, List.take]
  refine K.seq_pure (K.assign) rfl ?_
  dsimp only [setd, setn, ev, nth]
  refine K.seq_nil ?_
  refine K.norm_then ?_
  refine K.ret ?_
  refine K.end_ret (fun w _ => K.res_tmp rfl w) ?_
  exact K.rets_v b1 trivial rfl rfl (List.Sublist.refl _)

set_option maxRecDepth 100000 in
set_option maxHeartbeats 1000000 in
theorem c95 {st : Int} {ps : List CvT} {A : Option Addr} {c : Nat} {b : Nat} (hn1 : 1 ≤ ps.length) (hn9 : ps.length ≤ 1000) :
    R.IterX Try.prog 95 [] [.pointer (some ⟨b, 0, none⟩)] b (fun f w => w.heap[b]? = some (.cells #[.int .i64 st, .slice A ps.length c] 103 (0, 0))) (fun x : Nat × Nat => [Value.int .i64 (x.1 : Int), Value.int .i64 (x.2 : Int)]) (nbs ps.length) := by
  intro lr B0 J Jx f w hB hbl hJa hJxa hJb hJxb hf hnf hR hJ0 hpre
  have h1 := R.heap_ptr hpre
  refine R.enter (args := [.func (.yield lr) #[] #[], .pointer (some ⟨b, 0, none⟩)]) Try.func95 rfl (m := 32) rfl ?_
  simp only [List.replicate, List.cons_append, List.nil_append]
  refine R.seq ?_
  refine R.seq ?_
  refine R.region_lit rfl ?_
  refine K.seq_pure (K.assign) rfl ?_
  dsimp only [setd, setn, ev, nth]
  refine K.seq_nil ?_
  refine R.out ?_
  refine R.norm_then ?_
  refine R.block ?_
  refine R.loopY [3] [5, 6, 7, 8, 9, 10, 11, 12, 13, 14, 15, 16, 17, 18] (fun vi W => ∃ (k : Nat) (f1 : Nat → Prop), vi = [.int .i64 ((k : Int) + 1)] ∧ k ≤ ps.length - 1 ∧ J (k) f1 W ∧ (∀ i, f1 i → i < W.heap.size) ∧ ¬ f1 b ∧ W.heap[b]? = some (.cells #[.int .i64 st, .slice A ps.length c] 103 (0, 0))) (fun vi => ps.length - (intOf (K.nth vi 0)).toNat) ?_ ?_
  · intro w1 hw1
    exact ⟨0, f, rfl, by omega, hJa.below hJ0 hf hB hw1.1, fun i hi => Nat.lt_of_lt_of_le (hf i hi) hw1.1.size, hnf, (hw1.1.block b (K.lt_of_some hpre)).trans hpre⟩
  intro vi vr W hJ
  obtain ⟨k, f1, rfl, hkn, hJ1, hfb, hnb, hbx⟩ := hJ
  have h1 := R.heap_ptr hbx
  try dsimp only [setd, setn, ev, nth, over, cl, eI, eP, eT, eC, setM, setF, List.map, List.append, List.drop, List.take]
  refine R.seq ?_
  refine R.seq ?_
  refine R.region_lit rfl ?_
  refine K.seq_pure (K.move) rfl ?_
  dsimp only [setd, setn, ev, nth]
  refine K.seq_pure (K.fieldAddr_lit fo_103_0 rfl) rfl ?_
  dsimp only [setd, setn, ev, nth]
  refine K.seq_pure (K.fieldAddr_lit fo_24_1 rfl) rfl ?_
  dsimp only [setd, setn, ev, nth]
  refine K.seq_sil (K.load_at one_22 rfl (h1.any) rfl) rfl ?_
  try dsimp only [setd, setn, ev, nth, over, cl, eI, eP, eT, eC, List.map, List.append, List.drop, List.take]
  refine K.seq_pure (K.len_sl sl_22 rfl) rfl ?_
  dsimp only [setd, setn, ev, nth]
  refine K.seq_pure (K.lss rfl rfl) rfl ?_
  dsimp only [setd, setn, ev, nth]
  refine K.seq_nil ?_
  refine R.out ?_
  refine R.norm_then ?_
  refine R.cond rfl (fun ht10 => ?_) (fun ht10 => ?_)
  · try replace ht10 := of_decide_eq_true ht10
    refine R.skip ?_
    refine R.norm_then ?_
    refine R.seq ?_
    refine R.block ?_
    refine R.seq ?_
    refine R.lregion ?_
    refine R.lseq_pure (K.move) rfl rfl ?_
    dsimp only [setd, setn, ev, nth]
    refine R.lseq_pure (K.move) rfl rfl ?_
    dsimp only [setd, setn, ev, nth]
    refine R.lseq_pure (K.Pure.eq (K.sub_i64 rfl rfl (by omega)) (show _ = Value.int .i64 ((k : Nat) : Int) from congrArg (Value.int .i64) (by omega))) rfl rfl ?_
    dsimp only [setd, setn, ev, nth]
    refine R.lseq_pure (K.Pure.eq (K.move) (show _ = Value.int .i64 ((k + 1 : Nat) : Int) from congrArg (Value.int .i64) (by omega))) rfl rfl ?_
    dsimp only [setd, setn, ev, nth]
    refine R.lseq_yield2 rfl rfl rfl (fun w1 hw1 => R.yield_steps hR (nbs_up (n := ps.length) (k := k) (by omega)) (hJa.below hJ1 hfb (hJb _ _ _ hJ1) hw1.1)) ?_
    intro w1 hw1 bb w2 hst
    try dsimp only [setd, setn, ev, nth, over, cl, eI, eP, eT, eC, List.map, List.append, List.drop, List.take]
    first | refine R.lseq_pure (K.not_d rfl) rfl rfl ?_ | refine R.lseq_pure (K.not_ rfl) rfl rfl ?_
    try dsimp only [setd, setn, ev, nth, over, cl, eI, eP, eT, eC, List.map, List.append, List.drop, List.take]
    refine R.lseq_nil ?_
    refine R.norm_then ?_
    refine R.cond rfl (fun ht18 => ?_) (fun ht18 => ?_)
    · try replace ht18 := of_decide_eq_true ht18
      refine R.ret ?_
      refine R.ret_block ?_
      refine R.ret_then ?_
      refine R.ret_then ?_
      refine R.ret_block ?_
      refine R.ret_then ?_
      refine R.end_ret (fun w _ => K.res_none rfl w) ?_
      intro w3 hw3
      refine ⟨⟨_, rfl⟩, .inr ?_⟩
      have hbf : bb = false := by simpa using ht18
      subst hbf
      rcases hst with ⟨h, _⟩ | ⟨_, k2, f2, hk2, hJ2, hkp, _, hf2⟩
      · cases h
      exact ⟨k2, f2, hk2, hJxa.below hJ2 hf2 (hJxb _ _ _ hJ2) hw3.1⟩
    try replace ht18 := of_decide_eq_false ht18
    have hbt : bb = true := by simpa using ht18
    subst hbt
    rcases hst with ⟨_, f2, hJ2, hk2, _, hf2⟩ | ⟨h, _⟩
    case inr => cases h
    have ek := ((R.Keep.below (f := f1) hw1.1).trans hk2)
    have hB2 := hJb _ _ _ hJ2
    have hbx2 : w2.heap[b]? = some (.cells #[.int .i64 st, .slice A ps.length c] 103 (0, 0)) := (ek b (K.lt_of_some hbx) hnb).2.trans hbx
    have h1 := R.heap_ptr hbx2
    refine R.skip ?_
    refine R.norm_block ?_
    refine R.norm_then ?_
    refine R.region_lit rfl ?_
    refine K.seq_pure (K.move) rfl ?_
    dsimp only [setd, setn, ev, nth]
    refine K.seq_pure (K.add_i64 rfl rfl (by omega)) rfl ?_
    dsimp only [setd, setn, ev, nth]
    refine K.seq_pure (K.assign) rfl ?_
    dsimp only [setd, setn, ev, nth]
    refine K.seq_nil ?_
    refine R.out ?_
    refine R.roundY [.int .i64 ((k : Int) + 1 + 1)] (fun w4 hw4 => ?_) (by simp [K.nth, intOf]; omega) (by kernel_rfl)
    exact ⟨k + 1, f2, congrArg (fun z : Int => [Value.int .i64 z]) (by omega), by omega, hJa.below hJ2 hf2 hB2 hw4.1, fun i hi => Nat.lt_of_lt_of_le (hf2 i hi) hw4.1.size, (ek b (K.lt_of_some hbx) hnb).1, (hw4.1.block b (K.lt_of_some hbx2)).trans hbx2⟩
  try replace ht10 := of_decide_eq_false ht10
  refine R.exit ?_
  refine R.exit_then ?_
  refine R.exit_then ?_
  refine R.exit_here ?_
  refine R.norm_then ?_
  refine R.seq ?_
  refine R.region_lit rfl ?_
  refine K.seq_pure (K.fieldAddr_lit fo_103_0 rfl) rfl ?_
  dsimp only [setd, setn, ev, nth]
  refine K.seq_pure (K.fieldAddr_lit fo_24_1 rfl) rfl ?_
  dsimp only [setd, setn, ev, nth]
  refine K.seq_sil (K.load_at one_22 rfl (h1.any) rfl) rfl ?_
  try dsimp only [setd, setn, ev, nth, over, cl, eI, eP, eT, eC, List.map, List.append, List.drop, List.take]
  refine K.seq_pure (K.len_sl sl_22 rfl) rfl ?_
  dsimp only [setd, setn, ev, nth]
  refine K.seq_pure (K.sub_i64 rfl rfl (by omega)) rfl ?_
  dsimp only [setd, setn, ev, nth]
  refine K.seq_pure (K.assign) rfl ?_
  dsimp only [setd, setn, ev, nth]
  refine K.seq_nil ?_
  refine R.out ?_
  refine R.norm_then ?_
  refine R.block ?_
  refine R.loopY [4] [24, 25, 26, 27, 28, 29, 30, 31, 32, 33] (fun vi W => ∃ (k : Nat) (f1 : Nat → Prop), vi = [.int .i64 (((ps.length - 1 - k : Nat) : Int))] ∧ k ≤ ps.length - 1 ∧ J (ps.length - 1 + k) f1 W ∧ (∀ i, f1 i → i < W.heap.size) ∧ ¬ f1 b ∧ W.heap[b]? = some (.cells #[.int .i64 st, .slice A ps.length c] 103 (0, 0))) (fun vi => (intOf (K.nth vi 0)).toNat) ?_ ?_
  · intro w1 hw1
    have e0 : k = ps.length - 1 := by omega
    refine ⟨0, f1, congrArg (fun z : Int => [Value.int .i64 z]) (by omega), by omega, ?_, fun i hi => Nat.lt_of_lt_of_le (hfb i hi) hw1.1.size, hnb, (hw1.1.block b (K.lt_of_some hbx)).trans hbx⟩
    rw [Nat.add_zero, ← e0]
    exact hJa.below hJ1 hfb (hJb _ _ _ hJ1) hw1.1
  intro vi vr W hJ
  clear hkn hJ1 hfb hnb hbx h1
  obtain ⟨k, f1, rfl, hkn, hJ1, hfb, hnb, hbx⟩ := hJ
  have h1 := R.heap_ptr hbx
  try dsimp only [setd, setn, ev, nth, over, cl, eI, eP, eT, eC, setM, setF, List.map, List.append, List.drop, List.take]
  refine R.seq ?_
  refine R.seq ?_
  refine R.region_lit rfl ?_
  refine K.seq_pure (K.move) rfl ?_
  dsimp only [setd, setn, ev, nth]
  refine K.seq_pure (K.gtr rfl rfl) rfl ?_
  dsimp only [setd, setn, ev, nth]
  refine K.seq_nil ?_
  refine R.out ?_
  refine R.norm_then ?_
  refine R.cond rfl (fun ht25 => ?_) (fun ht25 => ?_)
  · try replace ht25 := of_decide_eq_true ht25
    refine R.skip ?_
    refine R.norm_then ?_
    refine R.seq ?_
    refine R.block ?_
    refine R.seq ?_
    refine R.lregion ?_
    refine R.lseq_pure (K.move) rfl rfl ?_
    dsimp only [setd, setn, ev, nth]
    refine R.lseq_pure (K.move) rfl rfl ?_
    dsimp only [setd, setn, ev, nth]
    refine R.lseq_pure (K.move) rfl rfl ?_
    dsimp only [setd, setn, ev, nth]
    refine R.lseq_pure (K.Pure.eq (K.sub_i64 rfl rfl (by omega)) (show _ = Value.int .i64 ((ps.length - 1 - k - 1 : Nat) : Int) from congrArg (Value.int .i64) (by omega))) rfl rfl ?_
    dsimp only [setd, setn, ev, nth]
    refine R.lseq_yield2 rfl rfl rfl (fun w1 hw1 => R.yield_steps hR (nbs_dn (n := ps.length) (k := k) (by omega)) (hJa.below hJ1 hfb (hJb _ _ _ hJ1) hw1.1)) ?_
    intro w1 hw1 bb w2 hst
    try dsimp only [setd, setn, ev, nth, over, cl, eI, eP, eT, eC, List.map, List.append, List.drop, List.take]
    first | refine R.lseq_pure (K.not_d rfl) rfl rfl ?_ | refine R.lseq_pure (K.not_ rfl) rfl rfl ?_
    try dsimp only [setd, setn, ev, nth, over, cl, eI, eP, eT, eC, List.map, List.append, List.drop, List.take]
    refine R.lseq_nil ?_
    refine R.norm_then ?_
    refine R.cond rfl (fun ht33 => ?_) (fun ht33 => ?_)
    · try replace ht33 := of_decide_eq_true ht33
      refine R.ret ?_
      refine R.ret_block ?_
      refine R.ret_then ?_
      refine R.ret_then ?_
      refine R.ret_block ?_
      refine R.end_ret (fun w _ => K.res_none rfl w) ?_
      intro w3 hw3
      refine ⟨⟨_, rfl⟩, .inr ?_⟩
      have hbf : bb = false := by simpa using ht33
      subst hbf
      rcases hst with ⟨h, _⟩ | ⟨_, k2, f2, hk2, hJ2, hkp, _, hf2⟩
      · cases h
      exact ⟨k2, f2, hk2, hJxa.below hJ2 hf2 (hJxb _ _ _ hJ2) hw3.1⟩
    try replace ht33 := of_decide_eq_false ht33
    have hbt : bb = true := by simpa using ht33
    subst hbt
    rcases hst with ⟨_, f2, hJ2, hk2, _, hf2⟩ | ⟨h, _⟩
    case inr => cases h
    have ek := ((R.Keep.below (f := f1) hw1.1).trans hk2)
    have hB2 := hJb _ _ _ hJ2
    have hbx2 : w2.heap[b]? = some (.cells #[.int .i64 st, .slice A ps.length c] 103 (0, 0)) := (ek b (K.lt_of_some hbx) hnb).2.trans hbx
    have h1 := R.heap_ptr hbx2
    refine R.skip ?_
    refine R.norm_block ?_
    refine R.norm_then ?_
    refine R.region_lit rfl ?_
    refine K.seq_pure (K.move) rfl ?_
    dsimp only [setd, setn, ev, nth]
    refine K.seq_pure (K.sub_i64 rfl rfl (by omega)) rfl ?_
    dsimp only [setd, setn, ev, nth]
    refine K.seq_pure (K.assign) rfl ?_
    dsimp only [setd, setn, ev, nth]
    refine K.seq_nil ?_
    refine R.out ?_
    refine R.roundY [.int .i64 (((ps.length - 1 - k : Nat) : Int) - 1)] (fun w4 hw4 => ?_) (by simp [K.nth, intOf]; omega) (by kernel_rfl)
    exact ⟨k + 1, f2, congrArg (fun z : Int => [Value.int .i64 z]) (by omega), by omega, hJa.below hJ2 hf2 hB2 hw4.1, fun i hi => Nat.lt_of_lt_of_le (hf2 i hi) hw4.1.size, (ek b (K.lt_of_some hbx) hnb).1, (hw4.1.block b (K.lt_of_some hbx2)).trans hbx2⟩
  try replace ht25 := of_decide_eq_false ht25
  refine R.exit ?_
  refine R.exit_then ?_
  refine R.exit_then ?_
  refine R.exit_here ?_
  refine R.end_normal (fun w _ => K.res_none rfl w) ?_
  intro w3 hw3
  refine ⟨⟨_, rfl⟩, .inl ⟨f1, ?_⟩⟩
  have e0 : (nbs ps.length).length = ps.length - 1 + k := by rw [nbs_len]; omega
  rw [e0]
  exact hJa.below hJ1 hfb (hJb _ _ _ hJ1) hw3.1

end Go.Proofs.Ytfbglomliankmaa.Cv
end
section
set_option linter.unusedSimpArgs false
set_option linter.unusedVariables false
namespace Go.Proofs.Ytfbglomliankmaa.Cv
open Go.RowKit Go
open Go.K (setd setn ev nth over cl eI eP eT setM setF)
attribute [local irreducible] K.blk K.row
theorem mk2_48 : K.mk2 Try.prog 48 = some (52, 16, .int .i64 0, .int .i64 0) := by kernel_rfl
theorem eP_at0 {xs : List (Int × Int)} {k : Nat} (h : k < xs.length) : (List.drop 0 (xs.flatMap K.eP))[0 + k * 2 + 0]? = some (.int .i64 (xs.getD k default).1) := by
  rw [List.drop_zero, show 0 + k * 2 + 0 = k * 2 + 0 by omega, K.flat_at (e := K.eP) (size := 2) (fun _ => rfl) (by decide) xs k (xs.getD k default) (by rw [List.getD_eq_getElem?_getD, List.getElem?_eq_getElem h]; rfl)]
  rfl
theorem eP_at1 {xs : List (Int × Int)} {k : Nat} (h : k < xs.length) : (List.drop 0 (xs.flatMap K.eP))[0 + k * 2 + 1]? = some (.int .i64 (xs.getD k default).2) := by
  rw [List.drop_zero, show 0 + k * 2 + 1 = k * 2 + 1 by omega, K.flat_at (e := K.eP) (size := 2) (fun _ => rfl) (by decide) xs k (xs.getD k default) (by rw [List.getD_eq_getElem?_getD, List.getElem?_eq_getElem h]; rfl)]
  rfl
theorem eP_len {xs : List (Int × Int)} : (xs.flatMap K.eP).length = xs.length * 2 := K.flat_len (e := K.eP) (size := 2) (fun _ => rfl) xs
def iniS (ps : List CvT) (k : Nat) : List (Int × Int) := (List.range ps.length).map fun i => if i < k then ((ps.getD i default).lo, (ps.getD i default).hi) else (0, 0)
theorem ini_len {ps : List CvT} {k : Nat} : (iniS ps k).length = ps.length := by unfold iniS; simp
theorem ini_0 {ps : List CvT} : List.replicate ps.length ((0 : Int), (0 : Int)) = iniS ps 0 := by
  unfold iniS
  refine List.ext_getElem (by simp) fun i h1 h2 => ?_
  simp
theorem ini_set {ps : List CvT} {k : Nat} : (iniS ps k).set k ((ps.getD k default).lo, (ps.getD k default).hi) = iniS ps (k + 1) := by
  unfold iniS
  refine List.ext_getElem (by simp) fun i h1 h2 => ?_
  rw [List.getElem_set]
  simp only [List.getElem_map, List.getElem_range]
  by_cases e : k = i
  · subst e; rw [if_pos rfl, if_pos (by omega)]
  · rw [if_neg e]
    by_cases e2 : i < k
    · rw [if_pos e2, if_pos (by omega)]
    · rw [if_neg e2, if_neg (by omega)]
theorem ini_all {st : Int} {ps : List CvT} : iniS ps ps.length = bndF st ps 0 := by
  unfold iniS bndF
  rw [List.take_zero, List.foldl_nil]
  refine List.ext_getElem (by simp) fun i h1 h2 => ?_
  have hi : i < ps.length := by simpa using h2
  simp only [List.getElem_map, List.getElem_range]
  rw [if_pos hi, List.getD_eq_getElem?_getD, List.getElem?_eq_getElem hi]
  rfl
def bhf (st : Int) (l : List (Int × Int)) (i k : Nat) : List (Int × Int) := l.set k (max (l.getD k default).1 ((l.getD i default).1 - st), (l.getD k default).2)
theorem bhf_len {st : Int} {l : List (Int × Int)} {i k : Nat} : (bhf st l i k).length = l.length := by unfold bhf; rw [List.length_set]
theorem bhf_k {st : Int} {l : List (Int × Int)} {i k : Nat} (hk : k < l.length) : (bhf st l i k).getD k default = (max (l.getD k default).1 ((l.getD i default).1 - st), (l.getD k default).2) := by unfold bhf; rw [gd_set hk, if_pos rfl]
theorem bhf_i {st : Int} {l : List (Int × Int)} {i k : Nat} (hi : i < l.length) (hn : k ≠ i) : (bhf st l i k).getD i default = l.getD i default := by unfold bhf; rw [gd_set hi, if_neg hn]
theorem bst_two {st : Int} {l : List (Int × Int)} {i k : Nat} : (bhf st l i k).set k (max (l.getD k default).1 ((l.getD i default).1 - st), min (l.getD k default).2 ((l.getD i default).2 + st)) = bst st l i k := by
  unfold bhf bst; rw [List.set_set]

set_option maxRecDepth 100000 in
set_option maxHeartbeats 2000000 in
theorem c47 {st : Int} {ps : List CvT} {A : Option Addr} {c : Nat} {w : World} (hR : K.Rd w A 3 eC ps) (hbd : Bands ps) (hs0 : 0 ≤ st ∧ st ≤ 9000) (hn1 : 1 ≤ ps.length) (hn9 : ps.length ≤ 1000) :
    Calls Try.prog 47 [.agg #[.int .i64 st, .slice A ps.length c]].toArray w (K.Ret (fun _ : Nat => True) (fun b => .tuple #[.slice (some ⟨b, 0, none⟩) ps.length ps.length, .bool (someB st ps)]) (fun b => [K.blk b 52 ((bnd st ps).flatMap K.eP)]) w) := by
  have hbl2 := @bndF_len st ps (nbs ps.length).length
  refine R.enter (args := [.agg #[.int .i64 st, .slice A ps.length c]]) Try.func47 rfl (m := 77) rfl ?_
  simp only [List.replicate, List.cons_append, List.nil_append]
  refine R.seq ?_
  refine R.region_lit rfl ?_
  refine K.seq_new (K.box) rfl ?_
  intro b1
  try dsimp only [setd, setn, ev, nth, over, cl, eI, eP, eT, eC, List.map, List.append, List.drop, List.take]
  refine K.seq_pure (K.assign) rfl ?_
  dsimp only [setd, setn, ev, nth]
  refine K.seq_pure (K.assign) rfl ?_
  dsimp only [setd, setn, ev, nth]
  refine K.seq_nil ?_
  refine R.out ?_
  refine R.norm_then ?_
  refine R.seq ?_
  refine R.region_lit rfl ?_
  refine K.seq_pure (K.fieldAddr_lit fo_103_0 rfl) rfl ?_
  dsimp only [setd, setn, ev, nth]
  refine K.seq_pure (K.fieldAddr_lit fo_24_1 rfl) rfl ?_
  dsimp only [setd, setn, ev, nth]
  refine K.seq_sil (K.load1_own one_22 rfl (K.m0) rfl) rfl ?_
  try dsimp only [setd, setn, ev, nth, over, cl, eI, eP, eT, eC, List.map, List.append, List.drop, List.take]
  refine K.seq_pure (K.len_sl sl_22 rfl) rfl ?_
  dsimp only [setd, setn, ev, nth]
  refine K.seq_new (K.mkSlice2 (n := ps.length) mk2_48 rfl rfl (by omega) (by omega)) rfl ?_
  intro b13
  try dsimp only [setd, setn, ev, nth, over, cl, eI, eP, eT, eC, List.map, List.append, List.drop, List.take]
  rw [K.rep_int2, ini_0]
  try dsimp only [setd, setn, ev, nth, over, cl, eI, eP, eT, eC, List.map, List.append, List.drop, List.take]
  refine K.seq_new (K.alloc zr_48) rfl ?_
  intro b4
  try dsimp only [setd, setn, ev, nth, over, cl, eI, eP, eT, eC, List.map, List.append, List.drop, List.take]
  refine K.seq_st (K.store sz_48 rfl rfl rfl rfl (K.rp0)) rfl ?_
  try dsimp only [setd, setn, ev, nth, over, cl, eI, eP, eT, eC, List.map, List.append, List.drop, List.take]
  refine K.seq_nil ?_
  refine R.out ?_
  refine R.norm_then ?_
  refine R.seq ?_
  refine R.seq ?_
  refine R.region_lit rfl ?_
  refine K.seq_pure (K.fieldAddr_lit fo_103_0 rfl) rfl ?_
  dsimp only [setd, setn, ev, nth]
  refine K.seq_pure (K.fieldAddr_lit fo_24_1 rfl) rfl ?_
  dsimp only [setd, setn, ev, nth]
  refine K.seq_sil (K.load1_own one_22 rfl (K.m2) rfl) rfl ?_
  try dsimp only [setd, setn, ev, nth, over, cl, eI, eP, eT, eC, List.map, List.append, List.drop, List.take]
  refine K.seq_pure (K.len_sl sl_22 rfl) rfl ?_
  dsimp only [setd, setn, ev, nth]
  refine K.seq_pure (K.move) rfl ?_
  dsimp only [setd, setn, ev, nth]
  refine K.seq_nil ?_
  refine R.out ?_
  refine R.norm_then ?_
  refine R.block ?_
  refine R.loopW [18] [5, 6, 19, 20, 21, 22, 23, 24, 25, 26, 27, 28, 29, 30, 31] (fun vi L => ∃ k : Nat, vi = [.int .i64 (k : Int)] ∧ L = [K.blk b4 48 [.slice (some ⟨b13, 0, none⟩) ps.length ps.length], K.blk b13 52 ((iniS ps k).flatMap K.eP), K.blk b1 103 [.int .i64 st, .slice A ps.length c]] ∧ k ≤ ps.length) (fun vi => ps.length - (intOf (K.nth vi 0)).toNat) ?_ ?_
  · exact ⟨0, rfl, rfl, Nat.zero_le _⟩
  intro vi vr L hJ
  obtain ⟨k, rfl, rfl, hkn⟩ := hJ
  try dsimp only [setd, setn, ev, nth, over, cl, eI, eP, eT, eC, setM, setF, List.map, List.append, List.drop, List.take]
  refine R.seq ?_
  refine R.region_lit rfl ?_
  refine K.seq_pure (K.lss rfl rfl) rfl ?_
  dsimp only [setd, setn, ev, nth]
  refine K.seq_nil ?_
  refine R.out ?_
  refine R.norm_then ?_
  refine R.seq ?_
  refine R.cond rfl (fun ht19 => ?_) (fun ht19 => ?_)
  · try replace ht19 := of_decide_eq_true ht19
    have hk : k < ps.length := by omega
    have hpk := hbd k hk
    have hil := @ini_len ps k
    have hfit : 0 + k * 2 + 2 ≤ ((iniS ps k).flatMap K.eP).length := by rw [eP_len]; omega
    have hset : K.over ((iniS ps k).flatMap K.eP) (0 + k * 2) (K.cl (.agg #[.int .i64 (ps.getD k default).lo, .int .i64 (ps.getD k default).hi])) = (iniS ps (k + 1)).flatMap K.eP := by
      rw [← ini_set]
      exact K.set_cut0 (e := K.eP) (size := 2) (x := ((ps.getD k default).lo, (ps.getD k default).hi)) (fun _ => rfl) (by omega)
    refine R.skip ?_
    refine R.norm_then ?_
    refine R.seq ?_
    refine R.block ?_
    refine R.seq ?_
    refine R.region_lit rfl ?_
    refine K.seq_pure (K.move) rfl ?_
    dsimp only [setd, setn, ev, nth]
    refine K.seq_ix (M := []) _ hR.sl sl_22 rfl rfl rfl (by omega) rfl ?_
    intro p21 hp21
    try dsimp only [setd, setn, ev, nth, over, cl, eI, eP, eT, eC, List.map, List.append, List.drop, List.take]
    refine K.seq_sil (K.loadA_p ag_45 rfl (hp21.any) rfl) rfl ?_
    try dsimp only [setd, setn, ev, nth, over, cl, eI, eP, eT, eC, List.map, List.append, List.drop, List.take]
    refine K.seq_new (K.alloc zr_45) rfl ?_
    intro b6
    try dsimp only [setd, setn, ev, nth, over, cl, eI, eP, eT, eC, List.map, List.append, List.drop, List.take]
    refine K.seq_pure (K.assign) rfl ?_
    dsimp only [setd, setn, ev, nth]
    refine K.seq_st (K.store_all sz_45 rfl rfl rfl rfl (K.rp0)) rfl ?_
    try dsimp only [setd, setn, ev, nth, over, cl, eI, eP, eT, eC, List.map, List.append, List.drop, List.take]
    refine K.seq_nil ?_
    refine R.out ?_
    refine R.norm_then ?_
    refine R.region_lit rfl ?_
    refine K.seq_sil (K.load1_own one_48 rfl (K.m1) rfl) rfl ?_
    try dsimp only [setd, setn, ev, nth, over, cl, eI, eP, eT, eC, List.map, List.append, List.drop, List.take]
    refine K.seq_pure (K.move) rfl ?_
    dsimp only [setd, setn, ev, nth]
    refine K.seq_pure (K.fieldAddr_lit fo_45_1 rfl) rfl ?_
    dsimp only [setd, setn, ev, nth]
    refine K.seq_sil (K.load1_own one_3 rfl (K.m0) rfl) rfl ?_
    try dsimp only [setd, setn, ev, nth, over, cl, eI, eP, eT, eC, List.map, List.append, List.drop, List.take]
    refine K.seq_pure (K.fieldAddr_lit fo_45_2 rfl) rfl ?_
    dsimp only [setd, setn, ev, nth]
    refine K.seq_sil (K.load1_own one_3 rfl (K.m0) rfl) rfl ?_
    try dsimp only [setd, setn, ev, nth, over, cl, eI, eP, eT, eC, List.map, List.append, List.drop, List.take]
    refine K.seq_pure (K.build (bl52 _ _)) rfl ?_
    try dsimp only [setd, setn, ev, nth, over, cl, eI, eP, eT, eC, List.map, List.append, List.drop, List.take]
    refine K.seq_pure (K.Pure.eq (K.indexAddr_sl sl_48 rfl rfl (by omega) (by omega)) (show _ = Value.pointer (some ⟨b13, 0 + k * 2, none⟩) from by rw [K.add_lit, Int.toNat_natCast])) rfl ?_
    try dsimp only [setd, setn, ev, nth, over, cl, eI, eP, eT, eC, List.map, List.append, List.drop, List.take]
    try dsimp only [setd, setn, ev, nth, over, cl, eI, eP, eT, eC, List.map, List.append, List.drop, List.take]
    refine K.seq_st (K.store_ix (cs := (iniS ps k).flatMap K.eP) sz_52 rfl rfl hfit rfl (K.rpe K.rp2 (congrArg (K.blk b13 52) hset.symm))) rfl ?_
    try dsimp only [setd, setn, ev, nth, over, cl, eI, eP, eT, eC, List.map, List.append, List.drop, List.take]
    try dsimp only [setd, setn, ev, nth, over, cl, eI, eP, eT, eC, List.map, List.append, List.drop, List.take]
    refine K.seq_nil ?_
    refine R.out ?_
    refine R.norm_block ?_
    refine R.norm_then ?_
    refine R.region_lit rfl ?_
    refine K.seq_pure (K.add_i64 rfl rfl (by omega)) rfl ?_
    dsimp only [setd, setn, ev, nth]
    refine K.seq_pure (K.move) rfl ?_
    dsimp only [setd, setn, ev, nth]
    refine K.seq_nil ?_
    refine R.out ?_
    exact K.round_endW (L'' := [K.blk b4 48 [.slice (some ⟨b13, 0, none⟩) ps.length ps.length], K.blk b13 52 ((iniS ps (k + 1)).flatMap K.eP), K.blk b1 103 [.int .i64 st, .slice A ps.length c]]) [.int .i64 ((k : Int) + 1)] ⟨k + 1, rfl, rfl, by omega⟩ (by simp [K.nth, intOf]; omega) (List.Sublist.cons _ (List.Sublist.refl _)) (by kernel_rfl)
  try replace ht19 := of_decide_eq_false ht19
  have e0 : k = ps.length := by omega
  subst e0
  rw [ini_all (st := st)]
  refine R.exit ?_
  refine R.exit_then ?_
  refine R.exit_then ?_
  refine R.exit_here ?_
  refine R.norm_then ?_
  refine R.seq ?_
  refine R.seq ?_
  refine R.region_lit rfl ?_
  refine K.seq_sil (K.loadA_own ag_103 rfl (K.m2) rfl) rfl ?_
  try dsimp only [setd, setn, ev, nth, over, cl, eI, eP, eT, eC, List.map, List.append, List.drop, List.take]
  refine K.seq_loud (K.call_f cal_75 (fun F w hF hw => c75 w)) rfl ?_
  rintro q1 _
  try dsimp only [setd, setn, ev, nth, over, cl, eI, eP, eT, eC, List.map, List.append, List.drop, List.take]
  refine K.seq_nil ?_
  refine R.out ?_
  refine R.norm_then ?_
  refine R.block ?_
  refine R.rangeX (gf := 95) (first := []) (cap := [.pointer (some ⟨q1, 0, none⟩)]) (enc := (fun x : Nat × Nat => [Value.int .i64 (x.1 : Int), Value.int .i64 (x.2 : Int)])) (XS := nbs ps.length) (ps := [34, 35]) rfl cal_95 [K.blk b4 48 [.slice (some ⟨b13, 0, none⟩) ps.length ps.length], K.blk b13 52 ((bndF st ps 0).flatMap K.eP), K.blk b1 103 [.int .i64 st, .slice A ps.length c]] [] (K.st_perm (show List.Perm [K.blk q1 103 [.int .i64 st, .slice A ps.length c], K.blk b4 48 [.slice (some ⟨b13, 0, none⟩) ps.length ps.length], K.blk b13 52 ((bndF st ps 0).flatMap K.eP), K.blk b1 103 [.int .i64 st, .slice A ps.length c]] ([K.blk b4 48 [.slice (some ⟨b13, 0, none⟩) ps.length ps.length], K.blk b13 52 ((bndF st ps 0).flatMap K.eP), K.blk b1 103 [.int .i64 st, .slice A ps.length c]] ++ ([] ++ [K.blk q1 103 [.int .i64 st, .slice A ps.length c]])) from (List.Perm.trans (List.perm_middle (l₁ := [_])) (List.Perm.cons _ (List.Perm.trans (List.perm_middle (l₁ := [_])) (List.Perm.cons _ (List.Perm.trans (List.perm_middle (l₁ := [_])) (List.Perm.cons _ (List.Perm.refl _))))))))) R.fixN (fun _ => rfl) (c95 (st := st) (A := A) (c := c) (b := q1) hn1 hn9) (fun f w hf hb => hb) (fun k L => L = [K.blk b4 48 [.slice (some ⟨b13, 0, none⟩) ps.length ps.length], K.blk b13 52 ((bndF st ps k).flatMap K.eP), K.blk b1 103 [.int .i64 st, .slice A ps.length c]]) (fun cX L => False) ?_ ?_ ?_ ?_
  · rfl
  · intro k s L lr E hs hE hJ
    subst hJ
    have hnb := nbs_in hs
    have hbs := bndF_succ (st := st) hs
    have hbl := @bndF_len st ps k
    have hkl := (List.getElem?_eq_some_iff.1 hs).1
    have hin1 := bndF_in hbd hs0.1 k (by omega) s.1 hnb.1
    have hin2 := bndF_in hbd hs0.1 k (by omega) s.2 hnb.2.1
    have hp1 := hbd s.1 hnb.1
    have hp2 := hbd s.2 hnb.2.1
    have hc1 := eP_at0 (xs := (bndF st ps k)) (k := s.2) (by omega)
    have hc2 := eP_at0 (xs := (bndF st ps k)) (k := s.1) (by omega)
    have hne : s.2 ≠ s.1 := by omega
    have hb1l := @bhf_len st (bndF st ps k) s.1 s.2
    have hc3 := eP_at1 (xs := (bhf st (bndF st ps k) s.1 s.2)) (k := s.2) (by omega)
    rw [bhf_k (by omega)] at hc3
    have hc4 := eP_at1 (xs := (bhf st (bndF st ps k) s.1 s.2)) (k := s.1) (by omega)
    rw [bhf_i (by omega) hne] at hc4
    have hfit1 : 0 + s.2 * 2 + 0 + 1 ≤ ((bndF st ps k).flatMap K.eP).length := by rw [eP_len]; omega
    have hfit2 : 0 + s.2 * 2 + 1 + 1 ≤ ((bhf st (bndF st ps k) s.1 s.2).flatMap K.eP).length := by rw [eP_len]; omega
    have hst1 : K.over ((bndF st ps k).flatMap K.eP) (0 + s.2 * 2 + 0) (K.cl (.int .i64 (max ((bndF st ps k).getD s.2 default).1 (((bndF st ps k).getD s.1 default).1 - st)))) = (bhf st (bndF st ps k) s.1 s.2).flatMap K.eP := K.set_fld (e := K.eP) (size := 2) (j := 0) (us := [.int .i64 (max ((bndF st ps k).getD s.2 default).1 (((bndF st ps k).getD s.1 default).1 - st))]) (x' := (max ((bndF st ps k).getD s.2 default).1 (((bndF st ps k).getD s.1 default).1 - st), ((bndF st ps k).getD s.2 default).2)) (fun _ => rfl) (Nat.le_of_ble_eq_true rfl) (by omega) rfl
    have hst2 : K.over ((bhf st (bndF st ps k) s.1 s.2).flatMap K.eP) (0 + s.2 * 2 + 1) (K.cl (.int .i64 (min ((bndF st ps k).getD s.2 default).2 (((bndF st ps k).getD s.1 default).2 + st)))) = (bndF st ps (k + 1)).flatMap K.eP := by
      rw [hbs, ← bst_two]
      exact K.set_fld (e := K.eP) (size := 2) (j := 1) (us := [.int .i64 (min ((bndF st ps k).getD s.2 default).2 (((bndF st ps k).getD s.1 default).2 + st))]) (x' := (max ((bndF st ps k).getD s.2 default).1 (((bndF st ps k).getD s.1 default).1 - st), min ((bndF st ps k).getD s.2 default).2 (((bndF st ps k).getD s.1 default).2 + st))) (fun _ => rfl) (Nat.le_of_ble_eq_true rfl) (by omega) (by rw [bhf_k (by omega)]; rfl)
    dsimp only [R.setP]
    try dsimp only [List.cons_append, List.nil_append]
    try dsimp only [setd, setn, ev, nth, over, cl, eI, eP, eT, eC, setM, setF, List.map, List.append, List.drop, List.take]
    refine R.seq ?_
    refine R.region_lit rfl ?_
    refine K.seq_pure (K.assign) rfl ?_
    dsimp only [setd, setn, ev, nth]
    refine K.seq_nil ?_
    refine R.out ?_
    refine R.norm_then ?_
    refine R.region_lit rfl ?_
    refine K.seq_pure (K.assign) rfl ?_
    dsimp only [setd, setn, ev, nth]
    refine K.seq_nil ?_
    refine R.out ?_
    refine R.norm_then ?_
    refine R.bodyC' rfl (fun E hE => ?_)
    dsimp only [List.dropLast, List.cons_append, List.nil_append]
    try dsimp only [setd, setn, ev, nth, over, cl, eI, eP, eT, eC, List.map, List.append, List.drop, List.take]
    refine R.block ?_
    refine R.seq ?_
    refine R.draw_L [19] Try_mixed rfl ?_
    refine K.d_mem 0 rfl (K.load1_own one_48 rfl (K.m0) rfl) (fun _ h => h) (by kernel_rfl) (by kernel_rfl) rfl ?_
    try dsimp only [setd, setn, ev, nth, over, cl, eI, eP, eT, eC, List.map, List.append, List.drop, List.take]
    refine K.d_pure 1 rfl (K.move) (by kernel_rfl) rfl ?_
    dsimp only [setd, setn, ev, nth]
    refine K.d_mem 2 rfl (K.load1_own one_48 rfl (K.m0) rfl) (fun _ h => h) (by kernel_rfl) (by kernel_rfl) rfl ?_
    try dsimp only [setd, setn, ev, nth, over, cl, eI, eP, eT, eC, List.map, List.append, List.drop, List.take]
    refine K.d_pure 3 rfl (K.move) (by kernel_rfl) rfl ?_
    dsimp only [setd, setn, ev, nth]
    refine K.d_pure 4 rfl (K.Pure.eq (K.indexAddr_sl sl_48 rfl rfl (by omega) (by omega)) (show _ = Value.pointer (some ⟨b13, 0 + s.2 * 2, none⟩) from by rw [K.add_lit, Int.toNat_natCast])) (by kernel_rfl) rfl ?_
    try dsimp only [setd, setn, ev, nth, over, cl, eI, eP, eT, eC, List.map, List.append, List.drop, List.take]
    try dsimp only [setd, setn, ev, nth, over, cl, eI, eP, eT, eC, List.map, List.append, List.drop, List.take]
    refine K.d_pure 5 rfl (K.Pure.eq (K.fieldAddr fo_52_0 rfl) (show _ = Value.pointer (some ⟨b13, 0 + s.2 * 2 + 0, none⟩) from by rw [K.add_lit])) (by kernel_rfl) rfl ?_
    dsimp only [setd, setn, ev, nth]
    refine K.d_mem 6 rfl (K.load_at one_3 rfl (K.PtrL.own' ((K.m1))) hc1) (fun _ h => h) (by kernel_rfl) (by kernel_rfl) rfl ?_
    try dsimp only [setd, setn, ev, nth, over, cl, eI, eP, eT, eC, List.map, List.append, List.drop, List.take]
    refine K.d_mem 7 rfl (K.load1_own one_48 rfl (K.m0) rfl) (fun _ h => h) (by kernel_rfl) (by kernel_rfl) rfl ?_
    try dsimp only [setd, setn, ev, nth, over, cl, eI, eP, eT, eC, List.map, List.append, List.drop, List.take]
    refine K.d_pure 8 rfl (K.move) (by kernel_rfl) rfl ?_
    dsimp only [setd, setn, ev, nth]
    refine K.d_pure 9 rfl (K.Pure.eq (K.indexAddr_sl sl_48 rfl rfl (by omega) (by omega)) (show _ = Value.pointer (some ⟨b13, 0 + s.1 * 2, none⟩) from by rw [K.add_lit, Int.toNat_natCast])) (by kernel_rfl) rfl ?_
    try dsimp only [setd, setn, ev, nth, over, cl, eI, eP, eT, eC, List.map, List.append, List.drop, List.take]
    try dsimp only [setd, setn, ev, nth, over, cl, eI, eP, eT, eC, List.map, List.append, List.drop, List.take]
    refine K.d_pure 10 rfl (K.Pure.eq (K.fieldAddr fo_52_0 rfl) (show _ = Value.pointer (some ⟨b13, 0 + s.1 * 2 + 0, none⟩) from by rw [K.add_lit])) (by kernel_rfl) rfl ?_
    dsimp only [setd, setn, ev, nth]
    refine K.d_mem 11 rfl (K.load_at one_3 rfl (K.PtrL.own' ((K.m1))) hc2) (fun _ h => h) (by kernel_rfl) (by kernel_rfl) rfl ?_
    try dsimp only [setd, setn, ev, nth, over, cl, eI, eP, eT, eC, List.map, List.append, List.drop, List.take]
    refine K.d_pure 12 rfl (K.fieldAddr_lit fo_103_0 rfl) (by kernel_rfl) rfl ?_
    dsimp only [setd, setn, ev, nth]
    refine K.d_pure 13 rfl (K.fieldAddr_lit fo_24_0 rfl) (by kernel_rfl) rfl ?_
    dsimp only [setd, setn, ev, nth]
    refine K.d_mem 14 rfl (K.load1_own one_3 rfl (K.m2) rfl) (fun _ h => h) (by kernel_rfl) (by kernel_rfl) rfl ?_
    try dsimp only [setd, setn, ev, nth, over, cl, eI, eP, eT, eC, List.map, List.append, List.drop, List.take]
    refine K.d_pure 15 rfl (K.sub_i64 rfl rfl (by omega)) (by kernel_rfl) rfl ?_
    dsimp only [setd, setn, ev, nth]
    refine K.d_pure 16 rfl (K.max_int rfl rfl) (by kernel_rfl) rfl ?_
    dsimp only [setd, setn, ev, nth]
    refine K.d_pure 17 rfl (K.Pure.eq (K.indexAddr_sl sl_48 rfl rfl (by omega) (by omega)) (show _ = Value.pointer (some ⟨b13, 0 + s.2 * 2, none⟩) from by rw [K.add_lit, Int.toNat_natCast])) (by kernel_rfl) rfl ?_
    try dsimp only [setd, setn, ev, nth, over, cl, eI, eP, eT, eC, List.map, List.append, List.drop, List.take]
    try dsimp only [setd, setn, ev, nth, over, cl, eI, eP, eT, eC, List.map, List.append, List.drop, List.take]
    refine K.d_pure 18 rfl (K.Pure.eq (K.fieldAddr fo_52_0 rfl) (show _ = Value.pointer (some ⟨b13, 0 + s.2 * 2 + 0, none⟩) from by rw [K.add_lit])) (by kernel_rfl) rfl ?_
    dsimp only [setd, setn, ev, nth]
    refine K.d_last 19 rfl (K.store_ix (cs := (bndF st ps k).flatMap K.eP) sz_3 rfl rfl hfit1 rfl (K.rpe K.rp1 (congrArg (K.blk b13 52) hst1.symm))) rfl (by kernel_rfl) rfl ?_
    intro _ _
    try dsimp only [setd, setn, ev, nth, over, cl, eI, eP, eT, eC, List.map, List.append, List.drop, List.take]
    try dsimp only [setd, setn, ev, nth, over, cl, eI, eP, eT, eC, List.map, List.append, List.drop, List.take]
    refine K.d_done (by kernel_rfl) ?_
    refine R.out ?_
    refine R.norm_then ?_
    refine R.draw_L [19] Try_mixed rfl ?_
    refine K.d_mem 0 rfl (K.load1_own one_48 rfl (K.m0) rfl) (fun _ h => h) (by kernel_rfl) (by kernel_rfl) rfl ?_
    try dsimp only [setd, setn, ev, nth, over, cl, eI, eP, eT, eC, List.map, List.append, List.drop, List.take]
    refine K.d_pure 1 rfl (K.move) (by kernel_rfl) rfl ?_
    dsimp only [setd, setn, ev, nth]
    refine K.d_mem 2 rfl (K.load1_own one_48 rfl (K.m0) rfl) (fun _ h => h) (by kernel_rfl) (by kernel_rfl) rfl ?_
    try dsimp only [setd, setn, ev, nth, over, cl, eI, eP, eT, eC, List.map, List.append, List.drop, List.take]
    refine K.d_pure 3 rfl (K.move) (by kernel_rfl) rfl ?_
    dsimp only [setd, setn, ev, nth]
    refine K.d_pure 4 rfl (K.Pure.eq (K.indexAddr_sl sl_48 rfl rfl (by omega) (by omega)) (show _ = Value.pointer (some ⟨b13, 0 + s.2 * 2, none⟩) from by rw [K.add_lit, Int.toNat_natCast])) (by kernel_rfl) rfl ?_
    try dsimp only [setd, setn, ev, nth, over, cl, eI, eP, eT, eC, List.map, List.append, List.drop, List.take]
    try dsimp only [setd, setn, ev, nth, over, cl, eI, eP, eT, eC, List.map, List.append, List.drop, List.take]
    refine K.d_pure 5 rfl (K.Pure.eq (K.fieldAddr fo_52_1 rfl) (show _ = Value.pointer (some ⟨b13, 0 + s.2 * 2 + 1, none⟩) from by rw [K.add_lit])) (by kernel_rfl) rfl ?_
    dsimp only [setd, setn, ev, nth]
    refine K.d_mem 6 rfl (K.load_at one_3 rfl (K.PtrL.own' ((K.m1))) hc3) (fun _ h => h) (by kernel_rfl) (by kernel_rfl) rfl ?_
    try dsimp only [setd, setn, ev, nth, over, cl, eI, eP, eT, eC, List.map, List.append, List.drop, List.take]
    refine K.d_mem 7 rfl (K.load1_own one_48 rfl (K.m0) rfl) (fun _ h => h) (by kernel_rfl) (by kernel_rfl) rfl ?_
    try dsimp only [setd, setn, ev, nth, over, cl, eI, eP, eT, eC, List.map, List.append, List.drop, List.take]
    refine K.d_pure 8 rfl (K.move) (by kernel_rfl) rfl ?_
    dsimp only [setd, setn, ev, nth]
    refine K.d_pure 9 rfl (K.Pure.eq (K.indexAddr_sl sl_48 rfl rfl (by omega) (by omega)) (show _ = Value.pointer (some ⟨b13, 0 + s.1 * 2, none⟩) from by rw [K.add_lit, Int.toNat_natCast])) (by kernel_rfl) rfl ?_
    try dsimp only [setd, setn, ev, nth, over, cl, eI, eP, eT, eC, List.map, List.append, List.drop, List.take]
    try dsimp only [setd, setn, ev, nth, over, cl, eI, eP, eT, eC, List.map, List.append, List.drop, List.take]
    refine K.d_pure 10 rfl (K.Pure.eq (K.fieldAddr fo_52_1 rfl) (show _ = Value.pointer (some ⟨b13, 0 + s.1 * 2 + 1, none⟩) from by rw [K.add_lit])) (by kernel_rfl) rfl ?_
    dsimp only [setd, setn, ev, nth]
    refine K.d_mem 11 rfl (K.load_at one_3 rfl (K.PtrL.own' ((K.m1))) hc4) (fun _ h => h) (by kernel_rfl) (by kernel_rfl) rfl ?_
    try dsimp only [setd, setn, ev, nth, over, cl, eI, eP, eT, eC, List.map, List.append, List.drop, List.take]
    refine K.d_pure 12 rfl (K.fieldAddr_lit fo_103_0 rfl) (by kernel_rfl) rfl ?_
    dsimp only [setd, setn, ev, nth]
    refine K.d_pure 13 rfl (K.fieldAddr_lit fo_24_0 rfl) (by kernel_rfl) rfl ?_
    dsimp only [setd, setn, ev, nth]
    refine K.d_mem 14 rfl (K.load1_own one_3 rfl (K.m2) rfl) (fun _ h => h) (by kernel_rfl) (by kernel_rfl) rfl ?_
    try dsimp only [setd, setn, ev, nth, over, cl, eI, eP, eT, eC, List.map, List.append, List.drop, List.take]
    refine K.d_pure 15 rfl (K.add_i64 rfl rfl (by omega)) (by kernel_rfl) rfl ?_
    dsimp only [setd, setn, ev, nth]
    refine K.d_pure 16 rfl (K.min_int rfl rfl) (by kernel_rfl) rfl ?_
    dsimp only [setd, setn, ev, nth]
    refine K.d_pure 17 rfl (K.Pure.eq (K.indexAddr_sl sl_48 rfl rfl (by omega) (by omega)) (show _ = Value.pointer (some ⟨b13, 0 + s.2 * 2, none⟩) from by rw [K.add_lit, Int.toNat_natCast])) (by kernel_rfl) rfl ?_
    try dsimp only [setd, setn, ev, nth, over, cl, eI, eP, eT, eC, List.map, List.append, List.drop, List.take]
    try dsimp only [setd, setn, ev, nth, over, cl, eI, eP, eT, eC, List.map, List.append, List.drop, List.take]
    refine K.d_pure 18 rfl (K.Pure.eq (K.fieldAddr fo_52_1 rfl) (show _ = Value.pointer (some ⟨b13, 0 + s.2 * 2 + 1, none⟩) from by rw [K.add_lit])) (by kernel_rfl) rfl ?_
    dsimp only [setd, setn, ev, nth]
    refine K.d_last 19 rfl (K.store_ix (cs := (bhf st (bndF st ps k) s.1 s.2).flatMap K.eP) sz_3 rfl rfl hfit2 rfl (K.rpe K.rp1 (congrArg (K.blk b13 52) hst2.symm))) rfl (by kernel_rfl) rfl ?_
    intro _ _
    try dsimp only [setd, setn, ev, nth, over, cl, eI, eP, eT, eC, List.map, List.append, List.drop, List.take]
    try dsimp only [setd, setn, ev, nth, over, cl, eI, eP, eT, eC, List.map, List.append, List.drop, List.take]
    refine K.d_done (by kernel_rfl) ?_
    refine R.out ?_
    refine R.norm_block ?_
    exact R.rp_normal (L := [K.blk b4 48 [.slice (some ⟨b13, 0, none⟩) ps.length ps.length], K.blk b13 52 ((bndF st ps (k + 1)).flatMap K.eP), K.blk b1 103 [.int .i64 st, .slice A ps.length c]]) rfl (List.Sublist.refl _)
  · intro bD L hJ
    subst hJ
    try dsimp only [List.cons_append, List.nil_append]
    try dsimp only [setd, setn, ev, nth, over, cl, eI, eP, eT, eC, setM, setF, List.map, List.append, List.drop, List.take]
    refine R.norm_block ?_
    refine R.norm_then ?_
    refine R.seq ?_
    refine R.draw_L [] Try_mixed rfl ?_
    refine K.d_mem 0 rfl (K.load1_own one_48 rfl (K.m0) rfl) (fun _ h => h) (by kernel_rfl) (by kernel_rfl) rfl ?_
    try dsimp only [setd, setn, ev, nth, over, cl, eI, eP, eT, eC, List.map, List.append, List.drop, List.take]
    refine K.d_mem 1 rfl (K.load1_own one_48 rfl (K.m0) rfl) (fun _ h => h) (by kernel_rfl) (by kernel_rfl) rfl ?_
    try dsimp only [setd, setn, ev, nth, over, cl, eI, eP, eT, eC, List.map, List.append, List.drop, List.take]
    refine K.d_call 2 rfl (K.call_g cal_76 (fun F w hF hw => (by have hL : K.Rd w (some ⟨b13, 0, none⟩) 2 K.eP (bnd st ps) := K.Rd.lit hw (hF _ (K.m1)) (fun _ => rfl) (by decide) rfl; have hg := c76 (c := ps.length) (cap := []) (p := fun x : Int × Int => decide (x.1 > x.2)) hL (by unfold bnd; omega) cal_77 (fun x _ w1 _ => c77 w1); rw [show (bnd st ps).length = ps.length from hbl2] at hg; exact hg))) (fun _ h => h) (by kernel_rfl) rfl ?_
    try dsimp only [setd, setn, ev, nth, over, cl, eI, eP, eT, eC, List.map, List.append, List.drop, List.take]
    first | refine K.d_pure 3 rfl (K.not_d rfl) (by kernel_rfl) rfl ?_ | refine K.d_pure 3 rfl (K.not_ rfl) (by kernel_rfl) rfl ?_
    try dsimp only [setd, setn, ev, nth, over, cl, eI, eP, eT, eC, List.map, List.append, List.drop, List.take]
    refine K.d_pure 4 rfl (K.assign) (by kernel_rfl) rfl ?_
    dsimp only [setd, setn, ev, nth]
    refine K.d_pure 5 rfl (K.assign) (by kernel_rfl) rfl ?_
    dsimp only [setd, setn, ev, nth]
    refine K.d_done (by kernel_rfl) ?_
    refine R.out ?_
    refine R.norm_then ?_
    refine R.ret ?_
    refine R.end_ret1 rfl (by dsimp only [List.dropLast]; exact (fun w _ => K.res_tmp2 rfl w)) ?_
    dsimp only [List.dropLast]
    exact K.rets_v b13 trivial rfl rfl (List.Sublist.cons _ (List.Sublist.cons_cons _ (List.nil_sublist _)))
  · intro bD cX L hJ
    exact hJ.elim
    skip

end Go.Proofs.Ytfbglomliankmaa.Cv
end
section
set_option linter.unusedSimpArgs false
set_option linter.unusedVariables false
namespace Go.Proofs.Ytfbglomliankmaa.Cv
open Go.RowKit Go
open Go.K (setd setn ev nth over cl eI eP eT setM setF)
attribute [local irreducible] K.blk K.row
theorem bndE_y {st : Int} {ps : List CvT} (g : Good st ps) (h : someB st ps = true) : bndE st ps = 0 := by
  unfold someB at h
  unfold bndE; rw [g.chk, if_neg (by simp), if_pos h]
theorem bndE_n {st : Int} {ps : List CvT} (g : Good st ps) (h : someB st ps = false) : bndE st ps = 9 := by
  unfold someB at h
  unfold bndE; rw [g.chk, if_neg (by simp), if_neg (by rw [h]; decide)]
theorem bndL_y {st : Int} {ps : List CvT} (g : Good st ps) (h : someB st ps = true) : bndL st ps = bnd st ps := by unfold bndL; rw [if_pos (bndE_y g h)]
theorem bndL_n {st : Int} {ps : List CvT} (g : Good st ps) (h : someB st ps = false) : bndL st ps = [] := by unfold bndL; rw [if_neg (by rw [bndE_n g h]; decide)]
theorem Good.n9 {st : Int} {ps : List CvT} (g : Good st ps) : ps.length ≤ 1000 := by have := g.n; omega
theorem Good.s9 {st : Int} {ps : List CvT} (g : Good st ps) : 0 ≤ st ∧ st ≤ 9000 := by have := g.s; omega

set_option maxRecDepth 100000 in
theorem c48 {st : Int} {ps : List CvT} {A : Option Addr} {c : Nat} {w : World} (hR : K.Rd w A 3 eC ps) (hbd : Bands ps) (hs0 : 0 ≤ st ∧ st ≤ 9000) (hn1 : 1 ≤ ps.length) (hn9 : ps.length ≤ 1000) :
    Calls Try.prog 48 [.agg #[.int .i64 st, .slice A ps.length c]].toArray w (K.Gives (.bool (someB st ps)) w) := by
  refine K.enter (args := [.agg #[.int .i64 st, .slice A ps.length c]]) Try.func48 rfl (n := 10) rfl ?_
  simp only [List.replicate, List.cons_append, List.nil_append]
  refine K.seq ?_
  refine K.region_lit ?_
  refine K.seq_new (K.box) rfl ?_
  intro b1
  try dsimp only [setd, setn, ev, nth, over, cl, eI, eP, eT, eC, List.map, List.append, List.drop, List.take]
  refine K.seq_pure (K.assign) rfl ?_
  dsimp only [setd, setn, ev, nth]
  refine K.seq_nil ?_
  refine K.norm_then ?_
  refine K.seq ?_
  refine K.region_lit ?_
  refine K.seq_sil (K.loadA_own ag_103 rfl (K.m0) rfl) rfl ?_
  try dsimp only [setd, setn, ev, nth, over, cl, eI, eP, eT, eC, List.map, List.append, List.drop, List.take]
  refine K.seq_loud (K.call_f cal_47 (fun F w hF hw => c47 (hR.pass hw) hbd hs0 hn1 hn9)) rfl ?_
  rintro q7 _
  try dsimp only [setd, setn, ev, nth, over, cl, eI, eP, eT, eC, List.map, List.append, List.drop, List.take]
  refine K.seq_pure (K.move) rfl ?_
  dsimp only [setd, setn, ev, nth]
  refine K.seq_pure (K.extract rfl rfl) rfl ?_
  dsimp only [setd, setn, ev, nth]
  refine K.seq_pure (K.extract rfl rfl) rfl ?_
  dsimp only [setd, setn, ev, nth]
  refine K.seq_pure (K.assign) rfl ?_
  dsimp only [setd, setn, ev, nth]
  refine K.seq_pure (K.assign) rfl ?_
  dsimp only [setd, setn, ev, nth]
  refine K.seq_nil ?_
  refine K.norm_then ?_
  refine K.seq ?_
  refine K.region_lit ?_
  refine K.seq_pure (K.move) rfl ?_
  dsimp only [setd, setn, ev, nth]
  refine K.seq_pure (K.assign) rfl ?_
  dsimp only [setd, setn, ev, nth]
  refine K.seq_nil ?_
  refine K.norm_then ?_
  refine K.ret ?_
  refine K.end_ret (fun w _ => K.res_tmp rfl w) ?_
  exact K.gives rfl

theorem c48n {st : Int} {ps : List CvT} {A : Option Addr} {c : Nat} {n : Nat} {w : World} (hR : K.Rd w A 3 eC ps) (hnl : ps.length = n) (hbd : Bands ps) (hs0 : 0 ≤ st ∧ st ≤ 9000) (hn1 : 1 ≤ ps.length) (hn9 : ps.length ≤ 1000) : Calls Try.prog 48 [.agg #[.int .i64 st, .slice A n c]].toArray w (K.Gives (.bool (someB st ps)) w) := by
  subst hnl
  exact c48 hR hbd hs0 hn1 hn9

set_option maxRecDepth 100000 in
theorem c13 {st : Int} {ps : List CvT} {A : Option Addr} {c : Nat} {w : World} (hR : K.Rd w A 3 eC ps) (g : Good st ps) :
    Calls Try.prog 13 [.agg #[.int .i64 st, .slice A ps.length c]].toArray w (K.RetSE 52 2 K.eP (bndL st ps) (bndE st ps) w) := by
  have hgs := g.s
  have hgn := g.n
  have hbl := @bndF_len st ps (nbs ps.length).length
  refine K.enter (args := [.agg #[.int .i64 st, .slice A ps.length c]]) Try.func13 rfl (n := 26) rfl ?_
  simp only [List.replicate, List.cons_append, List.nil_append]
  refine K.seq ?_
  refine K.region_lit ?_
  refine K.seq_new (K.box) rfl ?_
  intro b1
  try dsimp only [setd, setn, ev, nth, over, cl, eI, eP, eT, eC, List.map, List.append, List.drop, List.take]
  refine K.seq_pure (K.assign) rfl ?_
  dsimp only [setd, setn, ev, nth]
  refine K.seq_pure (K.assign) rfl ?_
  dsimp only [setd, setn, ev, nth]
  refine K.seq_nil ?_
  refine K.norm_then ?_
  refine K.seq ?_
  refine K.seq ?_
  refine K.region_lit ?_
  refine K.seq_sil (K.loadA_own ag_24 rfl (K.m0) rfl) rfl ?_
  try dsimp only [setd, setn, ev, nth, over, cl, eI, eP, eT, eC, List.map, List.append, List.drop, List.take]
  refine K.seq_call (K.call_g cal_46 (fun F w hF hw => c46 (hR.pass hw) g)) rfl ?_
  try dsimp only [setd, setn, ev, nth, over, cl, eI, eP, eT, eC, List.map, List.append, List.drop, List.take]
  refine K.seq_pure (K.move) rfl ?_
  dsimp only [setd, setn, ev, nth]
  refine K.seq_pure (K.extract rfl rfl) rfl ?_
  dsimp only [setd, setn, ev, nth]
  refine K.seq_pure (K.extract rfl rfl) rfl ?_
  dsimp only [setd, setn, ev, nth]
  refine K.seq_pure (K.extract rfl rfl) rfl ?_
  dsimp only [setd, setn, ev, nth]
  refine K.seq_pure (K.assign) rfl ?_
  dsimp only [setd, setn, ev, nth]
  refine K.seq_pure (K.assign) rfl ?_
  dsimp only [setd, setn, ev, nth]
  refine K.seq_pure (K.assign) rfl ?_
  dsimp only [setd, setn, ev, nth]
  refine K.seq_nil ?_
  refine K.norm_then ?_
  refine K.seq ?_
  refine K.region_lit ?_
  refine K.seq_pure (K.move) rfl ?_
  dsimp only [setd, setn, ev, nth]
  refine K.seq_pure (K.Pure.eq (K.neq rfl rfl) (show _ = Value.bool false from congrArg Value.bool (decide_eq_false (fun h => h rfl)))) rfl ?_
  dsimp only [setd, setn, ev, nth]
  refine K.seq_nil ?_
  refine K.norm_then ?_
  refine K.cond_false rfl ?_
  refine K.skip ?_
  refine K.norm_then ?_
  refine K.seq ?_
  refine K.region_lit ?_
  refine K.seq_sil (K.loadA_own ag_24 rfl (K.m0) rfl) rfl ?_
  try dsimp only [setd, setn, ev, nth, over, cl, eI, eP, eT, eC, List.map, List.append, List.drop, List.take]
  refine K.seq_pure (K.build (bl103 _ _ _ _)) rfl ?_
  try dsimp only [setd, setn, ev, nth, over, cl, eI, eP, eT, eC, List.map, List.append, List.drop, List.take]
  refine K.seq_loud (K.call_f cal_47 (fun F w hF hw => c47 (hR.pass hw) g.bands g.s9 hgn.1 g.n9)) rfl ?_
  rintro q21 _
  try dsimp only [setd, setn, ev, nth, over, cl, eI, eP, eT, eC, List.map, List.append, List.drop, List.take]
  refine K.seq_pure (K.move) rfl ?_
  dsimp only [setd, setn, ev, nth]
  refine K.seq_pure (K.extract rfl rfl) rfl ?_
  dsimp only [setd, setn, ev, nth]
  refine K.seq_pure (K.extract rfl rfl) rfl ?_
  dsimp only [setd, setn, ev, nth]
  refine K.seq_pure (K.assign) rfl ?_
  dsimp only [setd, setn, ev, nth]
  refine K.seq_pure (K.assign) rfl ?_
  dsimp only [setd, setn, ev, nth]
  refine K.seq_nil ?_
  refine K.norm_then ?_
  refine K.seq ?_
  refine K.seq ?_
  refine K.region_lit ?_
  refine K.seq_pure (K.move) rfl ?_
  dsimp only [setd, setn, ev, nth]
  first | refine K.seq_pure (K.not_d rfl) rfl ?_ | refine K.seq_pure (K.not_ rfl) rfl ?_
  try dsimp only [setd, setn, ev, nth, over, cl, eI, eP, eT, eC, List.map, List.append, List.drop, List.take]
  refine K.seq_nil ?_
  refine K.norm_then ?_
  refine K.cond rfl (fun ht25 => ?_) (fun ht25 => ?_)
  · try replace ht25 := of_decide_eq_true ht25
    refine K.seq ?_
    refine K.region_lit ?_
    refine K.seq_pure (K.assign) rfl ?_
    dsimp only [setd, setn, ev, nth]
    refine K.seq_pure (K.assign) rfl ?_
    dsimp only [setd, setn, ev, nth]
    refine K.seq_nil ?_
    refine K.norm_then ?_
    refine K.ret ?_
    refine K.ret_then ?_
    refine K.end_ret (fun w _ => K.res_tmp2 rfl w) ?_
    have hsb : someB st ps = false := by simpa using ht25
    exact K.rets_se0 (bndL_n g hsb) (bndE_n g hsb).symm rfl
  try replace ht25 := of_decide_eq_false ht25
  refine K.skip ?_
  refine K.norm_then ?_
  refine K.seq ?_
  refine K.region_lit ?_
  refine K.seq_pure (K.move) rfl ?_
  dsimp only [setd, setn, ev, nth]
  refine K.seq_pure (K.assign) rfl ?_
  dsimp only [setd, setn, ev, nth]
  refine K.seq_pure (K.assign) rfl ?_
  dsimp only [setd, setn, ev, nth]
  refine K.seq_nil ?_
  refine K.norm_then ?_
  refine K.ret ?_
  refine K.end_ret (fun w _ => K.res_tmp2 rfl w) ?_
  have hsb : someB st ps = true := by simpa using ht25
  refine K.blk_row (size := 2) (n := ps.length) (by unfold bnd; rw [K.flat_len (e := K.eP) (size := 2) (fun _ => rfl), hbl]) (by simp only [maxLen]; omega) ?_
  exact K.rets_se (n := ps.length) K.m0 (by rw [bndL_y g hsb]; exact hbl.symm) (by rw [bndL_y g hsb]) (bndE_y g hsb).symm rfl

set_option maxRecDepth 100000 in
theorem c49 {f : Nat} {z : Int} {cap : List Value} {p : Int → Bool} {w : World} (hz : 0 ≤ z ∧ z ≤ 1000000) (hcal : K.callable Try.prog f = true) (hf : ∀ m, 0 ≤ m → m ≤ z → ∀ w1, Below w.heap.size w w1 → Calls Try.prog f ([Value.int .i64 m] ++ cap).toArray w1 (K.Gives (.bool (p m)) w1)) :
    Calls Try.prog 49 [.int .i64 z, .func (.func f) #[] cap.toArray].toArray w (K.Gives (.int .i64 (lstG p 0 z)) w) := by
  refine K.enter (args := [.int .i64 z, .func (.func f) #[] cap.toArray]) Try.func49 rfl (n := 22) rfl ?_
  simp only [List.replicate, List.cons_append, List.nil_append]
  refine K.seq ?_
  refine K.region_lit ?_
  refine K.seq_pure (K.assign) rfl ?_
  dsimp only [setd, setn, ev, nth]
  refine K.seq_nil ?_
  refine K.norm_then ?_
  refine K.seq ?_
  refine K.region_lit ?_
  refine K.seq_pure (K.move) rfl ?_
  dsimp only [setd, setn, ev, nth]
  refine K.seq_pure (K.move) rfl ?_
  dsimp only [setd, setn, ev, nth]
  refine K.seq_pure (K.assign) rfl ?_
  dsimp only [setd, setn, ev, nth]
  refine K.seq_pure (K.assign) rfl ?_
  dsimp only [setd, setn, ev, nth]
  refine K.seq_nil ?_
  refine K.norm_then ?_
  refine K.seq ?_
  refine K.block ?_
  refine K.loopW [5, 6] [7, 10, 11, 12, 13, 14, 15, 16, 17, 18, 19, 20, 21, 22] (fun vi L => ∃ lo hi : Int, vi = [.int .i64 lo, .int .i64 hi] ∧ L = [] ∧ 0 ≤ lo ∧ lo ≤ hi ∧ hi ≤ z ∧ lstG p lo hi = lstG p 0 z) (fun vi => (intOf (K.nth vi 1) - intOf (K.nth vi 0)).toNat) ?_ ?_
  · exact ⟨0, z, rfl, rfl, Int.le_refl _, hz.1, Int.le_refl _, rfl⟩
  intro vi vr L hJ
  obtain ⟨lo, hi, rfl, rfl, h0, hle, hhz, hls⟩ := hJ
  try dsimp only [setd, setn, ev, nth, over, cl, eI, eP, eT, eC, setM, setF, List.map, List.append, List.drop, List.take]
  refine K.seq ?_
  refine K.seq ?_
  refine K.region_lit ?_
  refine K.seq_pure (K.move) rfl ?_
  dsimp only [setd, setn, ev, nth]
  refine K.seq_pure (K.move) rfl ?_
  dsimp only [setd, setn, ev, nth]
  refine K.seq_pure (K.lss rfl rfl) rfl ?_
  dsimp only [setd, setn, ev, nth]
  refine K.seq_nil ?_
  refine K.norm_then ?_
  refine K.cond rfl (fun ht12 => ?_) (fun ht12 => ?_)
  · try replace ht12 := of_decide_eq_true ht12
    refine K.skip ?_
    refine K.norm_then ?_
    refine K.block ?_
    refine K.seq ?_
    refine K.region_lit ?_
    refine K.seq_pure (K.move) rfl ?_
    dsimp only [setd, setn, ev, nth]
    refine K.seq_pure (K.move) rfl ?_
    dsimp only [setd, setn, ev, nth]
    refine K.seq_pure (K.add_i64 rfl rfl (by omega)) rfl ?_
    dsimp only [setd, setn, ev, nth]
    refine K.seq_pure (K.quo_i64 rfl rfl (by omega) (by omega) (by omega)) rfl ?_
    dsimp only [setd, setn, ev, nth]
    refine K.seq_pure (K.assign) rfl ?_
    dsimp only [setd, setn, ev, nth]
    refine K.seq_nil ?_
    refine K.norm_then ?_
    refine K.seq ?_
    refine K.region_lit ?_
    refine K.seq_pure (K.move) rfl ?_
    dsimp only [setd, setn, ev, nth]
    refine K.seq_pure (K.move) rfl ?_
    dsimp only [setd, setn, ev, nth]
    refine K.seq_call (K.callv_g (first := []) (cap := cap) rfl hcal (fun F w1 _ hw => hf ((lo + hi) / 2) (by omega) (by omega) w1 hw.1)) rfl ?_
    try dsimp only [setd, setn, ev, nth, over, cl, eI, eP, eT, eC, List.map, List.append, List.drop, List.take]
    try dsimp only [setd, setn, ev, nth, over, cl, eI, eP, eT, eC, List.map, List.append, List.drop, List.take]
    refine K.seq_nil ?_
    refine K.norm_then ?_
    refine K.cond rfl (fun ht19 => ?_) (fun ht19 => ?_)
    · try replace ht19 := of_decide_eq_true ht19
      refine K.region_lit ?_
      refine K.seq_pure (K.move) rfl ?_
      dsimp only [setd, setn, ev, nth]
      refine K.seq_pure (K.assign) rfl ?_
      dsimp only [setd, setn, ev, nth]
      refine K.seq_nil ?_
      refine K.norm_block ?_
      exact K.round_endW (L'' := []) [.int .i64 lo, .int .i64 ((lo + hi) / 2)] ⟨lo, (lo + hi) / 2, rfl, rfl, h0, by omega, by omega, by rw [← lstG_t ht12 ht19]; exact hls⟩ (by simp [K.nth, intOf]; omega) (List.nil_sublist _) (by kernel_rfl)
    try replace ht19 := of_decide_eq_false ht19
    refine K.region_lit ?_
    refine K.seq_pure (K.move) rfl ?_
    dsimp only [setd, setn, ev, nth]
    refine K.seq_pure (K.add_i64 rfl rfl (by omega)) rfl ?_
    dsimp only [setd, setn, ev, nth]
    refine K.seq_pure (K.assign) rfl ?_
    dsimp only [setd, setn, ev, nth]
    refine K.seq_nil ?_
    refine K.norm_block ?_
    have ht19 : p ((lo + hi) / 2) = false := by simpa using ht19
    exact K.round_endW (L'' := []) [.int .i64 ((lo + hi) / 2 + 1), .int .i64 hi] ⟨(lo + hi) / 2 + 1, hi, rfl, rfl, by omega, by omega, by omega, by rw [← lstG_no ht12 ht19]; exact hls⟩ (by simp [K.nth, intOf]; omega) (List.nil_sublist _) (by kernel_rfl)
  try replace ht12 := of_decide_eq_false ht12
  refine K.exit ?_
  refine K.exit_then ?_
  refine K.exit_then ?_
  refine K.exit_here ?_
  refine K.norm_then ?_
  refine K.seq ?_
  refine K.region_lit ?_
  refine K.seq_pure (K.move) rfl ?_
  dsimp only [setd, setn, ev, nth]
  refine K.seq_pure (K.assign) rfl ?_
  dsimp only [setd, setn, ev, nth]
  refine K.seq_nil ?_
  refine K.norm_then ?_
  refine K.ret ?_
  refine K.end_ret (fun w _ => K.res_tmp rfl w) ?_
  exact K.gives_i rfl (by rw [← hls, lstG_end ht12])

set_option maxRecDepth 100000 in
theorem c50 {st : Int} {ps : List CvT} {A : Option Addr} {c : Nat} {m : Int} {p : Addr} {w : World} (hR : K.Rd w A 3 eC ps) (hp : K.PtrL w [] p [.int .i64 st, .slice A ps.length c]) (g : Good st ps) (hm : 0 ≤ m ∧ m ≤ 9000) :
    Calls Try.prog 50 [.int .i64 m, .pointer (some p)].toArray w (K.Gives (.bool (someB m ps)) w) := by
  have hgn := g.n
  refine K.enter (args := [.int .i64 m, .pointer (some p)]) Try.func50 rfl (n := 10) rfl ?_
  simp only [List.replicate, List.cons_append, List.nil_append]
  refine K.seq ?_
  refine K.region_lit ?_
  refine K.seq_pure (K.assign) rfl ?_
  dsimp only [setd, setn, ev, nth]
  refine K.seq_nil ?_
  refine K.norm_then ?_
  refine K.seq ?_
  refine K.region_lit ?_
  refine K.seq_sil (K.loadA_p ag_24 rfl (hp.any) rfl) rfl ?_
  try dsimp only [setd, setn, ev, nth, over, cl, eI, eP, eT, eC, List.map, List.append, List.drop, List.take]
  refine K.seq_pure (K.build (bl103 _ _ _ _)) rfl ?_
  try dsimp only [setd, setn, ev, nth, over, cl, eI, eP, eT, eC, List.map, List.append, List.drop, List.take]
  refine K.seq_new (K.alloc zr_103) rfl ?_
  intro b4
  try dsimp only [setd, setn, ev, nth, over, cl, eI, eP, eT, eC, List.map, List.append, List.drop, List.take]
  refine K.seq_st (K.store_all sz_103 rfl rfl rfl rfl (K.rp0)) rfl ?_
  try dsimp only [setd, setn, ev, nth, over, cl, eI, eP, eT, eC, List.map, List.append, List.drop, List.take]
  refine K.seq_nil ?_
  refine K.norm_then ?_
  refine K.seq ?_
  refine K.region_lit ?_
  refine K.seq_pure (K.move) rfl ?_
  dsimp only [setd, setn, ev, nth]
  refine K.seq_pure (K.fieldAddr_lit fo_103_0 rfl) rfl ?_
  dsimp only [setd, setn, ev, nth]
  refine K.seq_pure (K.fieldAddr_lit fo_24_0 rfl) rfl ?_
  dsimp only [setd, setn, ev, nth]
  refine K.seq_st (K.store sz_3 rfl rfl rfl rfl (K.rp0)) rfl ?_
  try dsimp only [setd, setn, ev, nth, over, cl, eI, eP, eT, eC, List.map, List.append, List.drop, List.take]
  refine K.seq_nil ?_
  refine K.norm_then ?_
  refine K.seq ?_
  refine K.region_lit ?_
  refine K.seq_sil (K.loadA_own ag_103 rfl (K.m0) rfl) rfl ?_
  try dsimp only [setd, setn, ev, nth, over, cl, eI, eP, eT, eC, List.map, List.append, List.drop, List.take]
  refine K.seq_call (K.call_g cal_48 (fun F w hF hw => c48 (hR.pass hw) g.bands hm hgn.1 g.n9)) rfl ?_
  try dsimp only [setd, setn, ev, nth, over, cl, eI, eP, eT, eC, List.map, List.append, List.drop, List.take]
  refine K.seq_pure (K.assign) rfl ?_
  dsimp only [setd, setn, ev, nth]
  refine K.seq_nil ?_
  refine K.norm_then ?_
  refine K.ret ?_
  refine K.end_ret (fun w _ => K.res_tmp rfl w) ?_
  exact K.gives rfl

set_option maxRecDepth 100000 in
theorem c17 {st : Int} {ps : List CvT} {A : Option Addr} {c : Nat} {w : World} (hR : K.Rd w A 3 eC ps) (g : Good st ps) :
    Calls Try.prog 17 [.agg #[.int .i64 st, .slice A ps.length c]].toArray w (K.Gives (.tuple #[.int .i64 (needS ps), .int .i64 0]) w) := by
  refine K.enter (args := [.agg #[.int .i64 st, .slice A ps.length c]]) Try.func17 rfl (n := 17) rfl ?_
  simp only [List.replicate, List.cons_append, List.nil_append]
  refine K.seq ?_
  refine K.region_lit ?_
  refine K.seq_new (K.box) rfl ?_
  intro b1
  try dsimp only [setd, setn, ev, nth, over, cl, eI, eP, eT, eC, List.map, List.append, List.drop, List.take]
  refine K.seq_pure (K.assign) rfl ?_
  dsimp only [setd, setn, ev, nth]
  refine K.seq_pure (K.assign) rfl ?_
  dsimp only [setd, setn, ev, nth]
  refine K.seq_nil ?_
  refine K.norm_then ?_
  refine K.seq ?_
  refine K.seq ?_
  refine K.region_lit ?_
  refine K.seq_sil (K.loadA_own ag_24 rfl (K.m0) rfl) rfl ?_
  try dsimp only [setd, setn, ev, nth, over, cl, eI, eP, eT, eC, List.map, List.append, List.drop, List.take]
  refine K.seq_call (K.call_g cal_46 (fun F w hF hw => c46 (hR.pass hw) g)) rfl ?_
  try dsimp only [setd, setn, ev, nth, over, cl, eI, eP, eT, eC, List.map, List.append, List.drop, List.take]
  refine K.seq_pure (K.move) rfl ?_
  dsimp only [setd, setn, ev, nth]
  refine K.seq_pure (K.extract rfl rfl) rfl ?_
  dsimp only [setd, setn, ev, nth]
  refine K.seq_pure (K.extract rfl rfl) rfl ?_
  dsimp only [setd, setn, ev, nth]
  refine K.seq_pure (K.extract rfl rfl) rfl ?_
  dsimp only [setd, setn, ev, nth]
  refine K.seq_pure (K.assign) rfl ?_
  dsimp only [setd, setn, ev, nth]
  refine K.seq_pure (K.assign) rfl ?_
  dsimp only [setd, setn, ev, nth]
  refine K.seq_pure (K.assign) rfl ?_
  dsimp only [setd, setn, ev, nth]
  refine K.seq_nil ?_
  refine K.norm_then ?_
  refine K.seq ?_
  refine K.region_lit ?_
  refine K.seq_pure (K.move) rfl ?_
  dsimp only [setd, setn, ev, nth]
  refine K.seq_pure (K.Pure.eq (K.neq rfl rfl) (show _ = Value.bool false from congrArg Value.bool (decide_eq_false (fun h => h rfl)))) rfl ?_
  dsimp only [setd, setn, ev, nth]
  refine K.seq_nil ?_
  refine K.norm_then ?_
  refine K.cond_false rfl ?_
  refine K.skip ?_
  refine K.norm_then ?_
  refine K.seq ?_
  refine K.region_lit ?_
  refine K.seq_pure (K.mkFunc) rfl ?_
  try dsimp only [setd, setn, ev, nth, over, cl, eI, eP, eT, eC, List.map, List.append, List.drop, List.take]
  refine K.seq_call (K.call_g cal_49 (fun F w hF hw => c49 (p := fun k => someB k ps) (cap := [.pointer (some ⟨b1, 0, none⟩)]) (by omega) cal_50 (fun m h0 h1 w1 hb => c50 ((hR.pass hw).later hb) (K.PtrL.pass hw (hF _ (K.m0)) hb) g ⟨h0, h1⟩))) rfl ?_
  try dsimp only [setd, setn, ev, nth, over, cl, eI, eP, eT, eC, List.map, List.append, List.drop, List.take]
  refine K.seq_pure (K.assign) rfl ?_
  dsimp only [setd, setn, ev, nth]
  refine K.seq_pure (K.assign) rfl ?_
  dsimp only [setd, setn, ev, nth]
  refine K.seq_nil ?_
  refine K.norm_then ?_
  refine K.ret ?_
  refine K.end_ret (fun w _ => K.res_tmp2 rfl w) ?_
  exact K.gives rfl

set_option maxRecDepth 100000 in
theorem c18 {st : Int} {ps : List CvT} {s : List Int} {A B : Option Addr} {c d : Nat} {w : World} (hR : K.Rd w A 3 eC ps) (hS : K.Rd w B 1 K.eI s) (g : Good st ps) (hl : s.length = ps.length) (hb : ∀ x ∈ s, 0 ≤ x ∧ x ≤ 9000) :
    Calls Try.prog 18 [.agg #[.int .i64 st, .slice A ps.length c], .slice B s.length d].toArray w (K.Gives (.tuple #[.int .i64 (plS ps s ps.length), .int .i64 0]) w) := by
  have hgn := g.n
  refine K.enter (args := [.agg #[.int .i64 st, .slice A ps.length c], .slice B s.length d]) Try.func18 rfl (n := 37) rfl ?_
  simp only [List.replicate, List.cons_append, List.nil_append]
  refine K.seq ?_
  refine K.region_lit ?_
  refine K.seq_new (K.box) rfl ?_
  intro b2
  try dsimp only [setd, setn, ev, nth, over, cl, eI, eP, eT, eC, List.map, List.append, List.drop, List.take]
  refine K.seq_pure (K.assign) rfl ?_
  dsimp only [setd, setn, ev, nth]
  refine K.seq_pure (K.assign) rfl ?_
  dsimp only [setd, setn, ev, nth]
  refine K.seq_nil ?_
  refine K.norm_then ?_
  refine K.seq ?_
  refine K.region_lit ?_
  refine K.seq_sil (K.loadA_own ag_24 rfl (K.m0) rfl) rfl ?_
  try dsimp only [setd, setn, ev, nth, over, cl, eI, eP, eT, eC, List.map, List.append, List.drop, List.take]
  refine K.seq_pure (K.move) rfl ?_
  dsimp only [setd, setn, ev, nth]
  refine K.seq_call (K.call_g cal_44 (fun F w hF hw => c44 (hR.pass hw) (hS.pass hw) g hl hb)) rfl ?_
  try dsimp only [setd, setn, ev, nth, over, cl, eI, eP, eT, eC, List.map, List.append, List.drop, List.take]
  refine K.seq_pure (K.move) rfl ?_
  dsimp only [setd, setn, ev, nth]
  refine K.seq_pure (K.extract rfl rfl) rfl ?_
  dsimp only [setd, setn, ev, nth]
  refine K.seq_pure (K.extract rfl rfl) rfl ?_
  dsimp only [setd, setn, ev, nth]
  refine K.seq_new (K.alloc zr_103) rfl ?_
  intro b6
  try dsimp only [setd, setn, ev, nth, over, cl, eI, eP, eT, eC, List.map, List.append, List.drop, List.take]
  refine K.seq_st (K.store_all sz_103 rfl rfl rfl rfl (K.rp0)) rfl ?_
  try dsimp only [setd, setn, ev, nth, over, cl, eI, eP, eT, eC, List.map, List.append, List.drop, List.take]
  refine K.seq_pure (K.assign) rfl ?_
  dsimp only [setd, setn, ev, nth]
  refine K.seq_nil ?_
  refine K.norm_then ?_
  refine K.seq ?_
  refine K.seq ?_
  refine K.region_lit ?_
  refine K.seq_pure (K.move) rfl ?_
  dsimp only [setd, setn, ev, nth]
  refine K.seq_pure (K.Pure.eq (K.neq rfl rfl) (show _ = Value.bool false from congrArg Value.bool (decide_eq_false (fun h => h rfl)))) rfl ?_
  dsimp only [setd, setn, ev, nth]
  refine K.seq_nil ?_
  refine K.norm_then ?_
  refine K.cond_false rfl ?_
  refine K.skip ?_
  refine K.norm_then ?_
  refine K.seq ?_
  refine K.seq ?_
  refine K.weak (List.Sublist.refl _) ?_
  refine K.region_lit ?_
  refine K.seq_pure (K.fieldAddr_lit fo_103_0 rfl) rfl ?_
  dsimp only [setd, setn, ev, nth]
  refine K.seq_pure (K.fieldAddr_lit fo_24_1 rfl) rfl ?_
  dsimp only [setd, setn, ev, nth]
  refine K.seq_sil (K.load1_own one_22 rfl (K.m0) rfl) rfl ?_
  try dsimp only [setd, setn, ev, nth, over, cl, eI, eP, eT, eC, List.map, List.append, List.drop, List.take]
  refine K.seq_pure (K.len_sl sl_22 rfl) rfl ?_
  dsimp only [setd, setn, ev, nth]
  refine K.seq_pure (K.move) rfl ?_
  dsimp only [setd, setn, ev, nth]
  refine K.seq_nil ?_
  refine K.norm_then ?_
  refine K.block ?_
  refine K.loopW [4, 22] [7, 8, 23, 24, 25, 26, 27, 28, 29, 30, 31, 32, 33, 34, 35, 36, 37] (fun vi L => ∃ k : Nat, vi = [.int .i64 (plS ps s k), .int .i64 (k : Int)] ∧ L = [K.blk b6 103 [.int .i64 st, .slice A ps.length c], K.blk b2 24 [.int .i64 st, .slice A ps.length c]] ∧ k ≤ ps.length) (fun vi => ps.length - (intOf (K.nth vi 1)).toNat) ?_ ?_
  · exact ⟨0, rfl, rfl, Nat.zero_le _⟩
  intro vi vr L hJ
  obtain ⟨k, rfl, rfl, hkn⟩ := hJ
  try dsimp only [setd, setn, ev, nth, over, cl, eI, eP, eT, eC, setM, setF, List.map, List.append, List.drop, List.take]
  refine K.seq ?_
  refine K.region_lit ?_
  refine K.seq_pure (K.lss rfl rfl) rfl ?_
  dsimp only [setd, setn, ev, nth]
  refine K.seq_nil ?_
  refine K.norm_then ?_
  refine K.seq ?_
  refine K.cond rfl (fun ht23 => ?_) (fun ht23 => ?_)
  · try replace ht23 := of_decide_eq_true ht23
    have hk : k < ps.length := by omega
    have hpk := g.p k hk
    have hsk := hb _ (K.gt_mem (xs := s) (k := k) (by omega))
    have hpb := plS_bd g hb hl k (by omega)
    refine K.skip ?_
    refine K.norm_then ?_
    refine K.seq ?_
    refine K.block ?_
    refine K.seq ?_
    refine K.region_lit ?_
    refine K.seq_pure (K.move) rfl ?_
    dsimp only [setd, setn, ev, nth]
    refine K.seq_ix (M := []) _ hR.sl sl_22 rfl rfl rfl (by omega) rfl ?_
    intro p25 hp25
    try dsimp only [setd, setn, ev, nth, over, cl, eI, eP, eT, eC, List.map, List.append, List.drop, List.take]
    refine K.seq_sil (K.loadA_p ag_45 rfl (hp25.any) rfl) rfl ?_
    try dsimp only [setd, setn, ev, nth, over, cl, eI, eP, eT, eC, List.map, List.append, List.drop, List.take]
    refine K.seq_new (K.alloc zr_45) rfl ?_
    intro b8
    try dsimp only [setd, setn, ev, nth, over, cl, eI, eP, eT, eC, List.map, List.append, List.drop, List.take]
    refine K.seq_pure (K.assign) rfl ?_
    dsimp only [setd, setn, ev, nth]
    refine K.seq_st (K.store_all sz_45 rfl rfl rfl rfl (K.rp0)) rfl ?_
    try dsimp only [setd, setn, ev, nth, over, cl, eI, eP, eT, eC, List.map, List.append, List.drop, List.take]
    refine K.seq_nil ?_
    refine K.norm_then ?_
    refine K.draw_L [] Try_mixed ?_
    refine K.d_pure 0 rfl (K.move) (by kernel_rfl) rfl ?_
    dsimp only [setd, setn, ev, nth]
    refine K.d_pure 1 rfl (K.move) (by kernel_rfl) rfl ?_
    dsimp only [setd, setn, ev, nth]
    refine K.d_pure 2 rfl (K.move) (by kernel_rfl) rfl ?_
    dsimp only [setd, setn, ev, nth]
    refine K.d_ix (M := []) 3 _ rfl hS.sl sl_31 rfl rfl rfl (by omega) (by kernel_rfl) rfl ?_
    intro p30 hp30
    try dsimp only [setd, setn, ev, nth, over, cl, eI, eP, eT, eC, List.map, List.append, List.drop, List.take]
    refine K.d_mem 4 rfl (K.load1 one_3 rfl (hp30.any)) (fun _ h => h) (by kernel_rfl) (by kernel_rfl) rfl ?_
    try dsimp only [setd, setn, ev, nth, over, cl, eI, eP, eT, eC, List.map, List.append, List.drop, List.take]
    refine K.d_pure 5 rfl (K.fieldAddr_lit fo_45_0 rfl) (by kernel_rfl) rfl ?_
    dsimp only [setd, setn, ev, nth]
    refine K.d_mem 6 rfl (K.load1_own one_3 rfl (K.m0) rfl) (fun _ h => h) (by kernel_rfl) (by kernel_rfl) rfl ?_
    try dsimp only [setd, setn, ev, nth, over, cl, eI, eP, eT, eC, List.map, List.append, List.drop, List.take]
    refine K.d_pure 7 rfl (K.sub_i64 rfl rfl (by omega)) (by kernel_rfl) rfl ?_
    dsimp only [setd, setn, ev, nth]
    refine K.d_pure 8 rfl (K.max_int rfl rfl) (by kernel_rfl) rfl ?_
    dsimp only [setd, setn, ev, nth]
    refine K.d_pure 9 rfl (K.add_i64 rfl rfl (by omega)) (by kernel_rfl) rfl ?_
    dsimp only [setd, setn, ev, nth]
    refine K.d_pure 10 rfl (K.assign) (by kernel_rfl) rfl ?_
    dsimp only [setd, setn, ev, nth]
    refine K.d_done (by kernel_rfl) ?_
    refine K.norm_block ?_
    refine K.norm_then ?_
    refine K.region_lit ?_
    refine K.seq_pure (K.add_i64 rfl rfl (by omega)) rfl ?_
    dsimp only [setd, setn, ev, nth]
    refine K.seq_pure (K.move) rfl ?_
    dsimp only [setd, setn, ev, nth]
    refine K.seq_nil ?_
    exact K.round_endW (L'' := [K.blk b6 103 [.int .i64 st, .slice A ps.length c], K.blk b2 24 [.int .i64 st, .slice A ps.length c]]) [.int .i64 (plS ps s (k + 1)), .int .i64 ((k : Int) + 1)] ⟨k + 1, rfl, rfl, by omega⟩ (by simp [K.nth, intOf]; omega) (List.Sublist.cons _ (List.Sublist.refl _)) (by kernel_rfl)
  try replace ht23 := of_decide_eq_false ht23
  refine K.exit ?_
  refine K.exit_then ?_
  refine K.exit_then ?_
  refine K.exit_here ?_
  refine K.norm_then ?_
  refine K.seq ?_
  refine K.region_lit ?_
  refine K.seq_pure (K.move) rfl ?_
  dsimp only [setd, setn, ev, nth]
  refine K.seq_pure (K.assign) rfl ?_
  dsimp only [setd, setn, ev, nth]
  refine K.seq_pure (K.assign) rfl ?_
  dsimp only [setd, setn, ev, nth]
  refine K.seq_nil ?_
  refine K.norm_then ?_
  refine K.ret ?_
  refine K.end_ret (fun w _ => K.res_tmp2 rfl w) ?_
  have e0 : k = ps.length := by omega
  subst e0
  exact K.gives rfl

set_option maxRecDepth 100000 in
theorem c16 {st : Int} {ps : List CvT} {A : Option Addr} {c : Nat} {w : World} (hR : K.Rd w A 3 eC ps) (g : Good st ps) (hcap : ps.length ≤ c) {a0 b0 : Nat} (hb0 : b0 < ps.length) (hbs : ∀ b, b < b0 → someB st (ps.take (b + 1)) = true) (hbz : someB st (ps.take (b0 + 1)) = false) (hab : a0 ≤ b0) (has : ∀ a, a0 < a → a ≤ b0 → someB st ((ps.take (b0 + 1)).drop a) = true) (haz : someB st ((ps.take (b0 + 1)).drop a0) = false) :
    Calls Try.prog 16 [.agg #[.int .i64 st, .slice A ps.length c]].toArray w (K.Gives (.tuple #[.int .i64 (a0 : Int), .int .i64 (b0 : Int), .int .i64 0]) w) := by
  have hgn := g.n
  refine K.enter (args := [.agg #[.int .i64 st, .slice A ps.length c]]) Try.func16 rfl (n := 48) rfl ?_
  simp only [List.replicate, List.cons_append, List.nil_append]
  refine K.seq ?_
  refine K.region_lit ?_
  refine K.seq_new (K.box) rfl ?_
  intro b1
  try dsimp only [setd, setn, ev, nth, over, cl, eI, eP, eT, eC, List.map, List.append, List.drop, List.take]
  refine K.seq_pure (K.assign) rfl ?_
  dsimp only [setd, setn, ev, nth]
  refine K.seq_pure (K.assign) rfl ?_
  dsimp only [setd, setn, ev, nth]
  refine K.seq_pure (K.assign) rfl ?_
  dsimp only [setd, setn, ev, nth]
  refine K.seq_nil ?_
  refine K.norm_then ?_
  refine K.seq ?_
  refine K.seq ?_
  refine K.region_lit ?_
  refine K.seq_sil (K.loadA_own ag_24 rfl (K.m0) rfl) rfl ?_
  try dsimp only [setd, setn, ev, nth, over, cl, eI, eP, eT, eC, List.map, List.append, List.drop, List.take]
  refine K.seq_call (K.call_g cal_46 (fun F w hF hw => c46 (hR.pass hw) g)) rfl ?_
  try dsimp only [setd, setn, ev, nth, over, cl, eI, eP, eT, eC, List.map, List.append, List.drop, List.take]
  refine K.seq_pure (K.move) rfl ?_
  dsimp only [setd, setn, ev, nth]
  refine K.seq_pure (K.extract rfl rfl) rfl ?_
  dsimp only [setd, setn, ev, nth]
  refine K.seq_pure (K.extract rfl rfl) rfl ?_
  dsimp only [setd, setn, ev, nth]
  refine K.seq_pure (K.extract rfl rfl) rfl ?_
  dsimp only [setd, setn, ev, nth]
  refine K.seq_pure (K.assign) rfl ?_
  dsimp only [setd, setn, ev, nth]
  refine K.seq_nil ?_
  refine K.norm_then ?_
  refine K.seq ?_
  refine K.region_lit ?_
  refine K.seq_pure (K.move) rfl ?_
  dsimp only [setd, setn, ev, nth]
  refine K.seq_pure (K.Pure.eq (K.neq rfl rfl) (show _ = Value.bool false from congrArg Value.bool (decide_eq_false (fun h => h rfl)))) rfl ?_
  dsimp only [setd, setn, ev, nth]
  refine K.seq_nil ?_
  refine K.norm_then ?_
  refine K.cond_false rfl ?_
  refine K.skip ?_
  refine K.norm_then ?_
  refine K.seq ?_
  refine K.seq ?_
  refine K.weak (List.Sublist.refl _) ?_
  refine K.region_lit ?_
  refine K.seq_pure (K.fieldAddr_lit fo_24_1 rfl) rfl ?_
  dsimp only [setd, setn, ev, nth]
  refine K.seq_sil (K.load1_own one_22 rfl (K.m0) rfl) rfl ?_
  try dsimp only [setd, setn, ev, nth, over, cl, eI, eP, eT, eC, List.map, List.append, List.drop, List.take]
  refine K.seq_pure (K.len_sl sl_22 rfl) rfl ?_
  dsimp only [setd, setn, ev, nth]
  refine K.seq_pure (K.move) rfl ?_
  dsimp only [setd, setn, ev, nth]
  refine K.seq_nil ?_
  refine K.norm_then ?_
  refine K.block ?_
  refine K.loopW [18] [2, 3, 4, 5, 19, 20, 21, 22, 23, 24, 25, 26, 27, 28, 29, 30, 31, 32, 33, 34, 35, 36, 37, 38, 39, 40, 41, 42, 43, 44, 45, 46, 47, 48] (fun vi L => ∃ k : Nat, vi = [.int .i64 (k : Int)] ∧ L = [K.blk b1 24 [.int .i64 st, .slice A ps.length c]] ∧ k ≤ b0) (fun vi => ps.length - (intOf (K.nth vi 0)).toNat) ?_ ?_
  · exact ⟨0, rfl, rfl, Nat.zero_le _⟩
  intro vi vr L hJ
  obtain ⟨k, rfl, rfl, hkn⟩ := hJ
  try dsimp only [setd, setn, ev, nth, over, cl, eI, eP, eT, eC, setM, setF, List.map, List.append, List.drop, List.take]
  refine K.seq ?_
  refine K.region_lit ?_
  refine K.seq_pure (K.lss rfl rfl) rfl ?_
  dsimp only [setd, setn, ev, nth]
  refine K.seq_nil ?_
  refine K.norm_then ?_
  refine K.seq ?_
  refine K.cond rfl (fun ht19 => ?_) (fun ht19 => ?_)
  · try replace ht19 := of_decide_eq_true ht19
    refine K.skip ?_
    refine K.norm_then ?_
    refine K.seq ?_
    refine K.block ?_
    refine K.seq ?_
    refine K.region_lit ?_
    refine K.seq_pure (K.move) rfl ?_
    dsimp only [setd, setn, ev, nth]
    refine K.seq_pure (K.assign) rfl ?_
    dsimp only [setd, setn, ev, nth]
    refine K.seq_nil ?_
    refine K.norm_then ?_
    refine K.seq ?_
    refine K.region_lit ?_
    refine K.seq_sil (K.loadA_own ag_24 rfl (K.m0) rfl) rfl ?_
    try dsimp only [setd, setn, ev, nth, over, cl, eI, eP, eT, eC, List.map, List.append, List.drop, List.take]
    refine K.seq_pure (K.build (bl103 _ _ _ _)) rfl ?_
    try dsimp only [setd, setn, ev, nth, over, cl, eI, eP, eT, eC, List.map, List.append, List.drop, List.take]
    refine K.seq_new (K.alloc zr_103) rfl ?_
    intro b5
    try dsimp only [setd, setn, ev, nth, over, cl, eI, eP, eT, eC, List.map, List.append, List.drop, List.take]
    refine K.seq_st (K.store_all sz_103 rfl rfl rfl rfl (K.rp0)) rfl ?_
    try dsimp only [setd, setn, ev, nth, over, cl, eI, eP, eT, eC, List.map, List.append, List.drop, List.take]
    refine K.seq_nil ?_
    refine K.norm_then ?_
    refine K.seq ?_
    refine K.seq ?_
    refine K.region_lit ?_
    refine K.seq_pure (K.fieldAddr_lit fo_24_1 rfl) rfl ?_
    dsimp only [setd, setn, ev, nth]
    refine K.seq_sil (K.load1_own one_22 rfl (K.m1) rfl) rfl ?_
    try dsimp only [setd, setn, ev, nth, over, cl, eI, eP, eT, eC, List.map, List.append, List.drop, List.take]
    refine K.seq_pure (K.move) rfl ?_
    dsimp only [setd, setn, ev, nth]
    refine K.seq_pure (K.add_i64 rfl rfl (by omega)) rfl ?_
    dsimp only [setd, setn, ev, nth]
    refine K.seq_pure (K.slice_hi (k + 1) sl_22 rfl rfl (by omega) (by omega)) rfl ?_
    try dsimp only [setd, setn, ev, nth, over, cl, eI, eP, eT, eC, List.map, List.append, List.drop, List.take]
    refine K.seq_pure (K.fieldAddr_lit fo_103_0 rfl) rfl ?_
    dsimp only [setd, setn, ev, nth]
    refine K.seq_pure (K.fieldAddr_lit fo_24_1 rfl) rfl ?_
    dsimp only [setd, setn, ev, nth]
    refine K.seq_st (K.store sz_22 rfl rfl rfl rfl (K.rp0)) rfl ?_
    try dsimp only [setd, setn, ev, nth, over, cl, eI, eP, eT, eC, List.map, List.append, List.drop, List.take]
    refine K.seq_nil ?_
    refine K.norm_then ?_
    refine K.seq ?_
    refine K.region_lit ?_
    refine K.seq_sil (K.loadA_own ag_103 rfl (K.m0) rfl) rfl ?_
    try dsimp only [setd, setn, ev, nth, over, cl, eI, eP, eT, eC, List.map, List.append, List.drop, List.take]
    refine K.seq_call (K.call_g cal_48 (fun F w hF hw => c48n (c := c) (n := k + 1) ((hR.pass hw).take (k + 1)) (by rw [List.length_take]; omega) (g.bands.take (k + 1)) g.s9 (by rw [List.length_take]; omega) (by rw [List.length_take]; omega))) rfl ?_
    try dsimp only [setd, setn, ev, nth, over, cl, eI, eP, eT, eC, List.map, List.append, List.drop, List.take]
    refine K.seq_nil ?_
    refine K.norm_then ?_
    refine K.cond rfl (fun ht31 => ?_) (fun ht31 => ?_)
    · try replace ht31 := of_decide_eq_true ht31
      have hkb : k ≠ b0 := fun e => by subst e; rw [hbz] at ht31; cases ht31
      refine K.exit ?_
      refine K.exit_then ?_
      refine K.exit_here ?_
      refine K.norm_then ?_
      refine K.region_lit ?_
      refine K.seq_pure (K.add_i64 rfl rfl (by omega)) rfl ?_
      dsimp only [setd, setn, ev, nth]
      refine K.seq_pure (K.move) rfl ?_
      dsimp only [setd, setn, ev, nth]
      refine K.seq_nil ?_
      exact K.round_endW (L'' := [K.blk b1 24 [.int .i64 st, .slice A ps.length c]]) [.int .i64 ((k : Int) + 1)] ⟨k + 1, rfl, rfl, by omega⟩ (by simp [K.nth, intOf]; omega) (List.Sublist.cons _ (List.Sublist.refl _)) (by kernel_rfl)
    try replace ht31 := of_decide_eq_false ht31
    have hkb : b0 = k := by
      rcases Nat.lt_or_ge k b0 with h | h
      · rw [hbs k h] at ht31; cases ht31
      · omega
    subst hkb
    refine K.skip ?_
    refine K.norm_then ?_
    refine K.seq ?_
    refine K.region_lit ?_
    refine K.seq_pure (K.move) rfl ?_
    dsimp only [setd, setn, ev, nth]
    refine K.seq_pure (K.assign) rfl ?_
    dsimp only [setd, setn, ev, nth]
    refine K.seq_nil ?_
    refine K.norm_then ?_
    refine K.block ?_
    refine K.loopW [2, 3] [4, 33, 34, 35, 36, 37, 38, 39, 40, 41, 42, 43, 44, 45, 46, 47] (fun vi L => ∃ (a : Nat) (V : Value), vi = [.int .i64 (a : Int), .int .i64 (b0 : Int)] ∧ L = [K.blk b5 103 [.int .i64 st, V], K.blk b1 24 [.int .i64 st, .slice A ps.length c]] ∧ a0 ≤ a ∧ a ≤ b0) (fun vi => (intOf (K.nth vi 0)).toNat) ?_ ?_
    · exact ⟨b0, _, rfl, rfl, hab, Nat.le_refl _⟩
    intro vi vr L hJ
    obtain ⟨a, V, rfl, rfl, haa, hab2⟩ := hJ
    try dsimp only [setd, setn, ev, nth, over, cl, eI, eP, eT, eC, setM, setF, List.map, List.append, List.drop, List.take]
    refine K.seq ?_
    refine K.block ?_
    refine K.seq ?_
    refine K.region_lit ?_
    refine K.seq_pure (K.fieldAddr_lit fo_24_1 rfl) rfl ?_
    dsimp only [setd, setn, ev, nth]
    refine K.seq_sil (K.load1_own one_22 rfl (K.m1) rfl) rfl ?_
    try dsimp only [setd, setn, ev, nth, over, cl, eI, eP, eT, eC, List.map, List.append, List.drop, List.take]
    refine K.seq_pure (K.move) rfl ?_
    dsimp only [setd, setn, ev, nth]
    refine K.seq_pure (K.move) rfl ?_
    dsimp only [setd, setn, ev, nth]
    refine K.seq_pure (K.add_i64 rfl rfl (by omega)) rfl ?_
    dsimp only [setd, setn, ev, nth]
    refine K.seq_slh (M := []) a (b0 + 1) hR.sl sl_22 rfl rfl rfl rfl (by omega) (by omega) (by omega) hcap rfl (fun B5 hB5 => ?_)
    try dsimp only [setd, setn, ev, nth, over, cl, eI, eP, eT, eC, List.map, List.append, List.drop, List.take]
    try dsimp only [setd, setn, ev, nth, over, cl, eI, eP, eT, eC, List.map, List.append, List.drop, List.take]
    refine K.seq_pure (K.fieldAddr_lit fo_103_0 rfl) rfl ?_
    dsimp only [setd, setn, ev, nth]
    refine K.seq_pure (K.fieldAddr_lit fo_24_1 rfl) rfl ?_
    dsimp only [setd, setn, ev, nth]
    refine K.seq_st (K.store sz_22 rfl rfl rfl rfl (K.rp0)) rfl ?_
    try dsimp only [setd, setn, ev, nth, over, cl, eI, eP, eT, eC, List.map, List.append, List.drop, List.take]
    refine K.seq_nil ?_
    refine K.norm_then ?_
    refine K.seq ?_
    refine K.region_lit ?_
    refine K.seq_sil (K.loadA_own ag_103 rfl (K.m0) rfl) rfl ?_
    try dsimp only [setd, setn, ev, nth, over, cl, eI, eP, eT, eC, List.map, List.append, List.drop, List.take]
    refine K.seq_call (K.call_g cal_48 (fun F w hF hw => c48 (c := c - a) (hB5.rd (fun _ h => by cases h) hw (fun _ => List.cons_ne_nil _ _)) ((g.bands.take (b0 + 1)).drop a) g.s9 (by rw [List.length_drop, List.length_take]; omega) (by rw [List.length_drop, List.length_take]; omega))) rfl ?_
    try dsimp only [setd, setn, ev, nth, over, cl, eI, eP, eT, eC, List.map, List.append, List.drop, List.take]
    first | refine K.seq_pure (K.not_d rfl) rfl ?_ | refine K.seq_pure (K.not_ rfl) rfl ?_
    try dsimp only [setd, setn, ev, nth, over, cl, eI, eP, eT, eC, List.map, List.append, List.drop, List.take]
    refine K.seq_nil ?_
    refine K.norm_then ?_
    refine K.cond rfl (fun ht45 => ?_) (fun ht45 => ?_)
    · try replace ht45 := of_decide_eq_true ht45
      refine K.seq ?_
      refine K.region_lit ?_
      refine K.seq_pure (K.move) rfl ?_
      dsimp only [setd, setn, ev, nth]
      refine K.seq_pure (K.move) rfl ?_
      dsimp only [setd, setn, ev, nth]
      refine K.seq_pure (K.assign) rfl ?_
      dsimp only [setd, setn, ev, nth]
      refine K.seq_pure (K.assign) rfl ?_
      dsimp only [setd, setn, ev, nth]
      refine K.seq_pure (K.assign) rfl ?_
      dsimp only [setd, setn, ev, nth]
      refine K.seq_nil ?_
      refine K.norm_then ?_
      refine K.ret ?_
      refine K.ret_block ?_
      refine K.ret_then ?_
      refine K.ret_then ?_
      refine K.ret_block ?_
      refine K.ret_block ?_
      refine K.ret_then ?_
      refine K.ret_then ?_
      refine K.ret_block ?_
      refine K.ret_then ?_
      refine K.end_ret (fun w _ => K.res_ttt rfl w) ?_
      have hz : someB st ((ps.take (b0 + 1)).drop a) = false := by simpa using ht45
      have hae : a0 = a := by
        rcases Nat.lt_or_ge a0 a with h | h
        · rw [has a h hab2] at hz; cases hz
        · omega
      subst hae
      exact K.gives rfl
    try replace ht45 := of_decide_eq_false ht45
    refine K.skip ?_
    refine K.norm_block ?_
    refine K.norm_then ?_
    refine K.region_lit ?_
    refine K.seq_pure (K.move) rfl ?_
    dsimp only [setd, setn, ev, nth]
    refine K.seq_pure (K.sub_i64 rfl rfl (by omega)) rfl ?_
    dsimp only [setd, setn, ev, nth]
    refine K.seq_pure (K.assign) rfl ?_
    dsimp only [setd, setn, ev, nth]
    refine K.seq_nil ?_
    have hne : a ≠ a0 := fun e => by subst e; rw [haz] at ht45; cases ht45
    exact K.round_endW (L'' := [K.blk b5 103 [.int .i64 st, .slice B5 ((ps.take (b0 + 1)).drop a).length (c - a)], K.blk b1 24 [.int .i64 st, .slice A ps.length c]]) [.int .i64 ((a : Int) - 1), .int .i64 (b0 : Int)] ⟨a - 1, _, congrArg (fun z : Int => [Value.int .i64 z, .int .i64 (b0 : Int)]) (by omega), rfl, by omega, by omega⟩ (by simp [K.nth, intOf]; omega) (List.Sublist.refl _) (by kernel_rfl)
  try replace ht19 := of_decide_eq_false ht19
  exact absurd ht19 (by omega)

end Go.Proofs.Ytfbglomliankmaa.Cv
end
section
set_option linter.unusedSimpArgs false
set_option linter.unusedVariables false
namespace Go.Proofs.Ytfbglomliankmaa.Cv
open Go.RowKit Go
open Go.K (setd setn ev nth over cl eI eP eT setM setF)
attribute [local irreducible] K.blk K.row
theorem mk1_31 : K.mk1 Try.prog 31 = some (3, 8, .int .i64 0) := by kernel_rfl
theorem bs59 (a b : Int) : K.Bs Try.prog 59 1 [(0, .agg #[.int .i64 a, .int .i64 b])] 64 [.int .i64 a, .int .i64 b] := fun w => by kernel_rfl
theorem bs2 (a b : Int) : K.Bs Try.prog 31 2 [(0, .int .i64 a), (1, .int .i64 b)] 3 [.int .i64 a, .int .i64 b] := fun w => by kernel_rfl
theorem eI_len {xs : List Int} : (xs.flatMap K.eI).length = xs.length := by
  have := K.flat_len (e := K.eI) (size := 1) (fun _ => rfl) xs
  rw [this]; omega
theorem eI_at {xs : List Int} {k : Nat} (h : k < xs.length) : (List.drop 0 (xs.flatMap K.eI))[0 + k * 1]? = some (.int .i64 (xs.getD k default)) := by
  rw [List.drop_zero, show 0 + k * 1 = k * 1 + 0 by omega, K.flat_at (e := K.eI) (size := 1) (fun _ => rfl) (by decide) xs k (xs.getD k default) (by rw [List.getD_eq_getElem?_getD, List.getElem?_eq_getElem h]; rfl)]
  rfl
def mxK (d : List Int) (k : Nat) : Int := (d.take k).foldl max (d.getD 0 default)
theorem mxK_s {d : List Int} {k : Nat} (h : k < d.length) : mxK d (k + 1) = max (mxK d k) (d.getD k default) := by
  unfold mxK
  rw [List.take_add_one, List.getElem?_eq_getElem h, List.foldl_append, List.getD_eq_getElem?_getD (i := k), List.getElem?_eq_getElem h]
  rfl
theorem mxK_1 {d : List Int} (h : 0 < d.length) : mxK d 1 = d.getD 0 default := by
  rw [show (1 : Nat) = 0 + 1 from rfl, mxK_s h]
  show max (d.getD 0 default) (d.getD 0 default) = _
  omega
theorem mxK_all {d : List Int} : mxK d d.length = mxS d := by unfold mxK mxS; rw [List.take_length]
theorem mxK_bd {d : List Int} (h : ∀ x ∈ d, 0 ≤ x ∧ x ≤ 9000) (h0 : 0 < d.length) : ∀ k, k ≤ d.length → 0 ≤ mxK d k ∧ mxK d k ≤ 9000
  | 0, _ => h _ (K.gt_mem h0)
  | k + 1, hk => by
    rw [mxK_s hk]
    have h1 := mxK_bd h h0 k (by omega)
    have h2 := h _ (K.gt_mem (xs := d) (k := k) hk)
    omega
theorem mxS_bd {d : List Int} (h : ∀ x ∈ d, 0 ≤ x ∧ x ≤ 9000) (h0 : 0 < d.length) : 0 ≤ mxS d ∧ mxS d ≤ 9000 := by
  rw [← mxK_all]; exact mxK_bd h h0 _ (Nat.le_refl _)

set_option maxRecDepth 100000 in
theorem c51 {A : Option Addr} {c : Nat} {xs : List Int} {w : World} (hX : K.Rd w A 1 K.eI xs) (h0 : 0 < xs.length) (hn : xs.length ≤ 1000000) :
    Calls Try.prog 51 [.slice A xs.length c].toArray w (K.Gives (.int .i64 (mxS xs)) w) := by
  refine K.enter (args := [.slice A xs.length c]) Try.func51 rfl (n := 24) rfl ?_
  simp only [List.replicate, List.cons_append, List.nil_append]
  refine K.seq ?_
  refine K.region_lit ?_
  refine K.seq_pure (K.assign) rfl ?_
  dsimp only [setd, setn, ev, nth]
  refine K.seq_nil ?_
  refine K.norm_then ?_
  refine K.seq ?_
  refine K.seq ?_
  refine K.region_lit ?_
  refine K.seq_pure (K.move) rfl ?_
  dsimp only [setd, setn, ev, nth]
  refine K.seq_pure (K.len_sl sl_31 rfl) rfl ?_
  dsimp only [setd, setn, ev, nth]
  refine K.seq_pure (K.lss rfl rfl) rfl ?_
  dsimp only [setd, setn, ev, nth]
  refine K.seq_nil ?_
  refine K.norm_then ?_
  refine K.cond rfl (fun ht7 => ?_) (fun ht7 => ?_)
  · try replace ht7 := of_decide_eq_true ht7
    exact absurd ht7 (by omega)
  try replace ht7 := of_decide_eq_false ht7
  refine K.skip ?_
  refine K.norm_then ?_
  refine K.seq ?_
  refine K.region_lit ?_
  refine K.seq_pure (K.move) rfl ?_
  dsimp only [setd, setn, ev, nth]
  refine K.seq_ix (M := []) 0 hX.sl sl_31 rfl rfl (by omega) (by omega) rfl ?_
  intro p10 hp10
  try dsimp only [setd, setn, ev, nth, over, cl, eI, eP, eT, eC, List.map, List.append, List.drop, List.take]
  refine K.seq_sil (K.load1 one_3 rfl (hp10.any)) rfl ?_
  try dsimp only [setd, setn, ev, nth, over, cl, eI, eP, eT, eC, List.map, List.append, List.drop, List.take]
  refine K.seq_pure (K.assign) rfl ?_
  dsimp only [setd, setn, ev, nth]
  refine K.seq_nil ?_
  refine K.norm_then ?_
  refine K.seq ?_
  refine K.seq ?_
  refine K.region_lit ?_
  refine K.seq_pure (K.assign) rfl ?_
  dsimp only [setd, setn, ev, nth]
  refine K.seq_nil ?_
  refine K.norm_then ?_
  refine K.block ?_
  refine K.loopW [3, 4] [12, 13, 14, 15, 16, 17, 18, 19, 20, 21, 22, 23] (fun vi L => ∃ k : Nat, vi = [.int .i64 (mxK xs k), .int .i64 (k : Int)] ∧ L = [] ∧ 1 ≤ k ∧ k ≤ xs.length) (fun vi => xs.length - (intOf (K.nth vi 1)).toNat) ?_ ?_
  · exact ⟨1, by rw [mxK_1 h0]; rfl, rfl, Nat.le_refl _, h0⟩
  intro vi vr L hJ
  obtain ⟨k, rfl, rfl, hk1, hkn⟩ := hJ
  try dsimp only [setd, setn, ev, nth, over, cl, eI, eP, eT, eC, setM, setF, List.map, List.append, List.drop, List.take]
  refine K.seq ?_
  refine K.seq ?_
  refine K.region_lit ?_
  refine K.seq_pure (K.move) rfl ?_
  dsimp only [setd, setn, ev, nth]
  refine K.seq_pure (K.move) rfl ?_
  dsimp only [setd, setn, ev, nth]
  refine K.seq_pure (K.len_sl sl_31 rfl) rfl ?_
  dsimp only [setd, setn, ev, nth]
  refine K.seq_pure (K.lss rfl rfl) rfl ?_
  dsimp only [setd, setn, ev, nth]
  refine K.seq_nil ?_
  refine K.norm_then ?_
  refine K.cond rfl (fun ht15 => ?_) (fun ht15 => ?_)
  · try replace ht15 := of_decide_eq_true ht15
    have hk : k < xs.length := by omega
    refine K.skip ?_
    refine K.norm_then ?_
    refine K.seq ?_
    refine K.block ?_
    refine K.region_lit ?_
    refine K.seq_pure (K.move) rfl ?_
    dsimp only [setd, setn, ev, nth]
    refine K.seq_pure (K.move) rfl ?_
    dsimp only [setd, setn, ev, nth]
    refine K.seq_pure (K.move) rfl ?_
    dsimp only [setd, setn, ev, nth]
    refine K.seq_ix (M := []) _ hX.sl sl_31 rfl rfl rfl (by omega) rfl ?_
    intro p21 hp21
    try dsimp only [setd, setn, ev, nth, over, cl, eI, eP, eT, eC, List.map, List.append, List.drop, List.take]
    refine K.seq_sil (K.load1 one_3 rfl (hp21.any)) rfl ?_
    try dsimp only [setd, setn, ev, nth, over, cl, eI, eP, eT, eC, List.map, List.append, List.drop, List.take]
    refine K.seq_pure (K.max_int rfl rfl) rfl ?_
    dsimp only [setd, setn, ev, nth]
    refine K.seq_pure (K.assign) rfl ?_
    dsimp only [setd, setn, ev, nth]
    refine K.seq_nil ?_
    refine K.norm_block ?_
    refine K.norm_then ?_
    refine K.region_lit ?_
    refine K.seq_pure (K.move) rfl ?_
    dsimp only [setd, setn, ev, nth]
    refine K.seq_pure (K.add_i64 rfl rfl (by omega)) rfl ?_
    dsimp only [setd, setn, ev, nth]
    refine K.seq_pure (K.assign) rfl ?_
    dsimp only [setd, setn, ev, nth]
    refine K.seq_nil ?_
    exact K.round_endW (L'' := []) [.int .i64 (max (mxK xs k) (xs.getD k default)), .int .i64 ((k : Int) + 1)] ⟨k + 1, by rw [mxK_s hk]; rfl, rfl, by omega, by omega⟩ (by simp [K.nth, intOf]; omega) (List.nil_sublist _) (by kernel_rfl)
  try replace ht15 := of_decide_eq_false ht15
  refine K.exit ?_
  refine K.exit_then ?_
  refine K.exit_then ?_
  refine K.exit_here ?_
  refine K.norm_then ?_
  refine K.seq ?_
  refine K.region_lit ?_
  refine K.seq_pure (K.move) rfl ?_
  dsimp only [setd, setn, ev, nth]
  refine K.seq_pure (K.assign) rfl ?_
  dsimp only [setd, setn, ev, nth]
  refine K.seq_nil ?_
  refine K.norm_then ?_
  refine K.ret ?_
  refine K.end_ret (fun w _ => K.res_tmp rfl w) ?_
  have e0 : k = xs.length := by omega
  subst e0
  exact K.gives_i rfl (by rw [mxK_all])

theorem c51n {A : Option Addr} {c n : Nat} {xs : List Int} {w : World} (hX : K.Rd w A 1 K.eI xs) (hnl : xs.length = n) (h0 : 0 < n) (hn : n ≤ 1000000) : Calls Try.prog 51 [.slice A n c].toArray w (K.Gives (.int .i64 (mxS xs)) w) := by
  subst hnl
  exact c51 hX h0 hn

set_option maxRecDepth 100000 in
set_option maxHeartbeats 2000000 in
theorem c19 {st : Int} {ps : List CvT} {s : List Int} {A B : Option Addr} {c d : Nat} {w : World} (hR : K.Rd w A 3 eC ps) (hS : K.Rd w B 1 K.eI s) (g : Good st ps) (hl : s.length = ps.length) (hb : ∀ x ∈ s, 0 ≤ x ∧ x ≤ 9000) (hmany : mnS ps s ps.length ≤ 60) :
    Calls Try.prog 19 [.agg #[.int .i64 st, .slice A ps.length c], .slice B s.length d].toArray w (K.RetSE 64 2 K.eP (psS (dpS ps s ps.length) (mxS (dpS ps s ps.length)).toNat) 0 w) := by
  have hgn := g.n
  have hdl : ∀ k, (dpS ps s k).length = ps.length + 1 := fun k => dpS_len
  have hdm := @dpS_mem st ps s g hb hl ps.length
  have hmx := mxS_bd hdm (by rw [dpS_len]; omega)
  have hpl := ps_len (d := (dpS ps s ps.length)) (mxS (dpS ps s ps.length)).toNat
  refine K.enter (args := [.agg #[.int .i64 st, .slice A ps.length c], .slice B s.length d]) Try.func19 rfl (n := 103) rfl ?_
  simp only [List.replicate, List.cons_append, List.nil_append]
  refine K.seq ?_
  refine K.region_lit ?_
  refine K.seq_new (K.box) rfl ?_
  intro b2
  try dsimp only [setd, setn, ev, nth, over, cl, eI, eP, eT, eC, List.map, List.append, List.drop, List.take]
  refine K.seq_pure (K.assign) rfl ?_
  dsimp only [setd, setn, ev, nth]
  refine K.seq_pure (K.assign) rfl ?_
  dsimp only [setd, setn, ev, nth]
  refine K.seq_nil ?_
  refine K.norm_then ?_
  refine K.seq ?_
  refine K.region_lit ?_
  refine K.seq_sil (K.loadA_own ag_24 rfl (K.m0) rfl) rfl ?_
  try dsimp only [setd, setn, ev, nth, over, cl, eI, eP, eT, eC, List.map, List.append, List.drop, List.take]
  refine K.seq_pure (K.move) rfl ?_
  dsimp only [setd, setn, ev, nth]
  refine K.seq_call (K.call_g cal_44 (fun F w hF hw => c44 (hR.pass hw) (hS.pass hw) g hl hb)) rfl ?_
  try dsimp only [setd, setn, ev, nth, over, cl, eI, eP, eT, eC, List.map, List.append, List.drop, List.take]
  refine K.seq_pure (K.move) rfl ?_
  dsimp only [setd, setn, ev, nth]
  refine K.seq_pure (K.extract rfl rfl) rfl ?_
  dsimp only [setd, setn, ev, nth]
  refine K.seq_pure (K.extract rfl rfl) rfl ?_
  dsimp only [setd, setn, ev, nth]
  refine K.seq_new (K.alloc zr_103) rfl ?_
  intro b6
  try dsimp only [setd, setn, ev, nth, over, cl, eI, eP, eT, eC, List.map, List.append, List.drop, List.take]
  refine K.seq_st (K.store_all sz_103 rfl rfl rfl rfl (K.rp0)) rfl ?_
  try dsimp only [setd, setn, ev, nth, over, cl, eI, eP, eT, eC, List.map, List.append, List.drop, List.take]
  refine K.seq_pure (K.assign) rfl ?_
  dsimp only [setd, setn, ev, nth]
  refine K.seq_nil ?_
  refine K.norm_then ?_
  refine K.seq ?_
  refine K.seq ?_
  refine K.region_lit ?_
  refine K.seq_pure (K.move) rfl ?_
  dsimp only [setd, setn, ev, nth]
  refine K.seq_pure (K.Pure.eq (K.neq rfl rfl) (show _ = Value.bool false from congrArg Value.bool (decide_eq_false (fun h => h rfl)))) rfl ?_
  dsimp only [setd, setn, ev, nth]
  refine K.seq_nil ?_
  refine K.norm_then ?_
  refine K.cond_false rfl ?_
  refine K.skip ?_
  refine K.norm_then ?_
  refine K.seq ?_
  refine K.region_lit ?_
  refine K.seq_pure (K.fieldAddr_lit fo_24_1 rfl) rfl ?_
  dsimp only [setd, setn, ev, nth]
  refine K.seq_sil (K.load1_own one_22 rfl (K.m1) rfl) rfl ?_
  try dsimp only [setd, setn, ev, nth, over, cl, eI, eP, eT, eC, List.map, List.append, List.drop, List.take]
  refine K.seq_pure (K.len_sl sl_22 rfl) rfl ?_
  dsimp only [setd, setn, ev, nth]
  refine K.seq_pure (K.Pure.eq (K.add_i64 rfl rfl (by omega)) (show _ = Value.int .i64 ((ps.length + 1 : Nat) : Int) from congrArg (Value.int .i64) (by omega))) rfl ?_
  dsimp only [setd, setn, ev, nth]
  refine K.seq_new (K.mkSlice (n := (ps.length + 1)) mk1_31 rfl rfl (by omega) (by omega)) rfl ?_
  intro b29
  try dsimp only [setd, setn, ev, nth, over, cl, eI, eP, eT, eC, List.map, List.append, List.drop, List.take]
  rw [K.rep_int, ← dpS_0 (s := s)]
  try dsimp only [setd, setn, ev, nth, over, cl, eI, eP, eT, eC, List.map, List.append, List.drop, List.take]
  refine K.seq_pure (K.assign) rfl ?_
  dsimp only [setd, setn, ev, nth]
  refine K.seq_nil ?_
  refine K.norm_then ?_
  refine K.seq ?_
  refine K.region_lit ?_
  refine K.seq_pure (K.assign) rfl ?_
  dsimp only [setd, setn, ev, nth]
  refine K.seq_pure (K.assign) rfl ?_
  dsimp only [setd, setn, ev, nth]
  refine K.seq_nil ?_
  refine K.norm_then ?_
  refine K.seq ?_
  refine K.seq ?_
  refine K.region_lit ?_
  refine K.seq_pure (K.fieldAddr_lit fo_103_0 rfl) rfl ?_
  dsimp only [setd, setn, ev, nth]
  refine K.seq_pure (K.fieldAddr_lit fo_24_1 rfl) rfl ?_
  dsimp only [setd, setn, ev, nth]
  refine K.seq_sil (K.load1_own one_22 rfl (K.m1) rfl) rfl ?_
  try dsimp only [setd, setn, ev, nth, over, cl, eI, eP, eT, eC, List.map, List.append, List.drop, List.take]
  refine K.seq_pure (K.len_sl sl_22 rfl) rfl ?_
  dsimp only [setd, setn, ev, nth]
  refine K.seq_pure (K.move) rfl ?_
  dsimp only [setd, setn, ev, nth]
  refine K.seq_nil ?_
  refine K.norm_then ?_
  refine K.block ?_
  refine K.loopW [8, 9, 34] [10, 11, 35, 36, 37, 38, 39, 40, 41, 42, 43, 44, 45, 46, 47, 48, 49, 50, 51, 52, 53, 54, 55, 56, 57, 58, 59, 60, 61, 62, 63] (fun vi L => ∃ k : Nat, vi = [.int .i64 (mnS ps s k), .int .i64 (bfS ps s k), .int .i64 (k : Int)] ∧ L = [K.blk b29 3 ((dpS ps s k).flatMap K.eI), K.blk b6 103 [.int .i64 st, .slice A ps.length c], K.blk b2 24 [.int .i64 st, .slice A ps.length c]] ∧ k ≤ ps.length) (fun vi => ps.length - (intOf (K.nth vi 2)).toNat) ?_ ?_
  · exact ⟨0, rfl, rfl, Nat.zero_le _⟩
  intro vi vr L hJ
  obtain ⟨k, rfl, rfl, hkn⟩ := hJ
  try dsimp only [setd, setn, ev, nth, over, cl, eI, eP, eT, eC, setM, setF, List.map, List.append, List.drop, List.take]
  refine K.seq ?_
  refine K.region_lit ?_
  refine K.seq_pure (K.lss rfl rfl) rfl ?_
  dsimp only [setd, setn, ev, nth]
  refine K.seq_nil ?_
  refine K.norm_then ?_
  refine K.seq ?_
  refine K.cond rfl (fun ht35 => ?_) (fun ht35 => ?_)
  · try replace ht35 := of_decide_eq_true ht35
    have hk : k < ps.length := by omega
    have hpk := g.p k hk
    have hsk := hb _ (K.gt_mem (xs := s) (k := k) (by omega))
    have hmb := mnS_bd g hb hl k (by omega)
    have hbb := bfS_bd g hb hl k (by omega)
    have hab := dpA_bd g hb hl hk
    have hdk := hdl k
    have hfit : 0 + k * 1 + 1 ≤ ((dpS ps s k).flatMap K.eI).length := by rw [eI_len]; omega
    have hset : K.over ((dpS ps s k).flatMap K.eI) (0 + k * 1) (K.cl (.int .i64 (max 0 ((ps.getD k default).bd - s.getD k default)))) = (dpS ps s (k + 1)).flatMap K.eI := by
      rw [← dpS_set hk]
      exact K.set_cut0 (e := K.eI) (size := 1) (x := (dpA ps s k)) (fun _ => rfl) (by omega)
    have hc := eI_at (xs := (dpS ps s (k + 1))) (k := k) (by rw [hdl]; omega)
    rw [dpS_at hk] at hc
    refine K.skip ?_
    refine K.norm_then ?_
    refine K.seq ?_
    refine K.block ?_
    refine K.seq ?_
    refine K.region_lit ?_
    refine K.seq_pure (K.move) rfl ?_
    dsimp only [setd, setn, ev, nth]
    refine K.seq_ix (M := []) _ hR.sl sl_22 rfl rfl rfl (by omega) rfl ?_
    intro p37 hp37
    try dsimp only [setd, setn, ev, nth, over, cl, eI, eP, eT, eC, List.map, List.append, List.drop, List.take]
    refine K.seq_sil (K.loadA_p ag_45 rfl (hp37.any) rfl) rfl ?_
    try dsimp only [setd, setn, ev, nth, over, cl, eI, eP, eT, eC, List.map, List.append, List.drop, List.take]
    refine K.seq_new (K.alloc zr_45) rfl ?_
    intro b11
    try dsimp only [setd, setn, ev, nth, over, cl, eI, eP, eT, eC, List.map, List.append, List.drop, List.take]
    refine K.seq_pure (K.assign) rfl ?_
    dsimp only [setd, setn, ev, nth]
    refine K.seq_st (K.store_all sz_45 rfl rfl rfl rfl (K.rp0)) rfl ?_
    try dsimp only [setd, setn, ev, nth, over, cl, eI, eP, eT, eC, List.map, List.append, List.drop, List.take]
    refine K.seq_nil ?_
    refine K.norm_then ?_
    refine K.seq ?_
    refine K.draw_L [11] Try_mixed ?_
    refine K.d_pure 0 rfl (K.move) (by kernel_rfl) rfl ?_
    dsimp only [setd, setn, ev, nth]
    refine K.d_pure 1 rfl (K.move) (by kernel_rfl) rfl ?_
    dsimp only [setd, setn, ev, nth]
    refine K.d_pure 2 rfl (K.fieldAddr_lit fo_45_0 rfl) (by kernel_rfl) rfl ?_
    dsimp only [setd, setn, ev, nth]
    refine K.d_mem 3 rfl (K.load1_own one_3 rfl (K.m0) rfl) (fun _ h => h) (by kernel_rfl) (by kernel_rfl) rfl ?_
    try dsimp only [setd, setn, ev, nth, over, cl, eI, eP, eT, eC, List.map, List.append, List.drop, List.take]
    refine K.d_pure 4 rfl (K.move) (by kernel_rfl) rfl ?_
    dsimp only [setd, setn, ev, nth]
    refine K.d_pure 5 rfl (K.move) (by kernel_rfl) rfl ?_
    dsimp only [setd, setn, ev, nth]
    refine K.d_ix (M := []) 6 _ rfl hS.sl sl_31 rfl rfl rfl (by omega) (by kernel_rfl) rfl ?_
    intro p45 hp45
    try dsimp only [setd, setn, ev, nth, over, cl, eI, eP, eT, eC, List.map, List.append, List.drop, List.take]
    refine K.d_mem 7 rfl (K.load1 one_3 rfl (hp45.any)) (fun _ h => h) (by kernel_rfl) (by kernel_rfl) rfl ?_
    try dsimp only [setd, setn, ev, nth, over, cl, eI, eP, eT, eC, List.map, List.append, List.drop, List.take]
    refine K.d_pure 8 rfl (K.sub_i64 rfl rfl (by omega)) (by kernel_rfl) rfl ?_
    dsimp only [setd, setn, ev, nth]
    refine K.d_pure 9 rfl (K.max_int rfl rfl) (by kernel_rfl) rfl ?_
    dsimp only [setd, setn, ev, nth]
    refine K.d_pure 10 rfl (K.Pure.eq (K.indexAddr_sl sl_31 rfl rfl (by omega) (by omega)) (show _ = Value.pointer (some ⟨b29, 0 + k * 1, none⟩) from by rw [K.add_lit, Int.toNat_natCast])) (by kernel_rfl) rfl ?_
    try dsimp only [setd, setn, ev, nth, over, cl, eI, eP, eT, eC, List.map, List.append, List.drop, List.take]
    try dsimp only [setd, setn, ev, nth, over, cl, eI, eP, eT, eC, List.map, List.append, List.drop, List.take]
    refine K.d_last 11 rfl (K.store_ix (cs := (dpS ps s k).flatMap K.eI) sz_3 rfl rfl hfit rfl (K.rpe K.rp1 (congrArg (K.blk b29 3) hset.symm))) rfl (by kernel_rfl) rfl ?_
    intro _ _
    try dsimp only [setd, setn, ev, nth, over, cl, eI, eP, eT, eC, List.map, List.append, List.drop, List.take]
    try dsimp only [setd, setn, ev, nth, over, cl, eI, eP, eT, eC, List.map, List.append, List.drop, List.take]
    refine K.d_done (by kernel_rfl) ?_
    refine K.norm_then ?_
    refine K.seq ?_
    refine K.region_lit ?_
    refine K.seq_pure (K.move) rfl ?_
    dsimp only [setd, setn, ev, nth]
    refine K.seq_pure (K.move) rfl ?_
    dsimp only [setd, setn, ev, nth]
    refine K.seq_pure (K.move) rfl ?_
    dsimp only [setd, setn, ev, nth]
    refine K.seq_pure (K.Pure.eq (K.indexAddr_sl sl_31 rfl rfl (by omega) (by omega)) (show _ = Value.pointer (some ⟨b29, 0 + k * 1, none⟩) from by rw [K.add_lit, Int.toNat_natCast])) rfl ?_
    try dsimp only [setd, setn, ev, nth, over, cl, eI, eP, eT, eC, List.map, List.append, List.drop, List.take]
    try dsimp only [setd, setn, ev, nth, over, cl, eI, eP, eT, eC, List.map, List.append, List.drop, List.take]
    refine K.seq_sil (K.load_at one_3 rfl (K.PtrL.own' ((K.m1))) hc) rfl ?_
    try dsimp only [setd, setn, ev, nth, over, cl, eI, eP, eT, eC, List.map, List.append, List.drop, List.take]
    refine K.seq_pure (K.move) rfl ?_
    dsimp only [setd, setn, ev, nth]
    refine K.seq_pure (K.sub_i64 rfl rfl (by omega)) rfl ?_
    dsimp only [setd, setn, ev, nth]
    refine K.seq_pure (K.max_int rfl rfl) rfl ?_
    dsimp only [setd, setn, ev, nth]
    refine K.seq_pure (K.add_i64 rfl rfl (by omega)) rfl ?_
    dsimp only [setd, setn, ev, nth]
    refine K.seq_pure (K.assign) rfl ?_
    dsimp only [setd, setn, ev, nth]
    refine K.seq_nil ?_
    refine K.norm_then ?_
    refine K.region_lit ?_
    refine K.seq_pure (K.move) rfl ?_
    dsimp only [setd, setn, ev, nth]
    refine K.seq_pure (K.move) rfl ?_
    dsimp only [setd, setn, ev, nth]
    refine K.seq_pure (K.Pure.eq (K.indexAddr_sl sl_31 rfl rfl (by omega) (by omega)) (show _ = Value.pointer (some ⟨b29, 0 + k * 1, none⟩) from by rw [K.add_lit, Int.toNat_natCast])) rfl ?_
    try dsimp only [setd, setn, ev, nth, over, cl, eI, eP, eT, eC, List.map, List.append, List.drop, List.take]
    try dsimp only [setd, setn, ev, nth, over, cl, eI, eP, eT, eC, List.map, List.append, List.drop, List.take]
    refine K.seq_sil (K.load_at one_3 rfl (K.PtrL.own' ((K.m1))) hc) rfl ?_
    try dsimp only [setd, setn, ev, nth, over, cl, eI, eP, eT, eC, List.map, List.append, List.drop, List.take]
    refine K.seq_pure (K.assign) rfl ?_
    dsimp only [setd, setn, ev, nth]
    refine K.seq_nil ?_
    refine K.norm_block ?_
    refine K.norm_then ?_
    refine K.region_lit ?_
    refine K.seq_pure (K.add_i64 rfl rfl (by omega)) rfl ?_
    dsimp only [setd, setn, ev, nth]
    refine K.seq_pure (K.move) rfl ?_
    dsimp only [setd, setn, ev, nth]
    refine K.seq_nil ?_
    exact K.round_endW (L'' := [K.blk b29 3 ((dpS ps s (k + 1)).flatMap K.eI), K.blk b6 103 [.int .i64 st, .slice A ps.length c], K.blk b2 24 [.int .i64 st, .slice A ps.length c]]) [.int .i64 (mnS ps s k + max 0 ((dpA ps s k) - (bfS ps s k))), .int .i64 (dpA ps s k), .int .i64 ((k : Int) + 1)] ⟨k + 1, rfl, rfl, by omega⟩ (by simp [K.nth, intOf]; omega) (List.Sublist.cons _ (List.Sublist.refl _)) (by kernel_rfl)
  try replace ht35 := of_decide_eq_false ht35
  have e0 : k = ps.length := by omega
  subst e0
  refine K.exit ?_
  refine K.exit_then ?_
  refine K.exit_then ?_
  refine K.exit_here ?_
  refine K.norm_then ?_
  refine K.seq ?_
  refine K.seq ?_
  refine K.region_lit ?_
  refine K.seq_pure (K.move) rfl ?_
  dsimp only [setd, setn, ev, nth]
  refine K.seq_pure (K.gtr rfl rfl) rfl ?_
  dsimp only [setd, setn, ev, nth]
  refine K.seq_nil ?_
  refine K.norm_then ?_
  refine K.cond rfl (fun ht65 => ?_) (fun ht65 => ?_)
  · try replace ht65 := of_decide_eq_true ht65
    exact absurd ht65 (by omega)
  try replace ht65 := of_decide_eq_false ht65
  refine K.skip ?_
  refine K.norm_then ?_
  refine K.seq ?_
  refine K.seq ?_
  refine K.region_lit ?_
  refine K.seq_pure (K.move) rfl ?_
  dsimp only [setd, setn, ev, nth]
  refine K.seq_call (K.call_g cal_51 (fun F w hF hw => c51n (c := ps.length + 1) (K.Rd.lit (e := K.eI) (xs := (dpS ps s ps.length)) hw (hF _ (K.m0)) (fun _ => rfl) (by decide) rfl) dpS_len (by omega) (by omega))) rfl ?_
  try dsimp only [setd, setn, ev, nth, over, cl, eI, eP, eT, eC, List.map, List.append, List.drop, List.take]
  refine K.nil_row (e := 64) (size := 2) ?_
  refine K.seq_pure (K.move) rfl ?_
  dsimp only [setd, setn, ev, nth]
  refine K.seq_nil ?_
  refine K.norm_then ?_
  refine K.block ?_
  refine K.loopW [4, 68] [12, 13, 14, 15, 69, 70, 71, 72, 73, 74, 75, 76, 77, 78, 79, 80, 81, 82, 83, 84, 85, 86, 87, 88, 89, 90, 91, 92, 93, 94, 95, 96, 97, 98, 99, 100, 101, 102, 103] (fun vi L => ∃ (v : Nat) (Q : Option Addr) (q : Nat), vi = [.slice Q (psS (dpS ps s ps.length) v).length q, .int .i64 (v : Int)] ∧ L = [K.row (.slice Q (psS (dpS ps s ps.length) v).length q) 64 2 (psS (dpS ps s ps.length) v).length ((psS (dpS ps s ps.length) v).flatMap K.eP), K.blk b29 3 ((dpS ps s ps.length).flatMap K.eI), K.blk b6 103 [.int .i64 st, .slice A ps.length c], K.blk b2 24 [.int .i64 st, .slice A ps.length c]] ∧ v ≤ (mxS (dpS ps s ps.length)).toNat) (fun vi => (mxS (dpS ps s ps.length)).toNat - (intOf (K.nth vi 1)).toNat) ?_ ?_
  · exact ⟨0, none, 0, rfl, rfl, Nat.zero_le _⟩
  intro vi vr L hJ
  obtain ⟨v, Q, q, rfl, rfl, hvn⟩ := hJ
  try dsimp only [setd, setn, ev, nth, over, cl, eI, eP, eT, eC, setM, setF, List.map, List.append, List.drop, List.take]
  refine K.seq ?_
  refine K.region_lit ?_
  refine K.seq_pure (K.lss rfl rfl) rfl ?_
  dsimp only [setd, setn, ev, nth]
  refine K.seq_nil ?_
  refine K.norm_then ?_
  refine K.seq ?_
  refine K.cond rfl (fun ht69 => ?_) (fun ht69 => ?_)
  · try replace ht69 := of_decide_eq_true ht69
    have hlvb := ps_len (d := (dpS ps s ps.length)) v
    have hvb : v * (dpS ps s ps.length).length ≤ 9000 * 11 := Nat.mul_le_mul (by omega) (by rw [hdl]; omega)
    refine K.skip ?_
    refine K.norm_then ?_
    refine K.seq ?_
    refine K.block ?_
    refine K.seq ?_
    refine K.region_lit ?_
    refine K.seq_pure (K.move) rfl ?_
    dsimp only [setd, setn, ev, nth]
    refine K.seq_pure (K.assign) rfl ?_
    dsimp only [setd, setn, ev, nth]
    refine K.seq_nil ?_
    refine K.norm_then ?_
    refine K.seq ?_
    refine K.region_lit ?_
    refine K.seq_pure (K.assign) rfl ?_
    dsimp only [setd, setn, ev, nth]
    refine K.seq_nil ?_
    refine K.norm_then ?_
    refine K.seq ?_
    refine K.region_lit ?_
    refine K.seq_pure (K.move) rfl ?_
    dsimp only [setd, setn, ev, nth]
    refine K.seq_pure (K.len_sl sl_31 rfl) rfl ?_
    dsimp only [setd, setn, ev, nth]
    refine K.seq_pure (K.move) rfl ?_
    dsimp only [setd, setn, ev, nth]
    refine K.seq_nil ?_
    refine K.norm_then ?_
    refine K.block ?_
    refine K.loopW [4, 13, 73] [14, 15, 74, 75, 76, 77, 78, 79, 80, 81, 82, 83, 84, 85, 86, 87, 88, 89, 90, 91, 92, 93, 94, 95, 96, 97, 98, 99, 100, 101, 102] (fun vi L => ∃ (k : Nat) (Q : Option Addr) (q : Nat), vi = [.slice Q (lvS (dpS ps s ps.length) (v : Int) (psS (dpS ps s ps.length) v) k).2.length q, .int .i64 (lvS (dpS ps s ps.length) (v : Int) (psS (dpS ps s ps.length) v) k).1, .int .i64 (k : Int)] ∧ L = [K.row (.slice Q (lvS (dpS ps s ps.length) (v : Int) (psS (dpS ps s ps.length) v) k).2.length q) 64 2 (lvS (dpS ps s ps.length) (v : Int) (psS (dpS ps s ps.length) v) k).2.length ((lvS (dpS ps s ps.length) (v : Int) (psS (dpS ps s ps.length) v) k).2.flatMap K.eP), K.blk b29 3 ((dpS ps s ps.length).flatMap K.eI), K.blk b6 103 [.int .i64 st, .slice A ps.length c], K.blk b2 24 [.int .i64 st, .slice A ps.length c]] ∧ k ≤ ps.length + 1) (fun vi => ps.length + 1 - (intOf (K.nth vi 2)).toNat) ?_ ?_
    · exact ⟨0, Q, q, rfl, rfl, Nat.zero_le _⟩
    intro vi vr L hJ
    obtain ⟨k, Q, q, rfl, rfl, hkn⟩ := hJ
    try dsimp only [setd, setn, ev, nth, over, cl, eI, eP, eT, eC, setM, setF, List.map, List.append, List.drop, List.take]
    refine K.seq ?_
    refine K.region_lit ?_
    refine K.seq_pure (K.lss rfl rfl) rfl ?_
    dsimp only [setd, setn, ev, nth]
    refine K.seq_nil ?_
    refine K.norm_then ?_
    refine K.seq ?_
    refine K.cond rfl (fun ht74 => ?_) (fun ht74 => ?_)
    · try replace ht74 := of_decide_eq_true ht74
      have hk : k < (dpS ps s ps.length).length := by rw [hdl]; omega
      have hk2 := hdl ps.length
      have hcd := eI_at (xs := (dpS ps s ps.length)) (k := k) hk
      have hlb := lv_bd (d := (dpS ps s ps.length)) (v := (v : Int)) (out := (psS (dpS ps s ps.length) v)) k
      refine K.skip ?_
      refine K.norm_then ?_
      refine K.seq ?_
      refine K.block ?_
      refine K.seq ?_
      refine K.region_lit ?_
      refine K.seq_pure (K.move) rfl ?_
      dsimp only [setd, setn, ev, nth]
      refine K.seq_pure (K.Pure.eq (K.indexAddr_sl sl_31 rfl rfl (by omega) (by omega)) (show _ = Value.pointer (some ⟨b29, 0 + k * 1, none⟩) from by rw [K.add_lit, Int.toNat_natCast])) rfl ?_
      try dsimp only [setd, setn, ev, nth, over, cl, eI, eP, eT, eC, List.map, List.append, List.drop, List.take]
      try dsimp only [setd, setn, ev, nth, over, cl, eI, eP, eT, eC, List.map, List.append, List.drop, List.take]
      refine K.seq_sil (K.load_at one_3 rfl (K.PtrL.own' ((K.m1))) hcd) rfl ?_
      try dsimp only [setd, setn, ev, nth, over, cl, eI, eP, eT, eC, List.map, List.append, List.drop, List.take]
      refine K.seq_pure (K.assign) rfl ?_
      dsimp only [setd, setn, ev, nth]
      refine K.seq_pure (K.assign) rfl ?_
      dsimp only [setd, setn, ev, nth]
      refine K.seq_nil ?_
      refine K.norm_then ?_
      refine K.block ?_
      refine K.seq ?_
      refine K.region_lit ?_
      refine K.seq_pure (K.move) rfl ?_
      dsimp only [setd, setn, ev, nth]
      refine K.seq_pure (K.move) rfl ?_
      dsimp only [setd, setn, ev, nth]
      refine K.seq_pure (K.gtr rfl rfl) rfl ?_
      dsimp only [setd, setn, ev, nth]
      refine K.seq_pure (K.move) rfl ?_
      dsimp only [setd, setn, ev, nth]
      refine K.split 82 rfl (fun hg82 => ?_) (fun hg82 => ?_)
      · try replace hg82 := of_decide_eq_true hg82
        refine K.seq_pure (K.move) rfl ?_
        dsimp only [setd, setn, ev, nth]
        refine K.seq_pure (K.lss rfl rfl) rfl ?_
        dsimp only [setd, setn, ev, nth]
        refine K.seq_pure (K.pick_t rfl) rfl ?_
        dsimp only [setd, setn, ev, nth]
        refine K.seq_pure (K.assign) rfl ?_
        dsimp only [setd, setn, ev, nth]
        refine K.seq_nil ?_
        refine K.norm_then ?_
        refine K.cond rfl (fun ht78 => ?_) (fun ht78 => ?_)
        · try replace ht78 := of_decide_eq_true ht78
          refine K.region_lit ?_
          refine K.seq_pure (K.move) rfl ?_
          dsimp only [setd, setn, ev, nth]
          refine K.seq_pure (K.assign) rfl ?_
          dsimp only [setd, setn, ev, nth]
          refine K.seq_nil ?_
          refine K.norm_block ?_
          refine K.norm_block ?_
          refine K.norm_then ?_
          refine K.region_lit ?_
          refine K.seq_pure (K.add_i64 rfl rfl (by omega)) rfl ?_
          dsimp only [setd, setn, ev, nth]
          refine K.seq_pure (K.move) rfl ?_
          dsimp only [setd, setn, ev, nth]
          refine K.seq_nil ?_
          have he : (lvS (dpS ps s ps.length) (v : Int) (psS (dpS ps s ps.length) v) (k + 1)) = ((k : Int), (lvS (dpS ps s ps.length) (v : Int) (psS (dpS ps s ps.length) v) k).2) := lv_a hg82 ht78
          exact K.round_endW (L'' := [K.row (.slice Q (lvS (dpS ps s ps.length) (v : Int) (psS (dpS ps s ps.length) v) k).2.length q) 64 2 (lvS (dpS ps s ps.length) (v : Int) (psS (dpS ps s ps.length) v) k).2.length ((lvS (dpS ps s ps.length) (v : Int) (psS (dpS ps s ps.length) v) k).2.flatMap K.eP), K.blk b29 3 ((dpS ps s ps.length).flatMap K.eI), K.blk b6 103 [.int .i64 st, .slice A ps.length c], K.blk b2 24 [.int .i64 st, .slice A ps.length c]]) [.slice Q (lvS (dpS ps s ps.length) (v : Int) (psS (dpS ps s ps.length) v) k).2.length q, .int .i64 (k : Int), .int .i64 ((k : Int) + 1)] ⟨k + 1, Q, q, by rw [he]; rfl, by rw [he], by omega⟩ (by simp [K.nth, intOf]; omega) (List.Sublist.refl _) (by kernel_rfl)
        try replace ht78 := of_decide_eq_false ht78
        refine K.seq ?_
        refine K.region_lit ?_
        refine K.seq_pure (K.move) rfl ?_
        dsimp only [setd, setn, ev, nth]
        refine K.seq_pure (K.move) rfl ?_
        dsimp only [setd, setn, ev, nth]
        refine K.seq_pure (K.leq rfl rfl) rfl ?_
        dsimp only [setd, setn, ev, nth]
        refine K.seq_pure (K.move) rfl ?_
        dsimp only [setd, setn, ev, nth]
        refine K.split 91 rfl (fun hg91 => ?_) (fun hg91 => ?_)
        · try replace hg91 := of_decide_eq_true hg91
          refine K.seq_pure (K.move) rfl ?_
          dsimp only [setd, setn, ev, nth]
          refine K.seq_pure (K.geq rfl rfl) rfl ?_
          dsimp only [setd, setn, ev, nth]
          refine K.seq_pure (K.pick_t rfl) rfl ?_
          dsimp only [setd, setn, ev, nth]
          refine K.seq_pure (K.assign) rfl ?_
          dsimp only [setd, setn, ev, nth]
          refine K.seq_nil ?_
          refine K.norm_then ?_
          refine K.cond rfl (fun ht87 => ?_) (fun ht87 => ?_)
          · try replace ht87 := of_decide_eq_true ht87
            refine K.seq ?_
            refine K.region_lit ?_
            refine K.seq_pure (K.move) rfl ?_
            dsimp only [setd, setn, ev, nth]
            refine K.seq_pure (K.move) rfl ?_
            dsimp only [setd, setn, ev, nth]
            refine K.seq_pure (K.move) rfl ?_
            dsimp only [setd, setn, ev, nth]
            refine K.seq_pure (K.sub_i64 rfl rfl (by omega)) rfl ?_
            dsimp only [setd, setn, ev, nth]
            refine K.seq_pure (K.build (bl64 _ _)) rfl ?_
            try dsimp only [setd, setn, ev, nth, over, cl, eI, eP, eT, eC, List.map, List.append, List.drop, List.take]
            refine K.seq_new (K.buildSlice (bs59 _ _)) rfl ?_
            intro b100
            try dsimp only [setd, setn, ev, nth, over, cl, eI, eP, eT, eC, List.map, List.append, List.drop, List.take]
            refine K.seq_upd (K.append el_59 rfl rfl (K.PtrL.own' (K.m0)) rfl rfl (by decide) (by omega) (by omega) (fun _ _ => K.rp1)) rfl ?_
            rintro ⟨g101, c101⟩ _
            try dsimp only [setd, setn, ev, nth, over, cl, eI, eP, eT, eC, List.map, List.append, List.drop, List.take]
            refine K.seq_pure (K.assign) rfl ?_
            dsimp only [setd, setn, ev, nth]
            refine K.seq_nil ?_
            refine K.norm_then ?_
            refine K.region_lit ?_
            refine K.seq_pure (K.assign) rfl ?_
            dsimp only [setd, setn, ev, nth]
            refine K.seq_nil ?_
            refine K.norm_block ?_
            refine K.norm_block ?_
            refine K.norm_then ?_
            refine K.region_lit ?_
            refine K.seq_pure (K.add_i64 rfl rfl (by omega)) rfl ?_
            dsimp only [setd, setn, ev, nth]
            refine K.seq_pure (K.move) rfl ?_
            dsimp only [setd, setn, ev, nth]
            refine K.seq_nil ?_
            have he : (lvS (dpS ps s ps.length) (v : Int) (psS (dpS ps s ps.length) v) (k + 1)) = (-1, (lvS (dpS ps s ps.length) (v : Int) (psS (dpS ps s ps.length) v) k).2 ++ [((lvS (dpS ps s ps.length) (v : Int) (psS (dpS ps s ps.length) v) k).1, (k : Int) - 1)]) := lv_b hg91 ht87
            exact K.round_endW (L'' := [K.row (.slice (some ⟨g101, 0, none⟩) ((lvS (dpS ps s ps.length) (v : Int) (psS (dpS ps s ps.length) v) k).2.length + 1) c101) 64 2 ((lvS (dpS ps s ps.length) (v : Int) (psS (dpS ps s ps.length) v) k).2.length + 1) ((lvS (dpS ps s ps.length) (v : Int) (psS (dpS ps s ps.length) v) k).2.flatMap K.eP ++ [.int .i64 (lvS (dpS ps s ps.length) (v : Int) (psS (dpS ps s ps.length) v) k).1, .int .i64 ((k : Int) - 1)]), K.blk b29 3 ((dpS ps s ps.length).flatMap K.eI), K.blk b6 103 [.int .i64 st, .slice A ps.length c], K.blk b2 24 [.int .i64 st, .slice A ps.length c]]) [.slice (some ⟨g101, 0, none⟩) ((lvS (dpS ps s ps.length) (v : Int) (psS (dpS ps s ps.length) v) k).2.length + 1) c101, .int .i64 (-1), .int .i64 ((k : Int) + 1)] ⟨k + 1, some ⟨g101, 0, none⟩, c101, by rw [he]; dsimp only; rw [List.length_append]; rfl, by rw [he]; dsimp only; rw [List.length_append, List.flatMap_append]; rfl, by omega⟩ (by simp [K.nth, intOf]; omega) (List.Sublist.cons _ (List.Sublist.refl _)) (by kernel_rfl)
          try replace ht87 := of_decide_eq_false ht87
          refine K.skip ?_
          refine K.norm_block ?_
          refine K.norm_block ?_
          refine K.norm_then ?_
          refine K.region_lit ?_
          refine K.seq_pure (K.add_i64 rfl rfl (by omega)) rfl ?_
          dsimp only [setd, setn, ev, nth]
          refine K.seq_pure (K.move) rfl ?_
          dsimp only [setd, setn, ev, nth]
          refine K.seq_nil ?_
          have he : (lvS (dpS ps s ps.length) (v : Int) (psS (dpS ps s ps.length) v) (k + 1)) = (lvS (dpS ps s ps.length) (v : Int) (psS (dpS ps s ps.length) v) k) := lv_c (by omega) (by omega)
          exact K.round_endW (L'' := [K.row (.slice Q (lvS (dpS ps s ps.length) (v : Int) (psS (dpS ps s ps.length) v) k).2.length q) 64 2 (lvS (dpS ps s ps.length) (v : Int) (psS (dpS ps s ps.length) v) k).2.length ((lvS (dpS ps s ps.length) (v : Int) (psS (dpS ps s ps.length) v) k).2.flatMap K.eP), K.blk b29 3 ((dpS ps s ps.length).flatMap K.eI), K.blk b6 103 [.int .i64 st, .slice A ps.length c], K.blk b2 24 [.int .i64 st, .slice A ps.length c]]) [.slice Q (lvS (dpS ps s ps.length) (v : Int) (psS (dpS ps s ps.length) v) k).2.length q, .int .i64 (lvS (dpS ps s ps.length) (v : Int) (psS (dpS ps s ps.length) v) k).1, .int .i64 ((k : Int) + 1)] ⟨k + 1, Q, q, by rw [he]; rfl, by rw [he], by omega⟩ (by simp [K.nth, intOf]; omega) (List.Sublist.refl _) (by kernel_rfl)
        try replace hg91 := of_decide_eq_false hg91
        refine K.seq_skip ?_ ?_
        · rfl
        try dsimp only [setd, setn, ev, nth, over, cl, eI, eP, eT, eC, List.map, List.append, List.drop, List.take]
        refine K.seq_skip ?_ ?_
        · rfl
        try dsimp only [setd, setn, ev, nth, over, cl, eI, eP, eT, eC, List.map, List.append, List.drop, List.take]
        refine K.seq_pure (K.pick_f rfl) rfl ?_
        dsimp only [setd, setn, ev, nth]
        refine K.seq_pure (K.assign) rfl ?_
        dsimp only [setd, setn, ev, nth]
        refine K.seq_nil ?_
        refine K.norm_then ?_
        refine K.cond_false rfl ?_
        refine K.skip ?_
        refine K.norm_block ?_
        refine K.norm_block ?_
        refine K.norm_then ?_
        refine K.region_lit ?_
        refine K.seq_pure (K.add_i64 rfl rfl (by omega)) rfl ?_
        dsimp only [setd, setn, ev, nth]
        refine K.seq_pure (K.move) rfl ?_
        dsimp only [setd, setn, ev, nth]
        refine K.seq_nil ?_
        have he : (lvS (dpS ps s ps.length) (v : Int) (psS (dpS ps s ps.length) v) (k + 1)) = (lvS (dpS ps s ps.length) (v : Int) (psS (dpS ps s ps.length) v) k) := lv_c (by omega) (by omega)
        exact K.round_endW (L'' := [K.row (.slice Q (lvS (dpS ps s ps.length) (v : Int) (psS (dpS ps s ps.length) v) k).2.length q) 64 2 (lvS (dpS ps s ps.length) (v : Int) (psS (dpS ps s ps.length) v) k).2.length ((lvS (dpS ps s ps.length) (v : Int) (psS (dpS ps s ps.length) v) k).2.flatMap K.eP), K.blk b29 3 ((dpS ps s ps.length).flatMap K.eI), K.blk b6 103 [.int .i64 st, .slice A ps.length c], K.blk b2 24 [.int .i64 st, .slice A ps.length c]]) [.slice Q (lvS (dpS ps s ps.length) (v : Int) (psS (dpS ps s ps.length) v) k).2.length q, .int .i64 (lvS (dpS ps s ps.length) (v : Int) (psS (dpS ps s ps.length) v) k).1, .int .i64 ((k : Int) + 1)] ⟨k + 1, Q, q, by rw [he]; rfl, by rw [he], by omega⟩ (by simp [K.nth, intOf]; omega) (List.Sublist.refl _) (by kernel_rfl)
      try replace hg82 := of_decide_eq_false hg82
      refine K.seq_skip ?_ ?_
      · rfl
      try dsimp only [setd, setn, ev, nth, over, cl, eI, eP, eT, eC, List.map, List.append, List.drop, List.take]
      refine K.seq_skip ?_ ?_
      · rfl
      try dsimp only [setd, setn, ev, nth, over, cl, eI, eP, eT, eC, List.map, List.append, List.drop, List.take]
      refine K.seq_pure (K.pick_f rfl) rfl ?_
      dsimp only [setd, setn, ev, nth]
      refine K.seq_pure (K.assign) rfl ?_
      dsimp only [setd, setn, ev, nth]
      refine K.seq_nil ?_
      refine K.norm_then ?_
      refine K.cond_false rfl ?_
      refine K.seq ?_
      refine K.region_lit ?_
      refine K.seq_pure (K.move) rfl ?_
      dsimp only [setd, setn, ev, nth]
      refine K.seq_pure (K.move) rfl ?_
      dsimp only [setd, setn, ev, nth]
      refine K.seq_pure (K.leq rfl rfl) rfl ?_
      dsimp only [setd, setn, ev, nth]
      refine K.seq_pure (K.move) rfl ?_
      dsimp only [setd, setn, ev, nth]
      refine K.split 91 rfl (fun hg91 => ?_) (fun hg91 => ?_)
      · try replace hg91 := of_decide_eq_true hg91
        refine K.seq_pure (K.move) rfl ?_
        dsimp only [setd, setn, ev, nth]
        refine K.seq_pure (K.geq rfl rfl) rfl ?_
        dsimp only [setd, setn, ev, nth]
        refine K.seq_pure (K.pick_t rfl) rfl ?_
        dsimp only [setd, setn, ev, nth]
        refine K.seq_pure (K.assign) rfl ?_
        dsimp only [setd, setn, ev, nth]
        refine K.seq_nil ?_
        refine K.norm_then ?_
        refine K.cond rfl (fun ht87 => ?_) (fun ht87 => ?_)
        · try replace ht87 := of_decide_eq_true ht87
          refine K.seq ?_
          refine K.region_lit ?_
          refine K.seq_pure (K.move) rfl ?_
          dsimp only [setd, setn, ev, nth]
          refine K.seq_pure (K.move) rfl ?_
          dsimp only [setd, setn, ev, nth]
          refine K.seq_pure (K.move) rfl ?_
          dsimp only [setd, setn, ev, nth]
          refine K.seq_pure (K.sub_i64 rfl rfl (by omega)) rfl ?_
          dsimp only [setd, setn, ev, nth]
          refine K.seq_pure (K.build (bl64 _ _)) rfl ?_
          try dsimp only [setd, setn, ev, nth, over, cl, eI, eP, eT, eC, List.map, List.append, List.drop, List.take]
          refine K.seq_new (K.buildSlice (bs59 _ _)) rfl ?_
          intro b100
          try dsimp only [setd, setn, ev, nth, over, cl, eI, eP, eT, eC, List.map, List.append, List.drop, List.take]
          refine K.seq_upd (K.append el_59 rfl rfl (K.PtrL.own' (K.m0)) rfl rfl (by decide) (by omega) (by omega) (fun _ _ => K.rp1)) rfl ?_
          rintro ⟨g101, c101⟩ _
          try dsimp only [setd, setn, ev, nth, over, cl, eI, eP, eT, eC, List.map, List.append, List.drop, List.take]
          refine K.seq_pure (K.assign) rfl ?_
          dsimp only [setd, setn, ev, nth]
          refine K.seq_nil ?_
          refine K.norm_then ?_
          refine K.region_lit ?_
          refine K.seq_pure (K.assign) rfl ?_
          dsimp only [setd, setn, ev, nth]
          refine K.seq_nil ?_
          refine K.norm_block ?_
          refine K.norm_block ?_
          refine K.norm_then ?_
          refine K.region_lit ?_
          refine K.seq_pure (K.add_i64 rfl rfl (by omega)) rfl ?_
          dsimp only [setd, setn, ev, nth]
          refine K.seq_pure (K.move) rfl ?_
          dsimp only [setd, setn, ev, nth]
          refine K.seq_nil ?_
          have he : (lvS (dpS ps s ps.length) (v : Int) (psS (dpS ps s ps.length) v) (k + 1)) = (-1, (lvS (dpS ps s ps.length) (v : Int) (psS (dpS ps s ps.length) v) k).2 ++ [((lvS (dpS ps s ps.length) (v : Int) (psS (dpS ps s ps.length) v) k).1, (k : Int) - 1)]) := lv_b hg91 ht87
          exact K.round_endW (L'' := [K.row (.slice (some ⟨g101, 0, none⟩) ((lvS (dpS ps s ps.length) (v : Int) (psS (dpS ps s ps.length) v) k).2.length + 1) c101) 64 2 ((lvS (dpS ps s ps.length) (v : Int) (psS (dpS ps s ps.length) v) k).2.length + 1) ((lvS (dpS ps s ps.length) (v : Int) (psS (dpS ps s ps.length) v) k).2.flatMap K.eP ++ [.int .i64 (lvS (dpS ps s ps.length) (v : Int) (psS (dpS ps s ps.length) v) k).1, .int .i64 ((k : Int) - 1)]), K.blk b29 3 ((dpS ps s ps.length).flatMap K.eI), K.blk b6 103 [.int .i64 st, .slice A ps.length c], K.blk b2 24 [.int .i64 st, .slice A ps.length c]]) [.slice (some ⟨g101, 0, none⟩) ((lvS (dpS ps s ps.length) (v : Int) (psS (dpS ps s ps.length) v) k).2.length + 1) c101, .int .i64 (-1), .int .i64 ((k : Int) + 1)] ⟨k + 1, some ⟨g101, 0, none⟩, c101, by rw [he]; dsimp only; rw [List.length_append]; rfl, by rw [he]; dsimp only; rw [List.length_append, List.flatMap_append]; rfl, by omega⟩ (by simp [K.nth, intOf]; omega) (List.Sublist.cons _ (List.Sublist.refl _)) (by kernel_rfl)
        try replace ht87 := of_decide_eq_false ht87
        refine K.skip ?_
        refine K.norm_block ?_
        refine K.norm_block ?_
        refine K.norm_then ?_
        refine K.region_lit ?_
        refine K.seq_pure (K.add_i64 rfl rfl (by omega)) rfl ?_
        dsimp only [setd, setn, ev, nth]
        refine K.seq_pure (K.move) rfl ?_
        dsimp only [setd, setn, ev, nth]
        refine K.seq_nil ?_
        have he : (lvS (dpS ps s ps.length) (v : Int) (psS (dpS ps s ps.length) v) (k + 1)) = (lvS (dpS ps s ps.length) (v : Int) (psS (dpS ps s ps.length) v) k) := lv_c (by omega) (by omega)
        exact K.round_endW (L'' := [K.row (.slice Q (lvS (dpS ps s ps.length) (v : Int) (psS (dpS ps s ps.length) v) k).2.length q) 64 2 (lvS (dpS ps s ps.length) (v : Int) (psS (dpS ps s ps.length) v) k).2.length ((lvS (dpS ps s ps.length) (v : Int) (psS (dpS ps s ps.length) v) k).2.flatMap K.eP), K.blk b29 3 ((dpS ps s ps.length).flatMap K.eI), K.blk b6 103 [.int .i64 st, .slice A ps.length c], K.blk b2 24 [.int .i64 st, .slice A ps.length c]]) [.slice Q (lvS (dpS ps s ps.length) (v : Int) (psS (dpS ps s ps.length) v) k).2.length q, .int .i64 (lvS (dpS ps s ps.length) (v : Int) (psS (dpS ps s ps.length) v) k).1, .int .i64 ((k : Int) + 1)] ⟨k + 1, Q, q, by rw [he]; rfl, by rw [he], by omega⟩ (by simp [K.nth, intOf]; omega) (List.Sublist.refl _) (by kernel_rfl)
      try replace hg91 := of_decide_eq_false hg91
      refine K.seq_skip ?_ ?_
      · rfl
      try dsimp only [setd, setn, ev, nth, over, cl, eI, eP, eT, eC, List.map, List.append, List.drop, List.take]
      refine K.seq_skip ?_ ?_
      · rfl
      try dsimp only [setd, setn, ev, nth, over, cl, eI, eP, eT, eC, List.map, List.append, List.drop, List.take]
      refine K.seq_pure (K.pick_f rfl) rfl ?_
      dsimp only [setd, setn, ev, nth]
      refine K.seq_pure (K.assign) rfl ?_
      dsimp only [setd, setn, ev, nth]
      refine K.seq_nil ?_
      refine K.norm_then ?_
      refine K.cond_false rfl ?_
      refine K.skip ?_
      refine K.norm_block ?_
      refine K.norm_block ?_
      refine K.norm_then ?_
      refine K.region_lit ?_
      refine K.seq_pure (K.add_i64 rfl rfl (by omega)) rfl ?_
      dsimp only [setd, setn, ev, nth]
      refine K.seq_pure (K.move) rfl ?_
      dsimp only [setd, setn, ev, nth]
      refine K.seq_nil ?_
      have he : (lvS (dpS ps s ps.length) (v : Int) (psS (dpS ps s ps.length) v) (k + 1)) = (lvS (dpS ps s ps.length) (v : Int) (psS (dpS ps s ps.length) v) k) := lv_c (by omega) (by omega)
      exact K.round_endW (L'' := [K.row (.slice Q (lvS (dpS ps s ps.length) (v : Int) (psS (dpS ps s ps.length) v) k).2.length q) 64 2 (lvS (dpS ps s ps.length) (v : Int) (psS (dpS ps s ps.length) v) k).2.length ((lvS (dpS ps s ps.length) (v : Int) (psS (dpS ps s ps.length) v) k).2.flatMap K.eP), K.blk b29 3 ((dpS ps s ps.length).flatMap K.eI), K.blk b6 103 [.int .i64 st, .slice A ps.length c], K.blk b2 24 [.int .i64 st, .slice A ps.length c]]) [.slice Q (lvS (dpS ps s ps.length) (v : Int) (psS (dpS ps s ps.length) v) k).2.length q, .int .i64 (lvS (dpS ps s ps.length) (v : Int) (psS (dpS ps s ps.length) v) k).1, .int .i64 ((k : Int) + 1)] ⟨k + 1, Q, q, by rw [he]; rfl, by rw [he], by omega⟩ (by simp [K.nth, intOf]; omega) (List.Sublist.refl _) (by kernel_rfl)
    try replace ht74 := of_decide_eq_false ht74
    refine K.exit ?_
    refine K.exit_then ?_
    refine K.exit_then ?_
    refine K.exit_here ?_
    refine K.norm_block ?_
    refine K.norm_then ?_
    refine K.region_lit ?_
    refine K.seq_pure (K.add_i64 rfl rfl (by omega)) rfl ?_
    dsimp only [setd, setn, ev, nth]
    refine K.seq_pure (K.move) rfl ?_
    dsimp only [setd, setn, ev, nth]
    refine K.seq_nil ?_
    have e0 : k = (dpS ps s ps.length).length := by rw [hdl]; omega
    subst e0
    exact K.round_endW (L'' := [K.row (.slice Q (lvS (dpS ps s ps.length) (v : Int) (psS (dpS ps s ps.length) v) (dpS ps s ps.length).length).2.length q) 64 2 (lvS (dpS ps s ps.length) (v : Int) (psS (dpS ps s ps.length) v) (dpS ps s ps.length).length).2.length ((lvS (dpS ps s ps.length) (v : Int) (psS (dpS ps s ps.length) v) (dpS ps s ps.length).length).2.flatMap K.eP), K.blk b29 3 ((dpS ps s ps.length).flatMap K.eI), K.blk b6 103 [.int .i64 st, .slice A ps.length c], K.blk b2 24 [.int .i64 st, .slice A ps.length c]]) [.slice Q (lvS (dpS ps s ps.length) (v : Int) (psS (dpS ps s ps.length) v) (dpS ps s ps.length).length).2.length q, .int .i64 ((v : Int) + 1)] ⟨v + 1, Q, q, rfl, rfl, by omega⟩ (by simp [K.nth, intOf]; omega) (List.Sublist.refl _) (by kernel_rfl)
  try replace ht69 := of_decide_eq_false ht69
  refine K.exit ?_
  refine K.exit_then ?_
  refine K.exit_then ?_
  refine K.exit_here ?_
  refine K.norm_then ?_
  refine K.seq ?_
  refine K.region_lit ?_
  refine K.seq_pure (K.move) rfl ?_
  dsimp only [setd, setn, ev, nth]
  refine K.seq_pure (K.assign) rfl ?_
  dsimp only [setd, setn, ev, nth]
  refine K.seq_pure (K.assign) rfl ?_
  dsimp only [setd, setn, ev, nth]
  refine K.seq_nil ?_
  refine K.norm_then ?_
  refine K.ret ?_
  refine K.end_ret (fun w _ => K.res_tmp2 rfl w) ?_
  have e0 : v = (mxS (dpS ps s ps.length)).toNat := by omega
  subst e0
  exact K.rets_se K.m0 rfl rfl rfl rfl

end Go.Proofs.Ytfbglomliankmaa.Cv
end
section
set_option linter.unusedSimpArgs false
set_option linter.unusedVariables false
namespace Go.Proofs.Ytfbglomliankmaa.Cv
open Go.RowKit Go
open Go.K (setd setn ev nth over cl eI eP eT setM setF)
attribute [local irreducible] K.blk K.row
theorem eI_take {xs : List Int} {n : Nat} : (xs.flatMap K.eI).take (n * 1) = (xs.take n).flatMap K.eI := by
  rw [Nat.mul_one]
  induction xs generalizing n with
  | nil => simp
  | cons x xs ih =>
    cases n with
    | zero => rfl
    | succ n => rw [List.flatMap_cons, List.take_succ_cons, List.flatMap_cons, ← ih]; rfl
theorem beg_len {d : List Int} {x : Int × Int} : (beg d x).length = d.length := by unfold beg; rw [List.length_set, List.length_set]
theorem begS_s {n k : Nat} {l : List (Int × Int)} (h : k < l.length) : begS n l (k + 1) = beg (begS n l k) (l.getD k default) := by
  unfold begS
  rw [List.take_add_one, List.getElem?_eq_getElem h, List.foldl_append, List.getD_eq_getElem?_getD, List.getElem?_eq_getElem h]
  rfl
theorem begS_len {n : Nat} {l : List (Int × Int)} : ∀ k, k ≤ l.length → (begS n l k).length = n + 1
  | 0, _ => by unfold begS; simp
  | k + 1, h => by rw [begS_s h, beg_len]; exact begS_len k (by omega)
theorem begS_bd {n : Nat} {l : List (Int × Int)} : ∀ k, k ≤ l.length → ∀ j, j < n + 1 → -(k : Int) ≤ (begS n l k).getD j default ∧ (begS n l k).getD j default ≤ k
  | 0, _, j, hj => by
    have e : (begS n l 0).getD j default = 0 := by
      show (List.replicate (n + 1) (0 : Int)).getD j default = 0
      rw [List.getD_eq_getElem?_getD, List.getElem?_replicate, if_pos hj]; rfl
    rw [e]; omega
  | k + 1, h, j, hj => by
    have hl := begS_len (n := n) (l := l) k (by omega)
    have ih := begS_bd (n := n) (l := l) k (by omega)
    have h1 := ih j hj
    rw [begS_s h]
    unfold beg
    rw [gd_set (by rw [List.length_set, hl]; exact hj)]
    split
    · rename_i e
      rw [gd_set (by rw [hl]; omega)]
      split
      · rename_i e2
        have h2 := ih (l.getD k default).1.toNat (by omega)
        omega
      · have h2 := ih ((l.getD k default).2.toNat + 1) (by omega)
        omega
    · rw [gd_set (by rw [hl]; exact hj)]
      split
      · rename_i e2
        have h2 := ih (l.getD k default).1.toNat (by omega)
        omega
      · omega
theorem smS_len {d : List Int} : ∀ k, (smS d k).length = d.length
  | 0 => rfl
  | k + 1 => by unfold smS; rw [List.length_set]; exact smS_len k
theorem smS_bd {d : List Int} {B : Int} (hB : 0 ≤ B) (h : ∀ j, j < d.length → -B ≤ d.getD j default ∧ d.getD j default ≤ B) : ∀ k, k < d.length → ∀ j, j < d.length → (j ≤ k → -(B * (j + 1 : Int)) ≤ (smS d k).getD j default ∧ (smS d k).getD j default ≤ B * (j + 1 : Int)) ∧ (k < j → (smS d k).getD j default = d.getD j default)
  | 0, _, j, hj => ⟨fun h0 => by
      have e : j = 0 := by omega
      subst e
      have := h 0 hj
      rw [show B * (((0 : Nat) : Int) + 1) = B by simp]
      exact this, fun _ => rfl⟩
  | k + 1, hk, j, hj => by
    have ih := smS_bd hB h k (by omega)
    have hl := @smS_len d k
    unfold smS
    rw [gd_set (by rw [hl]; exact hj)]
    by_cases e : k + 1 = j
    · subst e
      rw [if_pos rfl]
      have h1 := (ih (k + 1) hj).2 (by omega)
      have h2 := (ih k (by omega)).1 (Nat.le_refl k)
      have h3 := h (k + 1) hj
      rw [h1]
      refine ⟨fun _ => ?_, fun h => absurd h (by omega)⟩
      have e2 : B * (((k + 1 : Nat) : Int) + 1) = B * ((k : Int) + 1) + B := by
        rw [show (((k + 1 : Nat) : Int) + 1) = ((k : Int) + 1) + 1 by omega, Int.mul_add, Int.mul_one]
      omega
    · rw [if_neg e]
      exact ⟨fun h => (ih j hj).1 (by omega), fun h => (ih j hj).2 (by omega)⟩
theorem smS_b {d : List Int} {B : Int} (hB : 0 ≤ B) (hn : d.length ≤ 11) (h : ∀ j, j < d.length → -B ≤ d.getD j default ∧ d.getD j default ≤ B) {k j : Nat} (hk : k < d.length) (hj : j < d.length) : -(B * 11) ≤ (smS d k).getD j default ∧ (smS d k).getD j default ≤ B * 11 := by
  have h1 := smS_bd hB h k hk j hj
  have h2 := h j hj
  have h3 : B * ((j : Int) + 1) ≤ B * 11 := Int.mul_le_mul_of_nonneg_left (by omega) hB
  rcases Nat.lt_or_ge k j with h4 | h4
  · rw [h1.2 h4]; omega
  · have := h1.1 h4; omega

set_option maxRecDepth 100000 in
set_option maxHeartbeats 2000000 in
theorem c20 {st : Int} {ps : List CvT} {l : List (Int × Int)} {A B : Option Addr} {c d : Nat} {w : World} (hR : K.Rd w A 3 eC ps) (g : Good st ps) (hX : K.Rd w B 2 K.eP l) (hxl : l.length ≤ 60) (hxp : ∀ x ∈ l, 0 ≤ x.1 ∧ x.1 ≤ x.2 ∧ x.2 ≤ (ps.length : Int) - 1) :
    Calls Try.prog 20 [.agg #[.int .i64 st, .slice A ps.length c], .slice B l.length d].toArray w (K.RetSE 3 1 K.eI ((smS (begS ps.length l l.length) ps.length).take ps.length) 0 w) := by
  have hgn := g.n
  refine K.enter (args := [.agg #[.int .i64 st, .slice A ps.length c], .slice B l.length d]) Try.func20 rfl (n := 90) rfl ?_
  simp only [List.replicate, List.cons_append, List.nil_append]
  refine K.seq ?_
  refine K.region_lit ?_
  refine K.seq_new (K.box) rfl ?_
  intro b2
  try dsimp only [setd, setn, ev, nth, over, cl, eI, eP, eT, eC, List.map, List.append, List.drop, List.take]
  refine K.seq_pure (K.assign) rfl ?_
  dsimp only [setd, setn, ev, nth]
  refine K.seq_pure (K.assign) rfl ?_
  dsimp only [setd, setn, ev, nth]
  refine K.seq_nil ?_
  refine K.norm_then ?_
  refine K.seq ?_
  refine K.seq ?_
  refine K.region_lit ?_
  refine K.seq_sil (K.loadA_own ag_24 rfl (K.m0) rfl) rfl ?_
  try dsimp only [setd, setn, ev, nth, over, cl, eI, eP, eT, eC, List.map, List.append, List.drop, List.take]
  refine K.seq_call (K.call_g cal_46 (fun F w hF hw => c46 (hR.pass hw) g)) rfl ?_
  try dsimp only [setd, setn, ev, nth, over, cl, eI, eP, eT, eC, List.map, List.append, List.drop, List.take]
  refine K.seq_pure (K.move) rfl ?_
  dsimp only [setd, setn, ev, nth]
  refine K.seq_pure (K.extract rfl rfl) rfl ?_
  dsimp only [setd, setn, ev, nth]
  refine K.seq_pure (K.extract rfl rfl) rfl ?_
  dsimp only [setd, setn, ev, nth]
  refine K.seq_pure (K.extract rfl rfl) rfl ?_
  dsimp only [setd, setn, ev, nth]
  refine K.seq_pure (K.assign) rfl ?_
  dsimp only [setd, setn, ev, nth]
  refine K.seq_pure (K.assign) rfl ?_
  dsimp only [setd, setn, ev, nth]
  refine K.seq_pure (K.assign) rfl ?_
  dsimp only [setd, setn, ev, nth]
  refine K.seq_nil ?_
  refine K.norm_then ?_
  refine K.seq ?_
  refine K.region_lit ?_
  refine K.seq_pure (K.move) rfl ?_
  dsimp only [setd, setn, ev, nth]
  refine K.seq_pure (K.Pure.eq (K.neq rfl rfl) (show _ = Value.bool false from congrArg Value.bool (decide_eq_false (fun h => h rfl)))) rfl ?_
  dsimp only [setd, setn, ev, nth]
  refine K.seq_nil ?_
  refine K.norm_then ?_
  refine K.cond_false rfl ?_
  refine K.skip ?_
  refine K.norm_then ?_
  refine K.seq ?_
  refine K.seq ?_
  refine K.region_lit ?_
  refine K.seq_pure (K.move) rfl ?_
  dsimp only [setd, setn, ev, nth]
  refine K.seq_pure (K.len_sl sl_59 rfl) rfl ?_
  dsimp only [setd, setn, ev, nth]
  refine K.seq_pure (K.Pure.eq (K.gtr rfl rfl) (show _ = Value.bool false from congrArg Value.bool (decide_eq_false (by omega)))) rfl ?_
  dsimp only [setd, setn, ev, nth]
  refine K.seq_nil ?_
  refine K.norm_then ?_
  refine K.cond_false rfl ?_
  refine K.skip ?_
  refine K.norm_then ?_
  refine K.seq ?_
  refine K.region_lit ?_
  refine K.seq_pure (K.fieldAddr_lit fo_24_1 rfl) rfl ?_
  dsimp only [setd, setn, ev, nth]
  refine K.seq_sil (K.load1_own one_22 rfl (K.m0) rfl) rfl ?_
  try dsimp only [setd, setn, ev, nth, over, cl, eI, eP, eT, eC, List.map, List.append, List.drop, List.take]
  refine K.seq_pure (K.len_sl sl_22 rfl) rfl ?_
  dsimp only [setd, setn, ev, nth]
  refine K.seq_pure (K.Pure.eq (K.add_i64 rfl rfl (by omega)) (show _ = Value.int .i64 ((ps.length + 1 : Nat) : Int) from congrArg (Value.int .i64) (by omega))) rfl ?_
  dsimp only [setd, setn, ev, nth]
  refine K.seq_new (K.mkSlice (n := (ps.length + 1)) mk1_31 rfl rfl (by omega) (by omega)) rfl ?_
  intro b29
  try dsimp only [setd, setn, ev, nth, over, cl, eI, eP, eT, eC, List.map, List.append, List.drop, List.take]
  rw [K.rep_int]
  try dsimp only [setd, setn, ev, nth, over, cl, eI, eP, eT, eC, List.map, List.append, List.drop, List.take]
  refine K.seq_pure (K.assign) rfl ?_
  dsimp only [setd, setn, ev, nth]
  refine K.seq_nil ?_
  refine K.norm_then ?_
  refine K.seq ?_
  refine K.seq ?_
  refine K.weak (List.Sublist.refl _) ?_
  refine K.region_lit ?_
  refine K.seq_pure (K.move) rfl ?_
  dsimp only [setd, setn, ev, nth]
  refine K.seq_pure (K.len_sl sl_59 rfl) rfl ?_
  dsimp only [setd, setn, ev, nth]
  refine K.seq_pure (K.move) rfl ?_
  dsimp only [setd, setn, ev, nth]
  refine K.seq_nil ?_
  refine K.norm_then ?_
  refine K.block ?_
  refine K.loopW [32] [4, 5, 11, 33, 34, 35, 36, 37, 38, 39, 40, 41, 42, 43, 44, 45, 46, 47, 48, 49, 50, 51, 52, 53, 54, 55, 56, 57, 58, 59, 60, 61, 62, 63, 64, 65, 66, 67, 68] (fun vi L => ∃ k : Nat, vi = [.int .i64 (k : Int)] ∧ L = [K.blk b29 3 ((begS ps.length l k).flatMap K.eI), K.blk b2 24 [.int .i64 st, .slice A ps.length c]] ∧ k ≤ l.length) (fun vi => l.length - (intOf (K.nth vi 0)).toNat) ?_ ?_
  · exact ⟨0, rfl, rfl, Nat.zero_le _⟩
  intro vi vr L hJ
  obtain ⟨k, rfl, rfl, hkn⟩ := hJ
  try dsimp only [setd, setn, ev, nth, over, cl, eI, eP, eT, eC, setM, setF, List.map, List.append, List.drop, List.take]
  refine K.seq ?_
  refine K.region_lit ?_
  refine K.seq_pure (K.lss rfl rfl) rfl ?_
  dsimp only [setd, setn, ev, nth]
  refine K.seq_nil ?_
  refine K.norm_then ?_
  refine K.seq ?_
  refine K.cond rfl (fun ht33 => ?_) (fun ht33 => ?_)
  · try replace ht33 := of_decide_eq_true ht33
    have hk : k < l.length := by omega
    have hxk := hxp _ (K.gt_mem hk)
    have hbl := begS_len (n := ps.length) (l := l) k (by omega)
    have hbs := begS_s (n := ps.length) (l := l) hk
    have hbb := begS_bd (n := ps.length) (l := l) k (by omega)
    have hb1 := hbb (l.getD k default).1.toNat (by omega)
    have hfit1 : 0 + (l.getD k default).1.toNat * 1 + 1 ≤ ((begS ps.length l k).flatMap K.eI).length := by rw [eI_len]; omega
    have hset1 : K.over ((begS ps.length l k).flatMap K.eI) (0 + (l.getD k default).1.toNat * 1) (K.cl (.int .i64 ((begS ps.length l k).getD (l.getD k default).1.toNat default + 1))) = ((begS ps.length l k).set (l.getD k default).1.toNat ((begS ps.length l k).getD (l.getD k default).1.toNat default + 1)).flatMap K.eI := K.set_cut0 (e := K.eI) (size := 1) (x := (begS ps.length l k).getD (l.getD k default).1.toNat default + 1) (fun _ => rfl) (by omega)
    have hd1l : ((begS ps.length l k).set (l.getD k default).1.toNat ((begS ps.length l k).getD (l.getD k default).1.toNat default + 1)).length = ps.length + 1 := by rw [List.length_set, hbl]
    have hc1 := eI_at (xs := (begS ps.length l k)) (k := (l.getD k default).1.toNat) (by omega)
    have hc2 := eI_at (xs := ((begS ps.length l k).set (l.getD k default).1.toNat ((begS ps.length l k).getD (l.getD k default).1.toNat default + 1))) (k := ((l.getD k default).2.toNat + 1)) (by rw [hd1l]; omega)
    have hb2 : -100 ≤ ((begS ps.length l k).set (l.getD k default).1.toNat ((begS ps.length l k).getD (l.getD k default).1.toNat default + 1)).getD ((l.getD k default).2.toNat + 1) default ∧ ((begS ps.length l k).set (l.getD k default).1.toNat ((begS ps.length l k).getD (l.getD k default).1.toNat default + 1)).getD ((l.getD k default).2.toNat + 1) default ≤ 100 := by
      rw [gd_set (by rw [hbl]; omega)]
      have := hbb ((l.getD k default).2.toNat + 1) (by omega)
      split <;> omega
    have hfit2 : 0 + ((l.getD k default).2.toNat + 1) * 1 + 1 ≤ (((begS ps.length l k).set (l.getD k default).1.toNat ((begS ps.length l k).getD (l.getD k default).1.toNat default + 1)).flatMap K.eI).length := by rw [eI_len, hd1l]; omega
    have hset2 : K.over (((begS ps.length l k).set (l.getD k default).1.toNat ((begS ps.length l k).getD (l.getD k default).1.toNat default + 1)).flatMap K.eI) (0 + ((l.getD k default).2.toNat + 1) * 1) (K.cl (.int .i64 (((begS ps.length l k).set (l.getD k default).1.toNat ((begS ps.length l k).getD (l.getD k default).1.toNat default + 1)).getD ((l.getD k default).2.toNat + 1) default - 1))) = (begS ps.length l (k + 1)).flatMap K.eI := by
      rw [hbs]
      exact K.set_cut0 (e := K.eI) (size := 1) (x := ((begS ps.length l k).set (l.getD k default).1.toNat ((begS ps.length l k).getD (l.getD k default).1.toNat default + 1)).getD ((l.getD k default).2.toNat + 1) default - 1) (fun _ => rfl) (by rw [hd1l]; omega)
    refine K.skip ?_
    refine K.norm_then ?_
    refine K.seq ?_
    refine K.block ?_
    refine K.seq ?_
    refine K.region_lit ?_
    refine K.seq_ix (M := []) _ hX.sl sl_59 rfl rfl rfl (by omega) rfl ?_
    intro p34 hp34
    try dsimp only [setd, setn, ev, nth, over, cl, eI, eP, eT, eC, List.map, List.append, List.drop, List.take]
    refine K.seq_sil (K.loadA_p ag_64 rfl (hp34.any) rfl) rfl ?_
    try dsimp only [setd, setn, ev, nth, over, cl, eI, eP, eT, eC, List.map, List.append, List.drop, List.take]
    refine K.seq_new (K.alloc zr_64) rfl ?_
    intro b11
    try dsimp only [setd, setn, ev, nth, over, cl, eI, eP, eT, eC, List.map, List.append, List.drop, List.take]
    refine K.seq_st (K.store_all sz_64 rfl rfl rfl rfl (K.rp0)) rfl ?_
    try dsimp only [setd, setn, ev, nth, over, cl, eI, eP, eT, eC, List.map, List.append, List.drop, List.take]
    refine K.seq_nil ?_
    refine K.norm_then ?_
    refine K.seq ?_
    refine K.block ?_
    refine K.seq ?_
    refine K.region_lit ?_
    refine K.seq_pure (K.fieldAddr_lit fo_24_1 rfl) rfl ?_
    dsimp only [setd, setn, ev, nth]
    refine K.seq_sil (K.load1_own one_22 rfl (K.m2) rfl) rfl ?_
    try dsimp only [setd, setn, ev, nth, over, cl, eI, eP, eT, eC, List.map, List.append, List.drop, List.take]
    refine K.seq_pure (K.len_sl sl_22 rfl) rfl ?_
    dsimp only [setd, setn, ev, nth]
    refine K.seq_pure (K.sub_i64 rfl rfl (by omega)) rfl ?_
    dsimp only [setd, setn, ev, nth]
    refine K.seq_pure (K.fieldAddr_lit fo_64_0 rfl) rfl ?_
    dsimp only [setd, setn, ev, nth]
    refine K.seq_sil (K.load1_own one_3 rfl (K.m0) rfl) rfl ?_
    try dsimp only [setd, setn, ev, nth, over, cl, eI, eP, eT, eC, List.map, List.append, List.drop, List.take]
    refine K.seq_pure (K.fieldAddr_lit fo_64_1 rfl) rfl ?_
    dsimp only [setd, setn, ev, nth]
    refine K.seq_sil (K.load1_own one_3 rfl (K.m0) rfl) rfl ?_
    try dsimp only [setd, setn, ev, nth, over, cl, eI, eP, eT, eC, List.map, List.append, List.drop, List.take]
    refine K.seq_new (K.buildSlice (bs2 _ _)) rfl ?_
    intro b45
    try dsimp only [setd, setn, ev, nth, over, cl, eI, eP, eT, eC, List.map, List.append, List.drop, List.take]
    refine K.seq_call (K.call_g cal_45 (fun F w hF hw => c45_2f hw (hF _ (K.m0)) (by omega))) rfl ?_
    try dsimp only [setd, setn, ev, nth, over, cl, eI, eP, eT, eC, List.map, List.append, List.drop, List.take]
    refine K.seq_pure (K.assign) rfl ?_
    dsimp only [setd, setn, ev, nth]
    refine K.seq_nil ?_
    refine K.norm_then ?_
    refine K.cond_false rfl ?_
    refine K.seq ?_
    refine K.region_lit ?_
    refine K.seq_pure (K.fieldAddr_lit fo_64_0 rfl) rfl ?_
    dsimp only [setd, setn, ev, nth]
    refine K.seq_sil (K.load1_own one_3 rfl (K.m1) rfl) rfl ?_
    try dsimp only [setd, setn, ev, nth, over, cl, eI, eP, eT, eC, List.map, List.append, List.drop, List.take]
    refine K.seq_pure (K.fieldAddr_lit fo_64_1 rfl) rfl ?_
    dsimp only [setd, setn, ev, nth]
    refine K.seq_sil (K.load1_own one_3 rfl (K.m1) rfl) rfl ?_
    try dsimp only [setd, setn, ev, nth, over, cl, eI, eP, eT, eC, List.map, List.append, List.drop, List.take]
    refine K.seq_pure (K.Pure.eq (K.gtr rfl rfl) (show _ = Value.bool false from congrArg Value.bool (decide_eq_false (by omega)))) rfl ?_
    dsimp only [setd, setn, ev, nth]
    refine K.seq_pure (K.assign) rfl ?_
    dsimp only [setd, setn, ev, nth]
    refine K.seq_nil ?_
    refine K.norm_then ?_
    refine K.cond_false rfl ?_
    refine K.skip ?_
    refine K.norm_block ?_
    refine K.norm_then ?_
    refine K.seq ?_
    refine K.region_lit ?_
    refine K.seq_pure (K.move) rfl ?_
    dsimp only [setd, setn, ev, nth]
    refine K.seq_pure (K.fieldAddr_lit fo_64_0 rfl) rfl ?_
    dsimp only [setd, setn, ev, nth]
    refine K.seq_sil (K.load1_own one_3 rfl (K.m1) rfl) rfl ?_
    try dsimp only [setd, setn, ev, nth, over, cl, eI, eP, eT, eC, List.map, List.append, List.drop, List.take]
    refine K.seq_pure (K.Pure.eq (K.indexAddr_sl sl_31 rfl rfl (by omega) (by omega)) (show _ = Value.pointer (some ⟨b29, 0 + (l.getD k default).1.toNat * 1, none⟩) from by rw [K.add_lit])) rfl ?_
    try dsimp only [setd, setn, ev, nth, over, cl, eI, eP, eT, eC, List.map, List.append, List.drop, List.take]
    try dsimp only [setd, setn, ev, nth, over, cl, eI, eP, eT, eC, List.map, List.append, List.drop, List.take]
    refine K.seq_sil (K.load_at one_3 rfl (K.PtrL.own' ((K.m2))) hc1) rfl ?_
    try dsimp only [setd, setn, ev, nth, over, cl, eI, eP, eT, eC, List.map, List.append, List.drop, List.take]
    refine K.seq_pure (K.add_i64 rfl rfl (by omega)) rfl ?_
    dsimp only [setd, setn, ev, nth]
    refine K.seq_pure (K.Pure.eq (K.indexAddr_sl sl_31 rfl rfl (by omega) (by omega)) (show _ = Value.pointer (some ⟨b29, 0 + (l.getD k default).1.toNat * 1, none⟩) from by rw [K.add_lit])) rfl ?_
    try dsimp only [setd, setn, ev, nth, over, cl, eI, eP, eT, eC, List.map, List.append, List.drop, List.take]
    try dsimp only [setd, setn, ev, nth, over, cl, eI, eP, eT, eC, List.map, List.append, List.drop, List.take]
    refine K.seq_st (K.store_ix (cs := (begS ps.length l k).flatMap K.eI) sz_3 rfl rfl hfit1 rfl (K.rpe K.rp2 (congrArg (K.blk b29 3) hset1.symm))) rfl ?_
    try dsimp only [setd, setn, ev, nth, over, cl, eI, eP, eT, eC, List.map, List.append, List.drop, List.take]
    try dsimp only [setd, setn, ev, nth, over, cl, eI, eP, eT, eC, List.map, List.append, List.drop, List.take]
    refine K.seq_nil ?_
    refine K.norm_then ?_
    refine K.region_lit ?_
    refine K.seq_pure (K.move) rfl ?_
    dsimp only [setd, setn, ev, nth]
    refine K.seq_pure (K.fieldAddr_lit fo_64_1 rfl) rfl ?_
    dsimp only [setd, setn, ev, nth]
    refine K.seq_sil (K.load1_own one_3 rfl (K.m1) rfl) rfl ?_
    try dsimp only [setd, setn, ev, nth, over, cl, eI, eP, eT, eC, List.map, List.append, List.drop, List.take]
    refine K.seq_pure (K.add_i64 rfl rfl (by omega)) rfl ?_
    dsimp only [setd, setn, ev, nth]
    refine K.seq_pure (K.Pure.eq (K.indexAddr_sl sl_31 rfl rfl (by omega) (by omega)) (show _ = Value.pointer (some ⟨b29, 0 + ((l.getD k default).2.toNat + 1) * 1, none⟩) from by rw [K.add_lit, show ((l.getD k default).2 + 1).toNat = (l.getD k default).2.toNat + 1 by omega])) rfl ?_
    try dsimp only [setd, setn, ev, nth, over, cl, eI, eP, eT, eC, List.map, List.append, List.drop, List.take]
    try dsimp only [setd, setn, ev, nth, over, cl, eI, eP, eT, eC, List.map, List.append, List.drop, List.take]
    refine K.seq_sil (K.load_at one_3 rfl (K.PtrL.own' ((K.m2))) hc2) rfl ?_
    try dsimp only [setd, setn, ev, nth, over, cl, eI, eP, eT, eC, List.map, List.append, List.drop, List.take]
    refine K.seq_pure (K.sub_i64 rfl rfl (by omega)) rfl ?_
    dsimp only [setd, setn, ev, nth]
    refine K.seq_pure (K.Pure.eq (K.indexAddr_sl sl_31 rfl rfl (by omega) (by omega)) (show _ = Value.pointer (some ⟨b29, 0 + ((l.getD k default).2.toNat + 1) * 1, none⟩) from by rw [K.add_lit, show ((l.getD k default).2 + 1).toNat = (l.getD k default).2.toNat + 1 by omega])) rfl ?_
    try dsimp only [setd, setn, ev, nth, over, cl, eI, eP, eT, eC, List.map, List.append, List.drop, List.take]
    try dsimp only [setd, setn, ev, nth, over, cl, eI, eP, eT, eC, List.map, List.append, List.drop, List.take]
    refine K.seq_st (K.store_ix (cs := ((begS ps.length l k).set (l.getD k default).1.toNat ((begS ps.length l k).getD (l.getD k default).1.toNat default + 1)).flatMap K.eI) sz_3 rfl rfl hfit2 rfl (K.rpe K.rp2 (congrArg (K.blk b29 3) hset2.symm))) rfl ?_
    try dsimp only [setd, setn, ev, nth, over, cl, eI, eP, eT, eC, List.map, List.append, List.drop, List.take]
    try dsimp only [setd, setn, ev, nth, over, cl, eI, eP, eT, eC, List.map, List.append, List.drop, List.take]
    refine K.seq_nil ?_
    refine K.norm_block ?_
    refine K.norm_then ?_
    refine K.region_lit ?_
    refine K.seq_pure (K.add_i64 rfl rfl (by omega)) rfl ?_
    dsimp only [setd, setn, ev, nth]
    refine K.seq_pure (K.move) rfl ?_
    dsimp only [setd, setn, ev, nth]
    refine K.seq_nil ?_
    exact K.round_endW (L'' := [K.blk b29 3 ((begS ps.length l (k + 1)).flatMap K.eI), K.blk b2 24 [.int .i64 st, .slice A ps.length c]]) [.int .i64 ((k : Int) + 1)] ⟨k + 1, rfl, rfl, by omega⟩ (by simp [K.nth, intOf]; omega) (List.Sublist.cons _ (List.Sublist.cons _ (List.Sublist.refl _))) (by kernel_rfl)
  try replace ht33 := of_decide_eq_false ht33
  have e0 : k = l.length := by omega
  subst e0
  refine K.exit ?_
  refine K.exit_then ?_
  refine K.exit_then ?_
  refine K.exit_here ?_
  refine K.norm_then ?_
  refine K.seq ?_
  refine K.seq ?_
  refine K.region_lit ?_
  refine K.seq_pure (K.move) rfl ?_
  dsimp only [setd, setn, ev, nth]
  refine K.seq_pure (K.len_sl sl_31 rfl) rfl ?_
  dsimp only [setd, setn, ev, nth]
  refine K.seq_pure (K.Pure.eq (K.sub_i64 rfl rfl (by omega)) (show _ = Value.int .i64 (ps.length : Int) from congrArg (Value.int .i64) (by omega))) rfl ?_
  dsimp only [setd, setn, ev, nth]
  refine K.seq_pure (K.move) rfl ?_
  dsimp only [setd, setn, ev, nth]
  refine K.seq_nil ?_
  refine K.norm_then ?_
  refine K.block ?_
  refine K.loopW [72] [12, 73, 74, 75, 76, 77, 78, 79, 80, 81, 82, 83, 84, 85, 86] (fun vi L => ∃ k : Nat, vi = [.int .i64 (k : Int)] ∧ L = [K.blk b29 3 ((smS (begS ps.length l l.length) k).flatMap K.eI), K.blk b2 24 [.int .i64 st, .slice A ps.length c]] ∧ k ≤ ps.length) (fun vi => ps.length - (intOf (K.nth vi 0)).toNat) ?_ ?_
  · exact ⟨0, rfl, rfl, Nat.zero_le _⟩
  intro vi vr L hJ
  obtain ⟨k, rfl, rfl, hkn⟩ := hJ
  try dsimp only [setd, setn, ev, nth, over, cl, eI, eP, eT, eC, setM, setF, List.map, List.append, List.drop, List.take]
  refine K.seq ?_
  refine K.region_lit ?_
  refine K.seq_pure (K.lss rfl rfl) rfl ?_
  dsimp only [setd, setn, ev, nth]
  refine K.seq_nil ?_
  refine K.norm_then ?_
  refine K.seq ?_
  refine K.cond rfl (fun ht73 => ?_) (fun ht73 => ?_)
  · try replace ht73 := of_decide_eq_true ht73
    have hk : k < ps.length := by omega
    have hbl := begS_len (n := ps.length) (l := l) l.length (Nat.le_refl _)
    have hsl := @smS_len (begS ps.length l l.length) k
    have hbb := begS_bd (n := ps.length) (l := l) l.length (Nat.le_refl _)
    have hq1 := smS_b (d := (begS ps.length l l.length)) (B := 60) (by decide) (by omega) (fun j hj => by have := hbb j (by omega); omega) (k := k) (j := k + 1) (by omega) (by omega)
    have hq2 := smS_b (d := (begS ps.length l l.length)) (B := 60) (by decide) (by omega) (fun j hj => by have := hbb j (by omega); omega) (k := k) (j := k) (by omega) (by omega)
    have hc1 := eI_at (xs := (smS (begS ps.length l l.length) k)) (k := k + 1) (by omega)
    have hc2 := eI_at (xs := (smS (begS ps.length l l.length) k)) (k := k) (by omega)
    have hfit : 0 + (k + 1) * 1 + 1 ≤ ((smS (begS ps.length l l.length) k).flatMap K.eI).length := by rw [eI_len]; omega
    have hset : K.over ((smS (begS ps.length l l.length) k).flatMap K.eI) (0 + (k + 1) * 1) (K.cl (.int .i64 ((smS (begS ps.length l l.length) k).getD (k + 1) default + (smS (begS ps.length l l.length) k).getD k default))) = (smS (begS ps.length l l.length) (k + 1)).flatMap K.eI := K.set_cut0 (e := K.eI) (size := 1) (x := (smS (begS ps.length l l.length) k).getD (k + 1) default + (smS (begS ps.length l l.length) k).getD k default) (fun _ => rfl) (by omega)
    refine K.skip ?_
    refine K.norm_then ?_
    refine K.seq ?_
    refine K.block ?_
    refine K.seq ?_
    refine K.region_lit ?_
    refine K.seq_pure (K.move) rfl ?_
    dsimp only [setd, setn, ev, nth]
    refine K.seq_pure (K.assign) rfl ?_
    dsimp only [setd, setn, ev, nth]
    refine K.seq_nil ?_
    refine K.norm_then ?_
    refine K.draw_L [11] Try_mixed ?_
    refine K.d_pure 0 rfl (K.move) (by kernel_rfl) rfl ?_
    dsimp only [setd, setn, ev, nth]
    refine K.d_pure 1 rfl (K.move) (by kernel_rfl) rfl ?_
    dsimp only [setd, setn, ev, nth]
    refine K.d_pure 2 rfl (K.Pure.eq (K.add_i64 rfl rfl (by omega)) (show _ = Value.int .i64 ((k + 1 : Nat) : Int) from congrArg (Value.int .i64) (by omega))) (by kernel_rfl) rfl ?_
    dsimp only [setd, setn, ev, nth]
    refine K.d_pure 3 rfl (K.Pure.eq (K.indexAddr_sl sl_31 rfl rfl (by omega) (by omega)) (show _ = Value.pointer (some ⟨b29, 0 + (k + 1) * 1, none⟩) from by rw [K.add_lit, Int.toNat_natCast])) (by kernel_rfl) rfl ?_
    try dsimp only [setd, setn, ev, nth, over, cl, eI, eP, eT, eC, List.map, List.append, List.drop, List.take]
    try dsimp only [setd, setn, ev, nth, over, cl, eI, eP, eT, eC, List.map, List.append, List.drop, List.take]
    refine K.d_mem 4 rfl (K.load_at one_3 rfl (K.PtrL.own' ((K.m0))) hc1) (fun _ h => h) (by kernel_rfl) (by kernel_rfl) rfl ?_
    try dsimp only [setd, setn, ev, nth, over, cl, eI, eP, eT, eC, List.map, List.append, List.drop, List.take]
    refine K.d_pure 5 rfl (K.move) (by kernel_rfl) rfl ?_
    dsimp only [setd, setn, ev, nth]
    refine K.d_pure 6 rfl (K.move) (by kernel_rfl) rfl ?_
    dsimp only [setd, setn, ev, nth]
    refine K.d_pure 7 rfl (K.Pure.eq (K.indexAddr_sl sl_31 rfl rfl (by omega) (by omega)) (show _ = Value.pointer (some ⟨b29, 0 + k * 1, none⟩) from by rw [K.add_lit, Int.toNat_natCast])) (by kernel_rfl) rfl ?_
    try dsimp only [setd, setn, ev, nth, over, cl, eI, eP, eT, eC, List.map, List.append, List.drop, List.take]
    try dsimp only [setd, setn, ev, nth, over, cl, eI, eP, eT, eC, List.map, List.append, List.drop, List.take]
    refine K.d_mem 8 rfl (K.load_at one_3 rfl (K.PtrL.own' ((K.m0))) hc2) (fun _ h => h) (by kernel_rfl) (by kernel_rfl) rfl ?_
    try dsimp only [setd, setn, ev, nth, over, cl, eI, eP, eT, eC, List.map, List.append, List.drop, List.take]
    refine K.d_pure 9 rfl (K.add_i64 rfl rfl (by omega)) (by kernel_rfl) rfl ?_
    dsimp only [setd, setn, ev, nth]
    refine K.d_pure 10 rfl (K.Pure.eq (K.indexAddr_sl sl_31 rfl rfl (by omega) (by omega)) (show _ = Value.pointer (some ⟨b29, 0 + (k + 1) * 1, none⟩) from by rw [K.add_lit, Int.toNat_natCast])) (by kernel_rfl) rfl ?_
    try dsimp only [setd, setn, ev, nth, over, cl, eI, eP, eT, eC, List.map, List.append, List.drop, List.take]
    try dsimp only [setd, setn, ev, nth, over, cl, eI, eP, eT, eC, List.map, List.append, List.drop, List.take]
    refine K.d_last 11 rfl (K.store_ix (cs := (smS (begS ps.length l l.length) k).flatMap K.eI) sz_3 rfl rfl hfit rfl (K.rpe K.rp0 (congrArg (K.blk b29 3) hset.symm))) rfl (by kernel_rfl) rfl ?_
    intro _ _
    try dsimp only [setd, setn, ev, nth, over, cl, eI, eP, eT, eC, List.map, List.append, List.drop, List.take]
    try dsimp only [setd, setn, ev, nth, over, cl, eI, eP, eT, eC, List.map, List.append, List.drop, List.take]
    refine K.d_done (by kernel_rfl) ?_
    refine K.norm_block ?_
    refine K.norm_then ?_
    refine K.region_lit ?_
    refine K.seq_pure (K.add_i64 rfl rfl (by omega)) rfl ?_
    dsimp only [setd, setn, ev, nth]
    refine K.seq_pure (K.move) rfl ?_
    dsimp only [setd, setn, ev, nth]
    refine K.seq_nil ?_
    exact K.round_endW (L'' := [K.blk b29 3 ((smS (begS ps.length l l.length) (k + 1)).flatMap K.eI), K.blk b2 24 [.int .i64 st, .slice A ps.length c]]) [.int .i64 ((k : Int) + 1)] ⟨k + 1, rfl, rfl, by omega⟩ (by simp [K.nth, intOf]; omega) (List.Sublist.refl _) (by kernel_rfl)
  try replace ht73 := of_decide_eq_false ht73
  refine K.exit ?_
  refine K.exit_then ?_
  refine K.exit_then ?_
  refine K.exit_here ?_
  refine K.norm_then ?_
  refine K.seq ?_
  refine K.region_lit ?_
  refine K.seq_pure (K.move) rfl ?_
  dsimp only [setd, setn, ev, nth]
  refine K.seq_pure (K.fieldAddr_lit fo_24_1 rfl) rfl ?_
  dsimp only [setd, setn, ev, nth]
  refine K.seq_sil (K.load1_own one_22 rfl (K.m1) rfl) rfl ?_
  try dsimp only [setd, setn, ev, nth, over, cl, eI, eP, eT, eC, List.map, List.append, List.drop, List.take]
  refine K.seq_pure (K.len_sl sl_22 rfl) rfl ?_
  dsimp only [setd, setn, ev, nth]
  refine K.seq_pure (K.slice_hi ps.length sl_31 rfl rfl rfl (by omega)) rfl ?_
  try dsimp only [setd, setn, ev, nth, over, cl, eI, eP, eT, eC, List.map, List.append, List.drop, List.take]
  refine K.seq_pure (K.assign) rfl ?_
  dsimp only [setd, setn, ev, nth]
  refine K.seq_pure (K.assign) rfl ?_
  dsimp only [setd, setn, ev, nth]
  refine K.seq_nil ?_
  refine K.norm_then ?_
  refine K.ret ?_
  refine K.end_ret (fun w _ => K.res_tmp2 rfl w) ?_
  have e0 : k = ps.length := by omega
  subst e0
  have hbl := begS_len (n := ps.length) (l := l) l.length (Nat.le_refl _)
  have hsl := @smS_len (begS ps.length l l.length) ps.length
  refine K.blk_row (size := 1) (n := ps.length + 1) (by rw [eI_len]; omega) (by simp only [maxLen]; omega) ?_
  refine K.row_shrink (m := ps.length) K.rp0 (by omega) ?_
  exact K.rets_se (n := ps.length) K.m0 (by rw [List.length_take]; omega) eI_take rfl rfl

end Go.Proofs.Ytfbglomliankmaa.Cv
end
section
set_option linter.unusedSimpArgs false
set_option linter.unusedVariables false
namespace Go.Proofs.Ytfbglomliankmaa.Sc
open Go
theorem bit_all : (List.range 256).all (fun s => (List.range 8).all fun i => decide (IntKind.i64.wrap (BitVec.ofInt IntKind.i64.bits (((s : Nat) : Int).fdiv (2 ^ min (Int.toNat ((i : Nat) : Int)) IntKind.i64.bits)) &&& BitVec.ofInt IntKind.i64.bits 1).toNat = if s.testBit i then 1 else 0)) = true := by decide +kernel
theorem bit_val {s i : Nat} (hs : s < 256) (hi : i < 8) : IntKind.i64.wrap (BitVec.ofInt IntKind.i64.bits (((s : Nat) : Int).fdiv (2 ^ min (Int.toNat ((i : Nat) : Int)) IntKind.i64.bits)) &&& BitVec.ofInt IntKind.i64.bits 1).toNat = if s.testBit i then 1 else 0 := by
  have h := List.all_eq_true.1 (List.all_eq_true.1 bit_all s (List.mem_range.2 hs)) i (List.mem_range.2 hi)
  simpa using h
theorem shl_val {n : Nat} (hn : n ≤ 8) : IntKind.i64.wrap (1 * 2 ^ min (Int.toNat (n : Int)) IntKind.i64.bits) = ((2 ^ n : Nat) : Int) := by
  have h : ∀ k ∈ List.range 9, IntKind.i64.wrap (1 * 2 ^ min (Int.toNat ((k : Nat) : Int)) IntKind.i64.bits) = ((2 ^ k : Nat) : Int) := by decide +kernel
  exact h n (List.mem_range.2 (by omega))
theorem pow_bd {n : Nat} (hn : n ≤ 8) : 2 ^ n ≤ 256 := by
  have h : ∀ k ∈ List.range 9, 2 ^ k ≤ 256 := by decide +kernel
  exact h n (List.mem_range.2 (by omega))
def popN (s : Nat) : Nat := ((List.range 8).filter fun i => s.testBit i).length
def mkI (s k : Nat) (xs : List Int) : List Int := (List.range 8).map fun i => if i < k ∧ s.testBit i = false then 0 else xs.getD i default
theorem mkI_len {s k : Nat} {xs : List Int} : (mkI s k xs).length = 8 := by simp [mkI]
theorem mkI_at {s k i : Nat} {xs : List Int} (hi : i < 8) : (mkI s k xs).getD i default = if i < k ∧ s.testBit i = false then 0 else xs.getD i default := by
  unfold mkI; rw [getD_map _ _ (by simpa using hi)]; simp [List.getD_eq_getElem?_getD, hi]
theorem a8_mk0 {s : Nat} {xs : List Int} : a8 (mkI s 0 xs) = a8 xs := by
  unfold a8
  apply List.map_congr_left
  intro i hi
  rw [mkI_at (List.mem_range.1 hi)]; simp
theorem a8_mkT {s k : Nat} {xs : List Int} (h : s.testBit k = true) : a8 (mkI s k xs) = a8 (mkI s (k + 1) xs) := by
  unfold a8
  apply List.map_congr_left
  intro i hi
  rw [mkI_at (List.mem_range.1 hi), mkI_at (List.mem_range.1 hi)]
  congr 1
  by_cases hik : i = k
  · subst hik; simp [h]
  · have : (i < k ∧ s.testBit i = false) ↔ (i < k + 1 ∧ s.testBit i = false) := by constructor <;> rintro ⟨h1, h2⟩ <;> exact ⟨by omega, h2⟩
    simp only [this]
theorem a8_mkF {s k : Nat} {xs : List Int} (hk : k < 8) (h : s.testBit k = false) : K.setn (a8 (mkI s k xs)) (0 + (k : Int).toNat * 1) (.int .i64 0) = a8 (mkI s (k + 1) xs) := by
  have e : 0 + (k : Int).toNat * 1 = k := by omega
  rw [e, K.setn_eq]
  apply List.ext_getElem?
  intro i
  rw [List.getElem?_set]
  simp only [a8, List.length_map, List.length_range, List.getElem?_map]
  rcases Nat.lt_or_ge i 8 with h8 | h8
  · rw [List.getElem?_range h8]
    simp only [Option.map_some]
    rw [mkI_at h8, mkI_at h8]
    by_cases hik : k = i
    · subst hik
      simp only [if_true, hk, h]
      have : k < k + 1 ∧ True := ⟨by omega, trivial⟩
      simp
    · have : (i < k ∧ s.testBit i = false) ↔ (i < k + 1 ∧ s.testBit i = false) := by constructor <;> rintro ⟨h1, h2⟩ <;> exact ⟨by omega, h2⟩
      simp only [hik, if_false, this]
  · rw [List.getElem?_eq_none (by simpa using h8)]
    have : ¬ k = i := by omega
    simp [this]
@[reducible] def kv (z : List Int) : Value := .agg (a8 z).toArray
theorem a8_inj {x y : List Int} (hx : x.length = 8) (hy : y.length = 8) (h : a8 x = a8 y) : x = y := by
  refine ext_getD (by omega) fun j hj => ?_
  have h1 : (a8 x)[j]? = (a8 y)[j]? := by rw [h]
  simpa [a8, List.getElem?_map, List.getElem?_range (show j < 8 by omega)] using h1
theorem kv_inj {x y : List Int} (hx : x.length = 8) (hy : y.length = 8) (h : kv x = kv y) : x = y := by
  unfold kv at h
  injection h with h
  exact a8_inj hx hy (by simpa using h)
section
variable {E : Type} [DecidableEq E]
def ddK (zs : List E) : List E := zs.foldl K.insK []
theorem ddK_snoc {zs : List E} {z : E} : ddK (zs ++ [z]) = K.insK (ddK zs) z := by unfold ddK; rw [List.foldl_append]; rfl
theorem mem_insK {ks : List E} {k z : E} : z ∈ K.insK ks k ↔ z ∈ ks ∨ z = k := by
  unfold K.insK
  split
  · rename_i h
    constructor
    · exact .inl
    · rintro (h1 | rfl)
      · exact h1
      · exact h
  · simp
theorem mem_ddK {zs : List E} {z : E} : z ∈ ddK zs ↔ z ∈ zs := by
  have key : ∀ (zs : List E) (acc : List E), z ∈ zs.foldl K.insK acc ↔ z ∈ acc ∨ z ∈ zs := by
    intro zs
    induction zs with
    | nil => simp
    | cons y zs ih =>
      intro acc
      rw [List.foldl_cons, ih, mem_insK, List.mem_cons, or_assoc]
  unfold ddK
  rw [key]; simp
end
section
variable (kind base : Int) (hs : List Int)
def keysT (s : Nat) (l : List (Int × Int)) : List (List Int) := l.map fun x => mkI s 8 (cuts kind base x.1 x.2 hs)
def apB (l : List (Int × Int)) (s : Nat) : Bool := decide ((ddK (keysT kind base hs s l)).length = l.length)
def ptsS (n s : Nat) : List Int := selN (fun i => s.testBit i) n
def cmpL : List Int → List Int → Int
  | [], [] => 0
  | [], _ :: _ => -1
  | _ :: _, [] => 1
  | a :: x, b :: y => if a < b then -1 else if a > b then 1 else cmpL x y
def tellF (l : List (Int × Int)) (n : Nat) : Nat → List Int × Nat
  | 0 => ([], n + 1)
  | s + 1 =>
    if popN s > (tellF l n s).2 ∨ apB kind base hs l s = false then tellF l n s
    else if (ptsS n s).length < (tellF l n s).2 ∨ cmpL (ptsS n s) (tellF l n s).1 < 0 then (ptsS n s, (ptsS n s).length) else tellF l n s
end
def cmpS (a b : Int) : Int := if a < b then -1 else if a > b then 1 else 0
theorem cmp0 {a b : Int} (h : cmpS a b = 0) : a = b := by unfold cmpS at h; split at h <;> (try split at h) <;> omega
theorem cmpL_cons {a b : Int} {x y : List Int} : cmpL (a :: x) (b :: y) = if cmpS a b ≠ 0 then cmpS a b else cmpL x y := by
  unfold cmpS; rw [cmpL]
  split
  · simp
  · split <;> simp
theorem cmpL_drop : ∀ {k : Nat} {xs ys : List Int}, (∀ j, j < k → xs.getD j default = ys.getD j default) → k ≤ xs.length → k ≤ ys.length → cmpL xs ys = cmpL (xs.drop k) (ys.drop k)
  | 0, _, _, _, _, _ => rfl
  | k + 1, [], _, _, h, _ => by simp at h
  | k + 1, _ :: _, [], _, _, h => by simp at h
  | k + 1, x :: xs, y :: ys, hall, h1, h2 => by
    have h0 := hall 0 (by omega)
    simp at h0
    rw [cmpL_cons, if_neg (by subst h0; simp [cmpS]), List.drop_succ_cons, List.drop_succ_cons]
    exact cmpL_drop (fun j hj => by have := hall (j + 1) (by omega); simpa using this) (by simpa using h1) (by simpa using h2)
section
variable {k : Nat} {xs ys : List Int}
theorem cmpL_long (hall : ∀ j, j < k → xs.getD j default = ys.getD j default) (h1 : k < xs.length) (h2 : k = ys.length) : cmpL xs ys = 1 := by
  rw [cmpL_drop hall (by omega) (by omega), show ys.drop k = [] from List.drop_of_length_le (by omega), List.drop_eq_getElem_cons h1]; rfl
theorem cmpL_diff (hall : ∀ j, j < k → xs.getD j default = ys.getD j default) (h1 : k < xs.length) (h2 : k < ys.length) (hne : cmpS (xs.getD k default) (ys.getD k default) ≠ 0) : cmpL xs ys = cmpS (xs.getD k default) (ys.getD k default) := by
  rw [cmpL_drop hall (by omega) (by omega), List.drop_eq_getElem_cons h1, List.drop_eq_getElem_cons h2, cmpL_cons]
  simp only [List.getD_eq_getElem?_getD, List.getElem?_eq_getElem h1, List.getElem?_eq_getElem h2, Option.getD_some] at hne ⊢
  rw [if_pos hne]
theorem cmpL_short (hall : ∀ j, j < k → xs.getD j default = ys.getD j default) (h1 : k = xs.length) (h2 : k < ys.length) : cmpL xs ys = -1 := by
  rw [cmpL_drop hall (by omega) (by omega), show xs.drop k = [] from List.drop_of_length_le (by omega), List.drop_eq_getElem_cons h2]; rfl
theorem cmpL_same (hall : ∀ j, j < k → xs.getD j default = ys.getD j default) (h1 : k = xs.length) (h2 : k = ys.length) : cmpL xs ys = 0 := by
  rw [cmpL_drop hall (by omega) (by omega), show xs.drop k = [] from List.drop_of_length_le (by omega), show ys.drop k = [] from List.drop_of_length_le (by omega)]; rfl
end
end Go.Proofs.Ytfbglomliankmaa.Sc

namespace Go.Proofs.Ytfbglomliankmaa.Sc
open Go
section
variable {kind base most : Int} {hs : List Int} {rs : List (Int × Int)} {l : List (Int × Int)} {n s : Nat} {F : List Int × Nat}
theorem tellF_skip1 (hF : F = tellF kind base hs l n s) (h : popN s > F.2) : F = tellF kind base hs l n (s + 1) := by
  subst hF; rw [tellF, if_pos (.inl h)]
theorem tellF_skip2 (hF : F = tellF kind base hs l n s) (h : apB kind base hs l s = false) : F = tellF kind base hs l n (s + 1) := by
  subst hF; rw [tellF, if_pos (.inr h)]
theorem tellF_t (hF : F = tellF kind base hs l n s) (h1 : ¬ popN s > F.2) (h2 : apB kind base hs l s = true) (h3 : (ptsS n s).length < F.2 ∨ cmpL (ptsS n s) F.1 < 0) : (ptsS n s, (ptsS n s).length) = tellF kind base hs l n (s + 1) := by
  subst hF; rw [tellF, if_neg (by rw [h2]; simp; omega), if_pos h3]
theorem tellF_f (hF : F = tellF kind base hs l n s) (h1 : ¬ popN s > F.2) (h2 : apB kind base hs l s = true) (h3 : ¬ ((ptsS n s).length < F.2 ∨ cmpL (ptsS n s) F.1 < 0)) : F = tellF kind base hs l n (s + 1) := by
  subst hF; rw [tellF, if_neg (by rw [h2]; simp; omega), if_neg h3]
theorem pts_len : (ptsS n s).length ≤ n := selN_len
theorem tellF_len : ∀ s, (tellF kind base hs l n s).1.length ≤ n ∧ (tellF kind base hs l n s).2 ≤ n + 1
  | 0 => by simp [tellF]
  | s + 1 => by
    have ih := tellF_len s
    unfold tellF
    split
    · exact ih
    · split
      · have := @pts_len n s
        exact ⟨this, by simp only; omega⟩
      · exact ih
end
section
variable (kind base most : Int) (hs : List Int) (rs : List (Int × Int)) (l : List (Int × Int))
def tellE : Int :=
  if (chk kind base most hs rs).2.2 ≠ 0 then (chk kind base most hs rs).2.2
  else if l.length > 6 then 3
  else if scsE l ≠ 0 then scsE l
  else if apB kind base hs l (2 ^ hs.length - 1) = false then 5 else 0
def tellR : List Int := if tellE kind base most hs rs l = 0 then (tellF kind base hs l hs.length (2 ^ hs.length)).1 else []
end
section
variable {kind base most : Int} {hs : List Int} {rs : List (Int × Int)} {l : List (Int × Int)}
theorem te_chk (h : (chk kind base most hs rs).2.2 ≠ 0) : tellE kind base most hs rs l = (chk kind base most hs rs).2.2 := by unfold tellE; rw [if_pos h]
theorem te_long (h : (chk kind base most hs rs).2.2 = 0) (h6 : l.length > 6) : tellE kind base most hs rs l = 3 := by unfold tellE; rw [if_neg (by omega), if_pos h6]
theorem te_sc (h : (chk kind base most hs rs).2.2 = 0) (h6 : ¬ l.length > 6) (h1 : scsE l ≠ 0) : tellE kind base most hs rs l = scsE l := by unfold tellE; rw [if_neg (by omega), if_neg h6, if_pos h1]
theorem te_tw (h : (chk kind base most hs rs).2.2 = 0) (h6 : ¬ l.length > 6) (h1 : scsE l = 0) (h2 : apB kind base hs l (2 ^ hs.length - 1) = false) : tellE kind base most hs rs l = 5 := by unfold tellE; rw [if_neg (by omega), if_neg h6, if_neg (by omega), if_pos h2]
theorem te_ok (h : (chk kind base most hs rs).2.2 = 0) (h6 : ¬ l.length > 6) (h1 : scsE l = 0) (h2 : apB kind base hs l (2 ^ hs.length - 1) = true) : tellE kind base most hs rs l = 0 := by unfold tellE; rw [if_neg (by omega), if_neg h6, if_neg (by omega), if_neg (by rw [h2]; decide)]
theorem tr_bad (h : tellE kind base most hs rs l ≠ 0) : tellR kind base most hs rs l = [] := by unfold tellR; rw [if_neg h]
theorem scsE_mem : ∀ {l : List (Int × Int)}, scsE l = 0 → ∀ x ∈ l, scE x.1 x.2 = 0
  | [], _, x, hx => by cases hx
  | a :: l, h, x, hx => by
    unfold scsE at h
    split at h
    · rename_i h1; exact absurd h h1
    · rcases List.mem_cons.1 hx with rfl | hx
      · omega
      · exact scsE_mem h x hx
theorem scsE_parts {l : List (Int × Int)} (h : scsE l = 0) : ∀ x ∈ l, Parts x.1 x.2 := fun x hx => scE_parts (scsE_mem h x hx)
end
end Go.Proofs.Ytfbglomliankmaa.Sc
end
section
set_option linter.unusedSimpArgs false
set_option linter.unusedVariables false
namespace Go.Proofs.Ytfbglomliankmaa.Sc
open Go.RowKit Go
open Go.K (setd setn ev nth over cl eI eP eT setM setF)
attribute [local irreducible] K.blk K.row
theorem ik_5 : K.ik Try.prog 5 = some .u8 := by kernel_rfl
theorem ik_3 : K.ik Try.prog 3 = some .i64 := by kernel_rfl

set_option maxRecDepth 100000 in
theorem c103 {n : Int} (w : World) :
    Calls Try.prog 97 [.int .i64 n].toArray w (K.Gives (.bool false) w) := by
  refine K.enter (args := [.int .i64 n]) Try.func97 rfl (n := 5) rfl ?_
  simp only [List.replicate, List.cons_append, List.nil_append]
  refine K.seq ?_
  refine K.region_lit ?_
  refine K.seq_pure (K.assign) rfl ?_
  dsimp only [setd, setn, ev, nth]
  refine K.seq_nil ?_
  refine K.norm_then ?_
  refine K.seq ?_
  refine K.region_lit ?_
  refine K.seq_pure (K.move) rfl ?_
  dsimp only [setd, setn, ev, nth]
  refine K.seq_pure (K.move) rfl ?_
  dsimp only [setd, setn, ev, nth]
  refine K.seq_pure (K.neq rfl rfl) rfl ?_
  dsimp only [setd, setn, ev, nth]
  refine K.seq_pure (K.assign) rfl ?_
  dsimp only [setd, setn, ev, nth]
  refine K.seq_nil ?_
  refine K.norm_then ?_
  refine K.ret ?_
  refine K.end_ret (fun w _ => K.res_tmp rfl w) ?_
  exact K.gives_b rfl (by simp)

set_option maxRecDepth 100000 in
theorem c96 {a b : Int} (w : World) :
    Calls Try.prog 89 [.int .i64 a, .int .i64 b].toArray w (K.Gives (.int .i64 (cmpS a b)) w) := by
  refine K.enter (args := [.int .i64 a, .int .i64 b]) Try.func89 rfl (n := 18) rfl ?_
  simp only [List.replicate, List.cons_append, List.nil_append]
  refine K.seq ?_
  refine K.region_lit ?_
  refine K.seq_pure (K.assign) rfl ?_
  dsimp only [setd, setn, ev, nth]
  refine K.seq_nil ?_
  refine K.norm_then ?_
  refine K.seq ?_
  refine K.region_lit ?_
  refine K.seq_pure (K.move) rfl ?_
  dsimp only [setd, setn, ev, nth]
  refine K.seq_call (K.call_g cal_97 (fun F w hF hw => c103 w)) rfl ?_
  try dsimp only [setd, setn, ev, nth, over, cl, eI, eP, eT, List.map, List.append, List.drop, List.take]
  refine K.seq_pure (K.assign) rfl ?_
  dsimp only [setd, setn, ev, nth]
  refine K.seq_nil ?_
  refine K.norm_then ?_
  refine K.seq ?_
  refine K.region_lit ?_
  refine K.seq_pure (K.move) rfl ?_
  dsimp only [setd, setn, ev, nth]
  refine K.seq_call (K.call_g cal_97 (fun F w hF hw => c103 w)) rfl ?_
  try dsimp only [setd, setn, ev, nth, over, cl, eI, eP, eT, List.map, List.append, List.drop, List.take]
  refine K.seq_pure (K.assign) rfl ?_
  dsimp only [setd, setn, ev, nth]
  refine K.seq_nil ?_
  refine K.norm_then ?_
  refine K.seq ?_
  refine K.seq ?_
  refine K.region_lit ?_
  refine K.seq_pure (K.move) rfl ?_
  dsimp only [setd, setn, ev, nth]
  refine K.seq_nil ?_
  refine K.norm_then ?_
  refine K.cond rfl (fun ht11 => ?_) (fun ht11 => ?_)
  · try replace ht11 := of_decide_eq_true ht11
    cases ht11
  try replace ht11 := of_decide_eq_false ht11
  refine K.skip ?_
  refine K.norm_then ?_
  refine K.seq ?_
  refine K.seq ?_
  refine K.region_lit ?_
  refine K.seq_pure (K.move) rfl ?_
  dsimp only [setd, setn, ev, nth]
  refine K.seq_nil ?_
  refine K.norm_then ?_
  refine K.cond rfl (fun ht13 => ?_) (fun ht13 => ?_)
  · try replace ht13 := of_decide_eq_true ht13
    cases ht13
  try replace ht13 := of_decide_eq_false ht13
  refine K.skip ?_
  refine K.norm_then ?_
  refine K.seq ?_
  refine K.seq ?_
  refine K.region_lit ?_
  refine K.seq_pure (K.move) rfl ?_
  dsimp only [setd, setn, ev, nth]
  refine K.seq_pure (K.move) rfl ?_
  dsimp only [setd, setn, ev, nth]
  refine K.seq_pure (K.lss rfl rfl) rfl ?_
  dsimp only [setd, setn, ev, nth]
  refine K.seq_nil ?_
  refine K.norm_then ?_
  refine K.cond rfl (fun ht16 => ?_) (fun ht16 => ?_)
  · try replace ht16 := of_decide_eq_true ht16
    refine K.seq ?_
    refine K.region_lit ?_
    refine K.seq_pure (K.assign) rfl ?_
    dsimp only [setd, setn, ev, nth]
    refine K.seq_nil ?_
    refine K.norm_then ?_
    refine K.ret ?_
    refine K.ret_then ?_
    refine K.end_ret (fun w _ => K.res_tmp rfl w) ?_
    exact K.gives_i rfl (by unfold cmpS; rw [if_pos (by omega)])
  try replace ht16 := of_decide_eq_false ht16
  refine K.skip ?_
  refine K.norm_then ?_
  refine K.seq ?_
  refine K.seq ?_
  refine K.region_lit ?_
  refine K.seq_pure (K.move) rfl ?_
  dsimp only [setd, setn, ev, nth]
  refine K.seq_pure (K.move) rfl ?_
  dsimp only [setd, setn, ev, nth]
  refine K.seq_pure (K.gtr rfl rfl) rfl ?_
  dsimp only [setd, setn, ev, nth]
  refine K.seq_nil ?_
  refine K.norm_then ?_
  refine K.cond rfl (fun ht19 => ?_) (fun ht19 => ?_)
  · try replace ht19 := of_decide_eq_true ht19
    refine K.seq ?_
    refine K.region_lit ?_
    refine K.seq_pure (K.assign) rfl ?_
    dsimp only [setd, setn, ev, nth]
    refine K.seq_nil ?_
    refine K.norm_then ?_
    refine K.ret ?_
    refine K.ret_then ?_
    refine K.end_ret (fun w _ => K.res_tmp rfl w) ?_
    exact K.gives_i rfl (by unfold cmpS; rw [if_neg (by omega), if_pos (by omega)])
  try replace ht19 := of_decide_eq_false ht19
  refine K.skip ?_
  refine K.norm_then ?_
  refine K.seq ?_
  refine K.region_lit ?_
  refine K.seq_pure (K.assign) rfl ?_
  dsimp only [setd, setn, ev, nth]
  refine K.seq_nil ?_
  refine K.norm_then ?_
  refine K.ret ?_
  refine K.end_ret (fun w _ => K.res_tmp rfl w) ?_
  exact K.gives_i rfl (by unfold cmpS; rw [if_neg (by omega), if_neg (by omega)])

end Go.Proofs.Ytfbglomliankmaa.Sc
end
section
set_option linter.unusedSimpArgs false
set_option linter.unusedVariables false
namespace Go.Proofs.Ytfbglomliankmaa.Sc
open Go.RowKit Go
open Go.K (setd setn ev nth over cl eI eP eT setM setF)
attribute [local irreducible] K.blk K.row
def uand (a b : Int) : Int := IntKind.u64.wrap (BitVec.ofInt IntKind.u64.bits a &&& BitVec.ofInt IntKind.u64.bits b).toNat
def ushr (a n : Int) : Int := a.fdiv (2 ^ min n.toNat IntKind.u64.bits)
def oc1 (x : Int) : Int := IntKind.u64.wrap (uand (ushr x 1) 6148914691236517205 + uand x 6148914691236517205)
def oc2 (x : Int) : Int := IntKind.u64.wrap (uand (ushr x 2) 3689348814741910323 + uand x 3689348814741910323)
def oc3 (x : Int) : Int := uand (IntKind.u64.wrap (ushr x 4 + x)) 1085102592571150095
def oc4 (n x : Int) : Int := IntKind.u64.wrap (x + ushr x n)
def oc5 (x : Int) : Int := IntKind.i64.wrap (BitVec.ofInt IntKind.i64.bits (IntKind.i64.wrap x) &&& BitVec.ofInt IntKind.i64.bits 127).toNat
theorem oc_all : (List.range 256).all (fun s => decide (oc5 (oc4 32 (oc4 16 (oc4 8 (oc3 (oc2 (oc1 ((s : Nat) : Int))))))) = ((popN s : Nat) : Int))) = true := by decide +kernel
theorem oc_val {s : Nat} (hs : s < 256) : oc5 (oc4 32 (oc4 16 (oc4 8 (oc3 (oc2 (oc1 (s : Int))))))) = (popN s : Int) := by
  have h := List.all_eq_true.1 oc_all s (List.mem_range.2 hs)
  simpa using h
theorem ik_160 : K.ik Try.prog 160 = some .u64 := by kernel_rfl
theorem ik_137 : K.ik Try.prog 137 = some .u64 := by kernel_rfl
theorem wrapU {s : Nat} (hs : s < 256) : IntKind.u64.wrap (s : Int) = s := by
  have h : (List.range 256).all (fun s => decide (IntKind.u64.wrap ((s : Nat) : Int) = ((s : Nat) : Int))) = true := by decide +kernel
  have := List.all_eq_true.1 h s (List.mem_range.2 hs)
  simpa using this

set_option maxRecDepth 100000 in
theorem c95 {s : Nat} (hs8 : s < 256) (w : World) :
    Calls Try.prog 88 [.int .u64 s].toArray w (K.Gives (.int .i64 (popN s)) w) := by
  refine K.enter (args := [.int .u64 s]) Try.func88 rfl (n := 34) rfl ?_
  simp only [List.replicate, List.cons_append, List.nil_append]
  refine K.seq ?_
  refine K.region_lit ?_
  refine K.seq_pure (K.assign) rfl ?_
  dsimp only [setd, setn, ev, nth]
  refine K.seq_nil ?_
  refine K.norm_then ?_
  refine K.seq ?_
  refine K.region_lit ?_
  refine K.seq_pure (K.move) rfl ?_
  dsimp only [setd, setn, ev, nth]
  refine K.seq_pure (K.shr_int rfl rfl (by decide)) rfl ?_
  dsimp only [setd, setn, ev, nth]
  refine K.seq_pure (K.and_int rfl rfl) rfl ?_
  dsimp only [setd, setn, ev, nth]
  refine K.seq_pure (K.move) rfl ?_
  dsimp only [setd, setn, ev, nth]
  refine K.seq_pure (K.and_int rfl rfl) rfl ?_
  dsimp only [setd, setn, ev, nth]
  refine K.seq_pure (K.Pure.eq (K.add_wrap rfl rfl) (show _ = .int .u64 (oc1 s) from rfl)) rfl ?_
  dsimp only [setd, setn, ev, nth]
  refine K.seq_pure (K.assign) rfl ?_
  dsimp only [setd, setn, ev, nth]
  refine K.seq_nil ?_
  refine K.norm_then ?_
  refine K.seq ?_
  refine K.region_lit ?_
  refine K.seq_pure (K.move) rfl ?_
  dsimp only [setd, setn, ev, nth]
  refine K.seq_pure (K.shr_int rfl rfl (by decide)) rfl ?_
  dsimp only [setd, setn, ev, nth]
  refine K.seq_pure (K.and_int rfl rfl) rfl ?_
  dsimp only [setd, setn, ev, nth]
  refine K.seq_pure (K.move) rfl ?_
  dsimp only [setd, setn, ev, nth]
  refine K.seq_pure (K.and_int rfl rfl) rfl ?_
  dsimp only [setd, setn, ev, nth]
  refine K.seq_pure (K.Pure.eq (K.add_wrap rfl rfl) (show _ = .int .u64 (oc2 (oc1 s)) from rfl)) rfl ?_
  dsimp only [setd, setn, ev, nth]
  refine K.seq_pure (K.assign) rfl ?_
  dsimp only [setd, setn, ev, nth]
  refine K.seq_nil ?_
  refine K.norm_then ?_
  refine K.seq ?_
  refine K.region_lit ?_
  refine K.seq_pure (K.move) rfl ?_
  dsimp only [setd, setn, ev, nth]
  refine K.seq_pure (K.shr_int rfl rfl (by decide)) rfl ?_
  dsimp only [setd, setn, ev, nth]
  refine K.seq_pure (K.move) rfl ?_
  dsimp only [setd, setn, ev, nth]
  refine K.seq_pure (K.add_wrap rfl rfl) rfl ?_
  dsimp only [setd, setn, ev, nth]
  refine K.seq_pure (K.Pure.eq (K.and_int rfl rfl) (show _ = .int .u64 (oc3 (oc2 (oc1 s))) from rfl)) rfl ?_
  dsimp only [setd, setn, ev, nth]
  refine K.seq_pure (K.assign) rfl ?_
  dsimp only [setd, setn, ev, nth]
  refine K.seq_nil ?_
  refine K.norm_then ?_
  refine K.seq ?_
  refine K.region_lit ?_
  refine K.seq_pure (K.move) rfl ?_
  dsimp only [setd, setn, ev, nth]
  refine K.seq_pure (K.move) rfl ?_
  dsimp only [setd, setn, ev, nth]
  refine K.seq_pure (K.shr_int rfl rfl (by decide)) rfl ?_
  dsimp only [setd, setn, ev, nth]
  refine K.seq_pure (K.Pure.eq (K.add_wrap rfl rfl) (show _ = .int .u64 (oc4 8 (oc3 (oc2 (oc1 s)))) from rfl)) rfl ?_
  dsimp only [setd, setn, ev, nth]
  refine K.seq_pure (K.assign) rfl ?_
  dsimp only [setd, setn, ev, nth]
  refine K.seq_nil ?_
  refine K.norm_then ?_
  refine K.seq ?_
  refine K.region_lit ?_
  refine K.seq_pure (K.move) rfl ?_
  dsimp only [setd, setn, ev, nth]
  refine K.seq_pure (K.move) rfl ?_
  dsimp only [setd, setn, ev, nth]
  refine K.seq_pure (K.shr_int rfl rfl (by decide)) rfl ?_
  dsimp only [setd, setn, ev, nth]
  refine K.seq_pure (K.Pure.eq (K.add_wrap rfl rfl) (show _ = .int .u64 (oc4 16 (oc4 8 (oc3 (oc2 (oc1 s))))) from rfl)) rfl ?_
  dsimp only [setd, setn, ev, nth]
  refine K.seq_pure (K.assign) rfl ?_
  dsimp only [setd, setn, ev, nth]
  refine K.seq_nil ?_
  refine K.norm_then ?_
  refine K.seq ?_
  refine K.region_lit ?_
  refine K.seq_pure (K.move) rfl ?_
  dsimp only [setd, setn, ev, nth]
  refine K.seq_pure (K.move) rfl ?_
  dsimp only [setd, setn, ev, nth]
  refine K.seq_pure (K.shr_int rfl rfl (by decide)) rfl ?_
  dsimp only [setd, setn, ev, nth]
  refine K.seq_pure (K.Pure.eq (K.add_wrap rfl rfl) (show _ = .int .u64 (oc4 32 (oc4 16 (oc4 8 (oc3 (oc2 (oc1 s)))))) from rfl)) rfl ?_
  dsimp only [setd, setn, ev, nth]
  refine K.seq_pure (K.assign) rfl ?_
  dsimp only [setd, setn, ev, nth]
  refine K.seq_nil ?_
  refine K.norm_then ?_
  refine K.seq ?_
  refine K.region_lit ?_
  refine K.seq_pure (K.move) rfl ?_
  dsimp only [setd, setn, ev, nth]
  refine K.seq_pure (K.conv_int ik_160 ik_3 rfl) rfl ?_
  try dsimp only [setd, setn, ev, nth, over, cl, eI, eP, eT, List.map, List.append, List.drop, List.take]
  refine K.seq_pure (K.and_int rfl rfl) rfl ?_
  dsimp only [setd, setn, ev, nth]
  refine K.seq_pure (K.assign) rfl ?_
  dsimp only [setd, setn, ev, nth]
  refine K.seq_nil ?_
  refine K.norm_then ?_
  refine K.ret ?_
  refine K.end_ret (fun w _ => K.res_tmp rfl w) ?_
  exact K.gives_i rfl (oc_val hs8)

set_option maxRecDepth 100000 in
theorem c76 {s : Nat} (hs8 : s < 256) (w : World) :
    Calls Try.prog 68 [.int .u64 s].toArray w (K.Gives (.int .i64 (popN s)) w) := by
  refine K.enter (args := [.int .u64 s]) Try.func68 rfl (n := 7) rfl ?_
  simp only [List.replicate, List.cons_append, List.nil_append]
  refine K.seq ?_
  refine K.region_lit ?_
  refine K.seq_pure (K.assign) rfl ?_
  dsimp only [setd, setn, ev, nth]
  refine K.seq_nil ?_
  refine K.norm_then ?_
  refine K.seq ?_
  refine K.cond_false rfl ?_
  refine K.skip ?_
  refine K.norm_then ?_
  refine K.seq ?_
  refine K.region_lit ?_
  refine K.seq_pure (K.move) rfl ?_
  dsimp only [setd, setn, ev, nth]
  refine K.seq_call (K.call_g cal_88 (fun F w hF hw => c95 hs8 w)) rfl ?_
  try dsimp only [setd, setn, ev, nth, over, cl, eI, eP, eT, List.map, List.append, List.drop, List.take]
  refine K.seq_pure (K.assign) rfl ?_
  dsimp only [setd, setn, ev, nth]
  refine K.seq_nil ?_
  refine K.norm_then ?_
  refine K.ret ?_
  refine K.end_ret (fun w _ => K.res_tmp rfl w) ?_
  exact K.gives rfl

set_option maxRecDepth 100000 in
theorem c77 {A B : Option Addr} {c d : Nat} {xs ys : List Int} {w : World} (hX : K.Rd w A 1 K.eI xs) (hY : K.Rd w B 1 K.eI ys) (hn : xs.length ≤ 4611686018427387904) (hm : ys.length ≤ 4611686018427387904) :
    Calls Try.prog 69 [.slice A xs.length c, .slice B ys.length d].toArray w (K.Gives (.int .i64 (cmpL xs ys)) w) := by
  refine K.enter (args := [.slice A xs.length c, .slice B ys.length d]) Try.func69 rfl (n := 34) rfl ?_
  simp only [List.replicate, List.cons_append, List.nil_append]
  refine K.seq ?_
  refine K.region_lit ?_
  refine K.seq_pure (K.assign) rfl ?_
  dsimp only [setd, setn, ev, nth]
  refine K.seq_nil ?_
  refine K.norm_then ?_
  refine K.seq ?_
  refine K.seq ?_
  refine K.region_lit ?_
  refine K.seq_pure (K.move) rfl ?_
  dsimp only [setd, setn, ev, nth]
  refine K.seq_pure (K.len_sl sl_31 rfl) rfl ?_
  dsimp only [setd, setn, ev, nth]
  refine K.seq_pure (K.move) rfl ?_
  dsimp only [setd, setn, ev, nth]
  refine K.seq_nil ?_
  refine K.norm_then ?_
  refine K.block ?_
  refine K.loopW [11] [4, 5, 6, 7, 8, 12, 13, 14, 15, 16, 17, 18, 19, 20, 21, 22, 23, 24, 25, 26, 27, 28, 29, 30] (fun vi L => ∃ k : Nat, vi = [.int .i64 (k : Int)] ∧ L = [] ∧ k ≤ xs.length ∧ k ≤ ys.length ∧ ∀ j, j < k → xs.getD j default = ys.getD j default) (fun vi => xs.length - (intOf (K.nth vi 0)).toNat) ?_ ?_
  · exact ⟨0, rfl, rfl, Nat.zero_le _, Nat.zero_le _, fun j hj => absurd hj (Nat.not_lt_zero j)⟩
  intro vi vr L hJ
  obtain ⟨k, rfl, rfl, hkn, hkm, hall⟩ := hJ
  try dsimp only [setd, setn, ev, nth, over, cl, eI, eP, eT, setM, setF, List.map, List.append, List.drop, List.take]
  refine K.seq ?_
  refine K.region_lit ?_
  refine K.seq_pure (K.lss rfl rfl) rfl ?_
  dsimp only [setd, setn, ev, nth]
  refine K.seq_nil ?_
  refine K.norm_then ?_
  refine K.seq ?_
  refine K.cond rfl (fun ht12 => ?_) (fun ht12 => ?_)
  · try replace ht12 := of_decide_eq_true ht12
    have hk : k < xs.length := by omega
    refine K.skip ?_
    refine K.norm_then ?_
    refine K.seq ?_
    refine K.block ?_
    refine K.seq ?_
    refine K.region_lit ?_
    refine K.seq_pure (K.move) rfl ?_
    dsimp only [setd, setn, ev, nth]
    refine K.seq_ix (M := []) _ hX.sl sl_31 rfl rfl rfl (by omega) rfl ?_
    intro p14 hp14
    try dsimp only [setd, setn, ev, nth, over, cl, eI, eP, eT, List.map, List.append, List.drop, List.take]
    refine K.seq_sil (K.load1 one_3 rfl (hp14.any)) rfl ?_
    try dsimp only [setd, setn, ev, nth, over, cl, eI, eP, eT, List.map, List.append, List.drop, List.take]
    refine K.seq_pure (K.assign) rfl ?_
    dsimp only [setd, setn, ev, nth]
    refine K.seq_pure (K.assign) rfl ?_
    dsimp only [setd, setn, ev, nth]
    refine K.seq_nil ?_
    refine K.norm_then ?_
    refine K.seq ?_
    refine K.seq ?_
    refine K.region_lit ?_
    refine K.seq_pure (K.move) rfl ?_
    dsimp only [setd, setn, ev, nth]
    refine K.seq_pure (K.move) rfl ?_
    dsimp only [setd, setn, ev, nth]
    refine K.seq_pure (K.len_sl sl_31 rfl) rfl ?_
    dsimp only [setd, setn, ev, nth]
    refine K.seq_pure (K.geq rfl rfl) rfl ?_
    dsimp only [setd, setn, ev, nth]
    refine K.seq_nil ?_
    refine K.norm_then ?_
    refine K.cond rfl (fun ht19 => ?_) (fun ht19 => ?_)
    · try replace ht19 := of_decide_eq_true ht19
      refine K.seq ?_
      refine K.region_lit ?_
      refine K.seq_pure (K.assign) rfl ?_
      dsimp only [setd, setn, ev, nth]
      refine K.seq_nil ?_
      refine K.norm_then ?_
      refine K.ret ?_
      refine K.ret_then ?_
      refine K.ret_block ?_
      refine K.ret_then ?_
      refine K.ret_then ?_
      refine K.ret_block ?_
      refine K.ret_then ?_
      refine K.end_ret (fun w _ => K.res_tmp rfl w) ?_
      exact K.gives_i rfl (cmpL_long hall hk (by omega)).symm
    try replace ht19 := of_decide_eq_false ht19
    have hk2 : k < ys.length := by omega
    refine K.skip ?_
    refine K.norm_then ?_
    refine K.seq ?_
    refine K.region_lit ?_
    refine K.seq_pure (K.move) rfl ?_
    dsimp only [setd, setn, ev, nth]
    refine K.seq_pure (K.move) rfl ?_
    dsimp only [setd, setn, ev, nth]
    refine K.seq_ix (M := []) _ hY.sl sl_31 rfl rfl rfl (by omega) rfl ?_
    intro p22 hp22
    try dsimp only [setd, setn, ev, nth, over, cl, eI, eP, eT, List.map, List.append, List.drop, List.take]
    refine K.seq_sil (K.load1 one_3 rfl (hp22.any)) rfl ?_
    try dsimp only [setd, setn, ev, nth, over, cl, eI, eP, eT, List.map, List.append, List.drop, List.take]
    refine K.seq_pure (K.assign) rfl ?_
    dsimp only [setd, setn, ev, nth]
    refine K.seq_nil ?_
    refine K.norm_then ?_
    refine K.seq ?_
    refine K.region_lit ?_
    refine K.seq_pure (K.move) rfl ?_
    dsimp only [setd, setn, ev, nth]
    refine K.seq_pure (K.move) rfl ?_
    dsimp only [setd, setn, ev, nth]
    refine K.seq_call (K.call_g cal_89 (fun F w hF hw => c96 w)) rfl ?_
    try dsimp only [setd, setn, ev, nth, over, cl, eI, eP, eT, List.map, List.append, List.drop, List.take]
    refine K.seq_pure (K.assign) rfl ?_
    dsimp only [setd, setn, ev, nth]
    refine K.seq_nil ?_
    refine K.norm_then ?_
    refine K.seq ?_
    refine K.region_lit ?_
    refine K.seq_pure (K.move) rfl ?_
    dsimp only [setd, setn, ev, nth]
    refine K.seq_pure (K.neq rfl rfl) rfl ?_
    dsimp only [setd, setn, ev, nth]
    refine K.seq_nil ?_
    refine K.norm_then ?_
    refine K.cond rfl (fun ht28 => ?_) (fun ht28 => ?_)
    · try replace ht28 := of_decide_eq_true ht28
      refine K.seq ?_
      refine K.region_lit ?_
      refine K.seq_pure (K.move) rfl ?_
      dsimp only [setd, setn, ev, nth]
      refine K.seq_pure (K.assign) rfl ?_
      dsimp only [setd, setn, ev, nth]
      refine K.seq_nil ?_
      refine K.norm_then ?_
      refine K.ret ?_
      refine K.ret_block ?_
      refine K.ret_then ?_
      refine K.ret_then ?_
      refine K.ret_block ?_
      refine K.ret_then ?_
      refine K.end_ret (fun w _ => K.res_tmp rfl w) ?_
      exact K.gives_i rfl (cmpL_diff hall hk hk2 (by omega)).symm
    try replace ht28 := of_decide_eq_false ht28
    refine K.skip ?_
    refine K.norm_block ?_
    refine K.norm_then ?_
    refine K.region_lit ?_
    refine K.seq_pure (K.add_i64 rfl rfl (by omega)) rfl ?_
    dsimp only [setd, setn, ev, nth]
    refine K.seq_pure (K.move) rfl ?_
    dsimp only [setd, setn, ev, nth]
    refine K.seq_nil ?_
    exact K.round_endW [.int .i64 ((k : Int) + 1)] ⟨k + 1, rfl, rfl, by omega, by omega, K.lt_succ_case hall (cmp0 (by omega))⟩ (by simp [K.nth, intOf]; omega) (List.Sublist.refl _) (by kernel_rfl)
  try replace ht12 := of_decide_eq_false ht12
  refine K.exit ?_
  refine K.exit_then ?_
  refine K.exit_then ?_
  refine K.exit_here ?_
  refine K.norm_then ?_
  refine K.seq ?_
  refine K.seq ?_
  refine K.region_lit ?_
  refine K.seq_pure (K.move) rfl ?_
  dsimp only [setd, setn, ev, nth]
  refine K.seq_pure (K.len_sl sl_31 rfl) rfl ?_
  dsimp only [setd, setn, ev, nth]
  refine K.seq_pure (K.move) rfl ?_
  dsimp only [setd, setn, ev, nth]
  refine K.seq_pure (K.len_sl sl_31 rfl) rfl ?_
  dsimp only [setd, setn, ev, nth]
  refine K.seq_pure (K.lss rfl rfl) rfl ?_
  dsimp only [setd, setn, ev, nth]
  refine K.seq_nil ?_
  refine K.norm_then ?_
  refine K.cond rfl (fun ht35 => ?_) (fun ht35 => ?_)
  · try replace ht35 := of_decide_eq_true ht35
    refine K.seq ?_
    refine K.region_lit ?_
    refine K.seq_pure (K.assign) rfl ?_
    dsimp only [setd, setn, ev, nth]
    refine K.seq_nil ?_
    refine K.norm_then ?_
    refine K.ret ?_
    refine K.ret_then ?_
    refine K.end_ret (fun w _ => K.res_tmp rfl w) ?_
    exact K.gives_i rfl (cmpL_short hall (by omega) (by omega)).symm
  try replace ht35 := of_decide_eq_false ht35
  refine K.skip ?_
  refine K.norm_then ?_
  refine K.seq ?_
  refine K.region_lit ?_
  refine K.seq_pure (K.assign) rfl ?_
  dsimp only [setd, setn, ev, nth]
  refine K.seq_nil ?_
  refine K.norm_then ?_
  refine K.ret ?_
  refine K.end_ret (fun w _ => K.res_tmp rfl w) ?_
  exact K.gives_i rfl (cmpL_same hall (by omega) (by omega)).symm

end Go.Proofs.Ytfbglomliankmaa.Sc
end
section
set_option linter.unusedSimpArgs false
set_option linter.unusedVariables false
namespace Go.Proofs.Ytfbglomliankmaa.Cv
open Go.RowKit Go
open Go.K (setd setn ev nth over cl eI eP eT setM setF)
attribute [local irreducible] K.blk K.row
def cmpP (pf : Bool) (a b : Int × Int) : Int := if pf then Sc.cmpL [a.2, a.1] [b.2, b.1] else Sc.cmpL [a.1, a.2] [b.1, b.2]
theorem cmpL_2 {a b c d : Int} : decide (Sc.cmpL [a, b] [c, d] < 0) = (decide (a < c) || (decide (a = c) && decide (b < d))) := by
  rw [Bool.eq_iff_iff]
  simp only [decide_eq_true_eq, Bool.or_eq_true, Bool.and_eq_true, Sc.cmpL]
  split
  · simp; omega
  · split
    · simp; omega
    · split
      · simp; omega
      · split <;> simp <;> omega
theorem cmpP_lt {pf : Bool} {a b : Int × Int} : decide (cmpP pf a b < 0) = lsB pf a b := by
  unfold cmpP lsB
  cases pf
  · simp only [Bool.false_eq_true, if_false]; rw [cmpL_2]
  · simp only [if_true]; rw [cmpL_2]

set_option maxRecDepth 100000 in
theorem c54 {a b c d : Int} (w : World) :
    Calls Try.prog 54 [.agg #[.int .i64 a, .int .i64 b], .agg #[.int .i64 c, .int .i64 d]].toArray w (K.Gives (.int .i64 (Sc.cmpL [a, b] [c, d])) w) := by
  refine K.enter (args := [.agg #[.int .i64 a, .int .i64 b], .agg #[.int .i64 c, .int .i64 d]]) Try.func54 rfl (n := 6) rfl ?_
  simp only [List.replicate, List.cons_append, List.nil_append]
  refine K.seq ?_
  refine K.region_lit ?_
  refine K.seq_new (K.box) rfl ?_
  intro b2
  try dsimp only [setd, setn, ev, nth, over, cl, eI, eP, eT, eC, List.map, List.append, List.drop, List.take]
  refine K.seq_new (K.box) rfl ?_
  intro b3
  try dsimp only [setd, setn, ev, nth, over, cl, eI, eP, eT, eC, List.map, List.append, List.drop, List.take]
  refine K.seq_pure (K.assign) rfl ?_
  dsimp only [setd, setn, ev, nth]
  refine K.seq_nil ?_
  refine K.norm_then ?_
  refine K.seq ?_
  refine K.draw_L [] Try_mixed ?_
  refine K.d_pure 0 rfl (K.slice_arr ar_117 rfl) (by kernel_rfl) rfl ?_
  try dsimp only [setd, setn, ev, nth, over, cl, eI, eP, eT, eC, List.map, List.append, List.drop, List.take]
  refine K.d_pure 1 rfl (K.slice_arr ar_117 rfl) (by kernel_rfl) rfl ?_
  try dsimp only [setd, setn, ev, nth, over, cl, eI, eP, eT, eC, List.map, List.append, List.drop, List.take]
  refine K.d_call 2 rfl (K.call_g cal_69 (fun F w hF hw => Sc.c77 (xs := [a, b]) (ys := [c, d]) (c := 2) (d := 2) (K.Rd.lit hw (hF _ (K.m1)) (fun _ => rfl) (by decide) rfl) (K.Rd.lit hw (hF _ (K.m0)) (fun _ => rfl) (by decide) rfl) (Nat.le_of_ble_eq_true rfl) (Nat.le_of_ble_eq_true rfl))) (fun _ h => h) (by kernel_rfl) rfl ?_
  try dsimp only [setd, setn, ev, nth, over, cl, eI, eP, eT, eC, List.map, List.append, List.drop, List.take]
  refine K.d_pure 3 rfl (K.assign) (by kernel_rfl) rfl ?_
  dsimp only [setd, setn, ev, nth]
  refine K.d_done (by kernel_rfl) ?_
  refine K.norm_then ?_
  refine K.ret ?_
  refine K.end_ret (fun w _ => K.res_tmp rfl w) ?_
  exact K.gives rfl

set_option maxRecDepth 100000 in
theorem c55 {a b c d : Int} (w : World) :
    Calls Try.prog 55 [.agg #[.int .i64 a, .int .i64 b], .agg #[.int .i64 c, .int .i64 d]].toArray w (K.Gives (.int .i64 (Sc.cmpL [b, a] [d, c])) w) := by
  refine K.enter (args := [.agg #[.int .i64 a, .int .i64 b], .agg #[.int .i64 c, .int .i64 d]]) Try.func55 rfl (n := 22) rfl ?_
  simp only [List.replicate, List.cons_append, List.nil_append]
  refine K.seq ?_
  refine K.region_lit ?_
  refine K.seq_new (K.box) rfl ?_
  intro b2
  try dsimp only [setd, setn, ev, nth, over, cl, eI, eP, eT, eC, List.map, List.append, List.drop, List.take]
  refine K.seq_new (K.box) rfl ?_
  intro b3
  try dsimp only [setd, setn, ev, nth, over, cl, eI, eP, eT, eC, List.map, List.append, List.drop, List.take]
  refine K.seq_pure (K.assign) rfl ?_
  dsimp only [setd, setn, ev, nth]
  refine K.seq_nil ?_
  refine K.norm_then ?_
  refine K.seq ?_
  refine K.region_lit ?_
  refine K.seq_new (K.alloc zr_117) rfl ?_
  intro b5
  try dsimp only [setd, setn, ev, nth, over, cl, eI, eP, eT, eC, List.map, List.append, List.drop, List.take]
  refine K.seq_new (K.alloc zr_117) rfl ?_
  intro b6
  try dsimp only [setd, setn, ev, nth, over, cl, eI, eP, eT, eC, List.map, List.append, List.drop, List.take]
  refine K.seq_nil ?_
  refine K.norm_then ?_
  refine K.seq ?_
  refine K.permH (L' := [_, _, _, _]) (List.Perm.trans (List.perm_middle (l₁ := [_])) (List.Perm.cons _ (List.Perm.refl _))) ?_
  refine K.draw_drop 1 [] Try_mixed ?_
  refine K.d_pure 0 rfl (K.slice_arr ar_117 rfl) (by kernel_rfl) rfl ?_
  try dsimp only [setd, setn, ev, nth, over, cl, eI, eP, eT, eC, List.map, List.append, List.drop, List.take]
  refine K.d_pure 1 rfl (K.indexAddr_ar ar_117 rfl rfl (by omega) (by omega)) (by kernel_rfl) rfl ?_
  try dsimp only [setd, setn, ev, nth, over, cl, eI, eP, eT, eC, List.map, List.append, List.drop, List.take]
  refine K.d_mem 2 rfl (K.load1_own one_3 rfl (K.m2) rfl) (fun _ h => K.tl h) (by kernel_rfl) (by kernel_rfl) rfl ?_
  try dsimp only [setd, setn, ev, nth, over, cl, eI, eP, eT, eC, List.map, List.append, List.drop, List.take]
  refine K.d_pure 3 rfl (K.indexAddr_ar ar_117 rfl rfl (by omega) (by omega)) (by kernel_rfl) rfl ?_
  try dsimp only [setd, setn, ev, nth, over, cl, eI, eP, eT, eC, List.map, List.append, List.drop, List.take]
  refine K.d_mem 4 rfl (K.load1_own one_3 rfl (K.m2) rfl) (fun _ h => K.tl h) (by kernel_rfl) (by kernel_rfl) rfl ?_
  try dsimp only [setd, setn, ev, nth, over, cl, eI, eP, eT, eC, List.map, List.append, List.drop, List.take]
  refine K.d_new 5 rfl (K.buildSlice (bs2 _ _)) (fun _ h => K.tl h) (by kernel_rfl) rfl ?_
  intro b12
  try dsimp only [setd, setn, ev, nth, over, cl, eI, eP, eT, eC, List.map, List.append, List.drop, List.take]
  refine K.d_upd 6 rfl (K.copyS (M := []) sl_31 rfl rfl ((K.Sl.of_blk (e := K.eI) (xs := [b, a]) (fun _ => rfl) rfl).at1 K.m0) (fun _ => rfl) (K.oneI _) (Nat.le_of_ble_eq_true rfl) (Nat.le_of_ble_eq_true rfl) (Nat.le_of_ble_eq_true rfl) (K.rp1)) (fun _ => fun _ h => K.tl (K.tl h)) (by kernel_rfl) rfl ?_
  rintro _ _
  try dsimp only [setd, setn, ev, nth, over, cl, eI, eP, eT, eC, List.map, List.append, List.drop, List.take]
  dsimp only [List.take, List.drop, List.flatMap_cons, List.flatMap_nil, List.cons_append, List.nil_append, List.append_nil, List.length, K.eI]
  try dsimp only [setd, setn, ev, nth, over, cl, eI, eP, eT, eC, List.map, List.append, List.drop, List.take]
  refine K.d_done (by kernel_rfl) ?_
  refine K.norm_then ?_
  refine K.seq ?_
  refine K.permH (L' := [_, _, _, _, _]) (List.Perm.trans (List.perm_middle (l₁ := [_, _])) (List.Perm.cons _ (List.Perm.refl _))) ?_
  refine K.draw_drop 1 [] Try_mixed ?_
  refine K.d_pure 0 rfl (K.slice_arr ar_117 rfl) (by kernel_rfl) rfl ?_
  try dsimp only [setd, setn, ev, nth, over, cl, eI, eP, eT, eC, List.map, List.append, List.drop, List.take]
  refine K.d_pure 1 rfl (K.indexAddr_ar ar_117 rfl rfl (by omega) (by omega)) (by kernel_rfl) rfl ?_
  try dsimp only [setd, setn, ev, nth, over, cl, eI, eP, eT, eC, List.map, List.append, List.drop, List.take]
  refine K.d_mem 2 rfl (K.load1_own one_3 rfl (K.m2) rfl) (fun _ h => K.tl h) (by kernel_rfl) (by kernel_rfl) rfl ?_
  try dsimp only [setd, setn, ev, nth, over, cl, eI, eP, eT, eC, List.map, List.append, List.drop, List.take]
  refine K.d_pure 3 rfl (K.indexAddr_ar ar_117 rfl rfl (by omega) (by omega)) (by kernel_rfl) rfl ?_
  try dsimp only [setd, setn, ev, nth, over, cl, eI, eP, eT, eC, List.map, List.append, List.drop, List.take]
  refine K.d_mem 4 rfl (K.load1_own one_3 rfl (K.m2) rfl) (fun _ h => K.tl h) (by kernel_rfl) (by kernel_rfl) rfl ?_
  try dsimp only [setd, setn, ev, nth, over, cl, eI, eP, eT, eC, List.map, List.append, List.drop, List.take]
  refine K.d_new 5 rfl (K.buildSlice (bs2 _ _)) (fun _ h => K.tl h) (by kernel_rfl) rfl ?_
  intro b19
  try dsimp only [setd, setn, ev, nth, over, cl, eI, eP, eT, eC, List.map, List.append, List.drop, List.take]
  refine K.d_upd 6 rfl (K.copyS (M := []) sl_31 rfl rfl ((K.Sl.of_blk (e := K.eI) (xs := [d, c]) (fun _ => rfl) rfl).at1 K.m0) (fun _ => rfl) (K.oneI _) (Nat.le_of_ble_eq_true rfl) (Nat.le_of_ble_eq_true rfl) (Nat.le_of_ble_eq_true rfl) (K.rp1)) (fun _ => fun _ h => K.tl (K.tl h)) (by kernel_rfl) rfl ?_
  rintro _ _
  try dsimp only [setd, setn, ev, nth, over, cl, eI, eP, eT, eC, List.map, List.append, List.drop, List.take]
  dsimp only [List.take, List.drop, List.flatMap_cons, List.flatMap_nil, List.cons_append, List.nil_append, List.append_nil, List.length, K.eI]
  try dsimp only [setd, setn, ev, nth, over, cl, eI, eP, eT, eC, List.map, List.append, List.drop, List.take]
  refine K.d_done (by kernel_rfl) ?_
  refine K.norm_then ?_
  refine K.seq ?_
  refine K.region_lit ?_
  refine K.seq_sil (K.loadA_own ag_117 rfl (K.m3) rfl) rfl ?_
  try dsimp only [setd, setn, ev, nth, over, cl, eI, eP, eT, eC, List.map, List.append, List.drop, List.take]
  refine K.seq_sil (K.loadA_own ag_117 rfl (K.m1) rfl) rfl ?_
  try dsimp only [setd, setn, ev, nth, over, cl, eI, eP, eT, eC, List.map, List.append, List.drop, List.take]
  refine K.seq_call (K.call_g cal_54 (fun F w hF hw => c54 w)) rfl ?_
  try dsimp only [setd, setn, ev, nth, over, cl, eI, eP, eT, eC, List.map, List.append, List.drop, List.take]
  refine K.seq_pure (K.assign) rfl ?_
  dsimp only [setd, setn, ev, nth]
  refine K.seq_nil ?_
  refine K.norm_then ?_
  refine K.ret ?_
  refine K.end_ret (fun w _ => K.res_tmp rfl w) ?_
  exact K.gives rfl

theorem c54p {pf : Bool} {y r : Int × Int} (h : pf = false) (w : World) : Calls Try.prog 54 [.agg #[.int .i64 y.1, .int .i64 y.2], .agg #[.int .i64 r.1, .int .i64 r.2]].toArray w (K.Gives (.int .i64 (cmpP pf y r)) w) := by
  subst h; exact c54 w
theorem c55p {pf : Bool} {y r : Int × Int} (h : pf = true) (w : World) : Calls Try.prog 55 [.agg #[.int .i64 y.1, .int .i64 y.2], .agg #[.int .i64 r.1, .int .i64 r.2]].toArray w (K.Gives (.int .i64 (cmpP pf y r)) w) := by
  subst h; exact c55 w

end Go.Proofs.Ytfbglomliankmaa.Cv
end
section
set_option linter.unusedSimpArgs false
set_option linter.unusedVariables false
namespace Go.Proofs.Ytfbglomliankmaa.Cv
open Go.RowKit Go
open Go.K (setd setn ev nth over cl eI eP eT setM setF)
attribute [local irreducible] K.blk K.row
theorem laidOut : laidOutB Try.prog = true := by kernel_rfl
theorem sizeT : Try.prog.types.size = 180 := by kernel_rfl
theorem row115 : 115 < Try.prog.types.size := by rw [sizeT]; decide
theorem key115 : Try.prog.keyTypeAt 10 115 = true := by kernel_rfl
theorem wide115 : (match Try.prog.underlying 115 with | some (.array _ _) | some (.struct _) => true | _ => false) = true := by kernel_rfl
theorem ul112 : Try.prog.underlying 112 = some (.map 115 119) := by kernel_rfl
theorem k2_115 : K.key2 Try.prog 115 = true := by kernel_rfl
set_option maxRecDepth 100000 in
theorem mapZ : K.MapZ Try.prog 112 115 (.agg #[.int .i64 0, .int .i64 0, .int .i64 0]) := ⟨⟨119, ul112, fun w => by kernel_rfl⟩, deep_law_laid laidOut (m := 10) (by omega) row115 key115 wide115⟩
theorem form115 (x y : Int) : (Value.agg #[.int .i64 x, .int .i64 y]).formed Try.prog 115 = true := by kernel_rfl
theorem keyC {x y : Int} (hx : -100000 ≤ x ∧ x ≤ 100000) (hy : -100000 ≤ y ∧ y ≤ 100000) : ∃ q, keyOf Try.prog 115 (.agg #[.int .i64 x, .int .i64 y]) = some q :=
  K.keyOf_2 k2_115 (by rw [sizeT]; decide) (form115 x y) (WalkArith.wf_i64 (by omega)) (WalkArith.wf_i64 (by omega))
theorem bl115 (x y : Int) : K.Bl Try.prog 115 [(0, .int .i64 x), (1, .int .i64 y)] (.agg #[.int .i64 x, .int .i64 y]) := fun w => by kernel_rfl
theorem bl119 (x y h : Int) : K.Bl Try.prog 119 [(0, .agg #[.int .i64 x, .int .i64 y]), (1, .int .i64 h)] (.agg #[.int .i64 x, .int .i64 y, .int .i64 h]) := fun w => by kernel_rfl
theorem bl119z : K.Bl Try.prog 119 [] (.agg #[.int .i64 0, .int .i64 0, .int .i64 0]) := fun w => by kernel_rfl
theorem fd0 (x y h : Int) : K.Fd Try.prog 119 0 (.agg #[.int .i64 x, .int .i64 y, .int .i64 h]) (.agg #[.int .i64 x, .int .i64 y]) := fun w => by kernel_rfl
theorem fd1 (x y h : Int) : K.Fd Try.prog 119 1 (.agg #[.int .i64 x, .int .i64 y, .int .i64 h]) (.int .i64 h) := fun w => by kernel_rfl
def KnOk (pf : Bool) (st : Int) (ps : List CvT) (kvs : List (Value × Value)) : Prop :=
  ∀ p ∈ kvs, ∃ (a : Nat) (h : Int), p.1 = .agg #[.int .i64 (a : Int), .int .i64 h] ∧ a < ps.length ∧ (0 ≤ h ∧ h ≤ 9000) ∧ p.2 = .agg #[.int .i64 (behS pf st ps (ps.length - 1 - a) a h).1.1, .int .i64 (behS pf st ps (ps.length - 1 - a) a h).1.2, .int .i64 (behS pf st ps (ps.length - 1 - a) a h).2]
theorem kn_nil {pf : Bool} {st : Int} {ps : List CvT} : KnOk pf st ps [] := fun p hp => by simp at hp
theorem kn_keys {pf : Bool} {st : Int} {ps : List CvT} {kvs : List (Value × Value)} (hn : ps.length ≤ 10) (h : KnOk pf st ps kvs) : ∀ p ∈ kvs, ∃ q, keyOf Try.prog 115 p.1 = some q := fun p hp => by
  obtain ⟨a, l, e, ha, hl, _⟩ := h p hp
  rw [e]
  exact keyC (by omega) (by omega)
theorem kn_look {pf ok : Bool} {st : Int} {ps : List CvT} {kvs : List (Value × Value)} {a f : Nat} {h : Int} {v : Value} (hk : KnOk pf st ps kvs) (hf : a + f + 1 = ps.length)
    (hn : (ok = false ∧ v = .agg #[.int .i64 0, .int .i64 0, .int .i64 0] ∧ ∀ p ∈ kvs, p.1 ≠ .agg #[.int .i64 (a : Int), .int .i64 h]) ∨ (ok = true ∧ (.agg #[.int .i64 (a : Int), .int .i64 h], v) ∈ kvs)) :
    ∃ r : RsT, v = .agg #[.int .i64 r.1.1, .int .i64 r.1.2, .int .i64 r.2] ∧ (ok = true → r = behS pf st ps f a h) := by
  rcases hn with ⟨h1, h2, _⟩ | ⟨h1, h2⟩
  · exact ⟨((0, 0), 0), h2, fun h => by rw [h1] at h; cases h⟩
  · obtain ⟨a', h', e, _, _, e2⟩ := hk _ h2
    dsimp only at e e2
    injection e with e
    injection e with e
    injection e with e3 e4
    injection e3 with _ e3
    injection e4 with e4 _
    injection e4 with _ e4
    have ea : a = a' := by omega
    subst ea e4
    refine ⟨_, e2, fun _ => ?_⟩
    rw [show ps.length - 1 - a = f by omega]
theorem kn_put {pf : Bool} {st : Int} {ps : List CvT} {kvs kvs' : List (Value × Value)} {a f : Nat} {h : Int} (hk : KnOk pf st ps kvs) (hf : a + f + 1 = ps.length) (hh : 0 ≤ h ∧ h ≤ 9000)
    (hp : K.PutV kvs (.agg #[.int .i64 (a : Int), .int .i64 h]) (.agg #[.int .i64 (behS pf st ps f a h).1.1, .int .i64 (behS pf st ps f a h).1.2, .int .i64 (behS pf st ps f a h).2]) kvs') : KnOk pf st ps kvs' := fun p hpm => by
  rcases hp.mem p hpm with h1 | h1
  · exact hk p h1
  · subst h1
    exact ⟨a, h, rfl, by omega, hh, by rw [show ps.length - 1 - a = f by omega]⟩
def Go56 (pf : Bool) (st : Int) (ps : List CvT) (A : Option Addr) (c br bp bb bB bk bm bh bo bl : Nat) (f : Nat) (w0 : World) : Prop :=
  ∀ {a : Nat} {h : Int} {kvs : List (Value × Value)} {T : List K.Chunk} {w : World}, K.St w0 (K.mv bm kvs :: K.blk br 24 [.int .i64 st, .slice A ps.length c] :: K.blk bp 4 [.bool pf] :: K.blk bb 48 [.slice (some ⟨bB, 0, none⟩) ps.length ps.length] :: K.blk bB 52 ((bnd st ps).flatMap K.eP) :: K.blk bk 112 [.map (some bm)] :: K.blk bh 113 [.func (.func 56) #[] #[.pointer (some ⟨br, 0, none⟩), .pointer (some ⟨bk, 0, none⟩), .pointer (some ⟨bl, 0, none⟩)]] :: K.blk bo 120 [.func (.func 52) #[] #[.pointer (some ⟨bh, 0, none⟩), .pointer (some ⟨br, 0, none⟩)]] :: K.blk bl 122 [.func (.func 53) #[] #[.pointer (some ⟨bb, 0, none⟩), .pointer (some ⟨bo, 0, none⟩), .pointer (some ⟨bp, 0, none⟩)]] :: T) w → KnOk pf st ps kvs → a + f + 1 = ps.length → 0 ≤ h ∧ h ≤ 9000 → Calls Try.prog 56 [.agg #[.int .i64 (a : Int), .int .i64 h], .pointer (some ⟨br, 0, none⟩), .pointer (some ⟨bk, 0, none⟩), .pointer (some ⟨bl, 0, none⟩)].toArray w (K.RetU (fun z : RsT × List (Value × Value) => z.1 = behS pf st ps f a h ∧ KnOk pf st ps z.2) (fun z => .agg #[.int .i64 z.1.1.1, .int .i64 z.1.1.2, .int .i64 z.1.2]) w0 (fun z => K.mv bm z.2 :: K.blk br 24 [.int .i64 st, .slice A ps.length c] :: K.blk bp 4 [.bool pf] :: K.blk bb 48 [.slice (some ⟨bB, 0, none⟩) ps.length ps.length] :: K.blk bB 52 ((bnd st ps).flatMap K.eP) :: K.blk bk 112 [.map (some bm)] :: K.blk bh 113 [.func (.func 56) #[] #[.pointer (some ⟨br, 0, none⟩), .pointer (some ⟨bk, 0, none⟩), .pointer (some ⟨bl, 0, none⟩)]] :: K.blk bo 120 [.func (.func 52) #[] #[.pointer (some ⟨bh, 0, none⟩), .pointer (some ⟨br, 0, none⟩)]] :: K.blk bl 122 [.func (.func 53) #[] #[.pointer (some ⟨bb, 0, none⟩), .pointer (some ⟨bo, 0, none⟩), .pointer (some ⟨bp, 0, none⟩)]] :: T))
def Go52 (pf : Bool) (st : Int) (ps : List CvT) (A : Option Addr) (c br bp bb bB bk bm bh bo bl : Nat) (f : Nat) (w0 : World) : Prop :=
  ∀ {a : Nat} {h deep : Int} {kvs : List (Value × Value)} {T : List K.Chunk} {w : World}, K.St w0 (K.mv bm kvs :: K.blk br 24 [.int .i64 st, .slice A ps.length c] :: K.blk bp 4 [.bool pf] :: K.blk bb 48 [.slice (some ⟨bB, 0, none⟩) ps.length ps.length] :: K.blk bB 52 ((bnd st ps).flatMap K.eP) :: K.blk bk 112 [.map (some bm)] :: K.blk bh 113 [.func (.func 56) #[] #[.pointer (some ⟨br, 0, none⟩), .pointer (some ⟨bk, 0, none⟩), .pointer (some ⟨bl, 0, none⟩)]] :: K.blk bo 120 [.func (.func 52) #[] #[.pointer (some ⟨bh, 0, none⟩), .pointer (some ⟨br, 0, none⟩)]] :: K.blk bl 122 [.func (.func 53) #[] #[.pointer (some ⟨bb, 0, none⟩), .pointer (some ⟨bo, 0, none⟩), .pointer (some ⟨bp, 0, none⟩)]] :: T) w → KnOk pf st ps kvs → a + f + 1 = ps.length → 0 ≤ h ∧ h ≤ 9000 → 0 ≤ deep ∧ deep ≤ 9000 → Calls Try.prog 52 [.agg #[.int .i64 (a : Int), .int .i64 h], .int .i64 deep, .pointer (some ⟨bh, 0, none⟩), .pointer (some ⟨br, 0, none⟩)].toArray w (K.RetU (fun z : (Int × Int) × List (Value × Value) => z.1 = ownS ps (behS pf st ps f) a deep h ∧ KnOk pf st ps z.2) (fun z => .agg #[.int .i64 z.1.1, .int .i64 z.1.2]) w0 (fun z => K.mv bm z.2 :: K.blk br 24 [.int .i64 st, .slice A ps.length c] :: K.blk bp 4 [.bool pf] :: K.blk bb 48 [.slice (some ⟨bB, 0, none⟩) ps.length ps.length] :: K.blk bB 52 ((bnd st ps).flatMap K.eP) :: K.blk bk 112 [.map (some bm)] :: K.blk bh 113 [.func (.func 56) #[] #[.pointer (some ⟨br, 0, none⟩), .pointer (some ⟨bk, 0, none⟩), .pointer (some ⟨bl, 0, none⟩)]] :: K.blk bo 120 [.func (.func 52) #[] #[.pointer (some ⟨bh, 0, none⟩), .pointer (some ⟨br, 0, none⟩)]] :: K.blk bl 122 [.func (.func 53) #[] #[.pointer (some ⟨bb, 0, none⟩), .pointer (some ⟨bo, 0, none⟩), .pointer (some ⟨bp, 0, none⟩)]] :: T))
def Go53 (pf : Bool) (st : Int) (ps : List CvT) (A : Option Addr) (c br bp bb bB bk bm bh bo bl : Nat) (f : Nat) (w0 : World) : Prop :=
  ∀ {a : Nat} {deep b1 b2 : Int} {kvs : List (Value × Value)} {T : List K.Chunk} {w : World}, K.St w0 (K.mv bm kvs :: K.blk br 24 [.int .i64 st, .slice A ps.length c] :: K.blk bp 4 [.bool pf] :: K.blk bb 48 [.slice (some ⟨bB, 0, none⟩) ps.length ps.length] :: K.blk bB 52 ((bnd st ps).flatMap K.eP) :: K.blk bk 112 [.map (some bm)] :: K.blk bh 113 [.func (.func 56) #[] #[.pointer (some ⟨br, 0, none⟩), .pointer (some ⟨bk, 0, none⟩), .pointer (some ⟨bl, 0, none⟩)]] :: K.blk bo 120 [.func (.func 52) #[] #[.pointer (some ⟨bh, 0, none⟩), .pointer (some ⟨br, 0, none⟩)]] :: K.blk bl 122 [.func (.func 53) #[] #[.pointer (some ⟨bb, 0, none⟩), .pointer (some ⟨bo, 0, none⟩), .pointer (some ⟨bp, 0, none⟩)]] :: T) w → KnOk pf st ps kvs → a + f + 1 = ps.length → 0 ≤ deep ∧ deep ≤ 9000 → Calls Try.prog 53 [.int .i64 (a : Int), .int .i64 deep, .agg #[.int .i64 b1, .int .i64 b2], .pointer (some ⟨bb, 0, none⟩), .pointer (some ⟨bo, 0, none⟩), .pointer (some ⟨bp, 0, none⟩)].toArray w (K.RetU (fun z : RsT × List (Value × Value) => z.1 = lowS pf st ps (behS pf st ps f) a deep b1 b2 ∧ KnOk pf st ps z.2) (fun z => .agg #[.int .i64 z.1.1.1, .int .i64 z.1.1.2, .int .i64 z.1.2]) w0 (fun z => K.mv bm z.2 :: K.blk br 24 [.int .i64 st, .slice A ps.length c] :: K.blk bp 4 [.bool pf] :: K.blk bb 48 [.slice (some ⟨bB, 0, none⟩) ps.length ps.length] :: K.blk bB 52 ((bnd st ps).flatMap K.eP) :: K.blk bk 112 [.map (some bm)] :: K.blk bh 113 [.func (.func 56) #[] #[.pointer (some ⟨br, 0, none⟩), .pointer (some ⟨bk, 0, none⟩), .pointer (some ⟨bl, 0, none⟩)]] :: K.blk bo 120 [.func (.func 52) #[] #[.pointer (some ⟨bh, 0, none⟩), .pointer (some ⟨br, 0, none⟩)]] :: K.blk bl 122 [.func (.func 53) #[] #[.pointer (some ⟨bb, 0, none⟩), .pointer (some ⟨bo, 0, none⟩), .pointer (some ⟨bp, 0, none⟩)]] :: T))

set_option maxRecDepth 100000 in
set_option maxHeartbeats 1000000 in
theorem c52 {pf : Bool} {st : Int} {ps : List CvT} {A : Option Addr} {c br bp bb bB bk bm bh bo bl : Nat} {w0 : World} (hR : K.Rd w0 A 3 eC ps) (g : Good st ps) {f : Nat} (IH : Go56 pf st ps A c br bp bb bB bk bm bh bo bl f w0) {a : Nat} {h deep : Int} {kvs : List (Value × Value)} {T : List K.Chunk} {w : World} (hst : K.St w0 (K.mv bm kvs :: K.blk br 24 [.int .i64 st, .slice A ps.length c] :: K.blk bp 4 [.bool pf] :: K.blk bb 48 [.slice (some ⟨bB, 0, none⟩) ps.length ps.length] :: K.blk bB 52 ((bnd st ps).flatMap K.eP) :: K.blk bk 112 [.map (some bm)] :: K.blk bh 113 [.func (.func 56) #[] #[.pointer (some ⟨br, 0, none⟩), .pointer (some ⟨bk, 0, none⟩), .pointer (some ⟨bl, 0, none⟩)]] :: K.blk bo 120 [.func (.func 52) #[] #[.pointer (some ⟨bh, 0, none⟩), .pointer (some ⟨br, 0, none⟩)]] :: K.blk bl 122 [.func (.func 53) #[] #[.pointer (some ⟨bb, 0, none⟩), .pointer (some ⟨bo, 0, none⟩), .pointer (some ⟨bp, 0, none⟩)]] :: T) w) (hkn : KnOk pf st ps kvs) (hf : a + f + 1 = ps.length) (hh : 0 ≤ h ∧ h ≤ 9000) (hd : 0 ≤ deep ∧ deep ≤ 9000) :
    Calls Try.prog 52 [.agg #[.int .i64 (a : Int), .int .i64 h], .int .i64 deep, .pointer (some ⟨bh, 0, none⟩), .pointer (some ⟨br, 0, none⟩)].toArray w (K.RetU (fun z : (Int × Int) × List (Value × Value) => z.1 = ownS ps (behS pf st ps f) a deep h ∧ KnOk pf st ps z.2) (fun z => .agg #[.int .i64 z.1.1, .int .i64 z.1.2]) w0 (fun z => K.mv bm z.2 :: K.blk br 24 [.int .i64 st, .slice A ps.length c] :: K.blk bp 4 [.bool pf] :: K.blk bb 48 [.slice (some ⟨bB, 0, none⟩) ps.length ps.length] :: K.blk bB 52 ((bnd st ps).flatMap K.eP) :: K.blk bk 112 [.map (some bm)] :: K.blk bh 113 [.func (.func 56) #[] #[.pointer (some ⟨br, 0, none⟩), .pointer (some ⟨bk, 0, none⟩), .pointer (some ⟨bl, 0, none⟩)]] :: K.blk bo 120 [.func (.func 52) #[] #[.pointer (some ⟨bh, 0, none⟩), .pointer (some ⟨br, 0, none⟩)]] :: K.blk bl 122 [.func (.func 53) #[] #[.pointer (some ⟨bb, 0, none⟩), .pointer (some ⟨bo, 0, none⟩), .pointer (some ⟨bp, 0, none⟩)]] :: T)) := by
  have hgn := g.n
  have ha : a < ps.length := by omega
  have hpa := g.p a ha
  refine K.enterU (args := [.agg #[.int .i64 (a : Int), .int .i64 h], .int .i64 deep, .pointer (some ⟨bh, 0, none⟩), .pointer (some ⟨br, 0, none⟩)]) Try.func52 rfl (n := 38) rfl hst ?_
  simp only [List.replicate, List.cons_append, List.nil_append]
  refine K.seq ?_
  refine K.region_lit ?_
  refine K.seq_new (K.box) rfl ?_
  intro b4
  try dsimp only [setd, setn, ev, nth, over, cl, eI, eP, eT, eC, List.map, List.append, List.drop, List.take]
  refine K.seq_new (K.alloc zr_117) rfl ?_
  intro b6
  try dsimp only [setd, setn, ev, nth, over, cl, eI, eP, eT, eC, List.map, List.append, List.drop, List.take]
  refine K.seq_nil ?_
  refine K.norm_then ?_
  refine K.seq ?_
  refine K.permH (L' := _ :: _ :: _ :: _ :: _ :: _ :: _ :: _ :: _ :: _ :: _ :: _) (List.Perm.trans (List.perm_middle (l₁ := [_, _])) (List.Perm.cons _ (List.Perm.trans (List.perm_middle (l₁ := [_, _])) (List.Perm.cons _ (List.Perm.trans (List.perm_middle (l₁ := [_, _])) (List.Perm.cons _ (List.Perm.trans (List.perm_middle (l₁ := [_, _])) (List.Perm.cons _ (List.Perm.trans (List.perm_middle (l₁ := [_, _])) (List.Perm.cons _ (List.Perm.trans (List.perm_middle (l₁ := [_, _])) (List.Perm.cons _ (List.Perm.trans (List.perm_middle (l₁ := [_, _])) (List.Perm.cons _ (List.Perm.trans (List.perm_middle (l₁ := [_, _])) (List.Perm.cons _ (List.Perm.trans (List.perm_middle (l₁ := [_, _])) (List.Perm.cons _ (List.Perm.trans (List.perm_middle (l₁ := [_])) (List.Perm.cons _ (List.Perm.refl _))))))))))))))))))))) ?_
  refine K.region_lit ?_
  refine K.seq_sil (K.load1_own one_113 rfl (K.m6) rfl) rfl ?_
  try dsimp only [setd, setn, ev, nth, over, cl, eI, eP, eT, eC, List.map, List.append, List.drop, List.take]
  refine K.seq_sil (K.loadA_own ag_115 rfl (K.m9) rfl) rfl ?_
  try dsimp only [setd, setn, ev, nth, over, cl, eI, eP, eT, eC, List.map, List.append, List.drop, List.take]
  refine K.seq_upd (K.callU (first := []) (cap := [.pointer (some ⟨br, 0, none⟩), .pointer (some ⟨bk, 0, none⟩), .pointer (some ⟨bl, 0, none⟩)]) rfl cal_56 (fun w hw => IH (T := _ :: _ :: T) hw hkn hf hh)) rfl ?_
  rintro ⟨z11, kv11⟩ hz11
  try dsimp only [setd, setn, ev, nth, over, cl, eI, eP, eT, eC, List.map, List.append, List.drop, List.take]
  obtain ⟨e11, hk11⟩ : z11 = behS pf st ps f a h ∧ KnOk pf st ps kv11 := hz11
  subst e11
  have hbo := behS_ok g (pf := pf) f a h (by omega)
  unfold RsOk at hbo
  try dsimp only [setd, setn, ev, nth, over, cl, eI, eP, eT, eC, List.map, List.append, List.drop, List.take]
  refine K.seq_pure (K.field (fd0 _ _ _)) rfl ?_
  try dsimp only [setd, setn, ev, nth, over, cl, eI, eP, eT, eC, List.map, List.append, List.drop, List.take]
  refine K.seq_new (K.alloc zr_117) rfl ?_
  intro b7
  try dsimp only [setd, setn, ev, nth, over, cl, eI, eP, eT, eC, List.map, List.append, List.drop, List.take]
  refine K.seq_st (K.store_all sz_117 rfl rfl rfl rfl (K.rp0)) rfl ?_
  try dsimp only [setd, setn, ev, nth, over, cl, eI, eP, eT, eC, List.map, List.append, List.drop, List.take]
  refine K.seq_nil ?_
  refine K.norm_then ?_
  refine K.seq ?_
  refine K.region_lit ?_
  refine K.seq_pure (K.fieldAddr_lit fo_24_1 rfl) rfl ?_
  dsimp only [setd, setn, ev, nth]
  refine K.seq_sil (K.load1_own one_22 rfl (K.m2) rfl) rfl ?_
  try dsimp only [setd, setn, ev, nth, over, cl, eI, eP, eT, eC, List.map, List.append, List.drop, List.take]
  refine K.seq_pure (K.fieldAddr_lit fo_115_0 rfl) rfl ?_
  dsimp only [setd, setn, ev, nth]
  refine K.seq_sil (K.load1_own one_3 rfl (K.m10) rfl) rfl ?_
  try dsimp only [setd, setn, ev, nth, over, cl, eI, eP, eT, eC, List.map, List.append, List.drop, List.take]
  refine K.seq_ix (M := []) _ hR.sl sl_22 rfl rfl rfl (by omega) rfl ?_
  intro p17 hp17
  try dsimp only [setd, setn, ev, nth, over, cl, eI, eP, eT, eC, List.map, List.append, List.drop, List.take]
  refine K.seq_pure (K.fieldAddr fo_45_0 rfl) rfl ?_
  dsimp only [setd, setn, ev, nth]
  refine K.seq_sil (K.load1 one_3 rfl ((K.PtrL.fld hp17 (k := 0)).any)) rfl ?_
  try dsimp only [setd, setn, ev, nth, over, cl, eI, eP, eT, eC, List.map, List.append, List.drop, List.take]
  refine K.seq_pure (K.assign) rfl ?_
  dsimp only [setd, setn, ev, nth]
  refine K.seq_nil ?_
  refine K.norm_then ?_
  refine K.seq ?_
  refine K.region_lit ?_
  refine K.seq_pure (K.indexAddr_ar ar_117 rfl rfl (by omega) (by omega)) rfl ?_
  try dsimp only [setd, setn, ev, nth, over, cl, eI, eP, eT, eC, List.map, List.append, List.drop, List.take]
  refine K.seq_sil (K.load1_own one_3 rfl (K.m0) rfl) rfl ?_
  try dsimp only [setd, setn, ev, nth, over, cl, eI, eP, eT, eC, List.map, List.append, List.drop, List.take]
  refine K.seq_pure (K.fieldAddr_lit fo_115_1 rfl) rfl ?_
  dsimp only [setd, setn, ev, nth]
  refine K.seq_sil (K.load1_own one_3 rfl (K.m10) rfl) rfl ?_
  try dsimp only [setd, setn, ev, nth, over, cl, eI, eP, eT, eC, List.map, List.append, List.drop, List.take]
  refine K.seq_pure (K.move) rfl ?_
  dsimp only [setd, setn, ev, nth]
  refine K.seq_pure (K.sub_i64 rfl rfl (by omega)) rfl ?_
  dsimp only [setd, setn, ev, nth]
  refine K.seq_pure (K.max_int rfl rfl) rfl ?_
  dsimp only [setd, setn, ev, nth]
  refine K.seq_pure (K.add_i64 rfl rfl (by omega)) rfl ?_
  dsimp only [setd, setn, ev, nth]
  refine K.seq_pure (K.indexAddr_ar ar_117 rfl rfl (by omega) (by omega)) rfl ?_
  try dsimp only [setd, setn, ev, nth, over, cl, eI, eP, eT, eC, List.map, List.append, List.drop, List.take]
  refine K.seq_st (K.store sz_3 rfl rfl rfl rfl (K.rp0)) rfl ?_
  try dsimp only [setd, setn, ev, nth, over, cl, eI, eP, eT, eC, List.map, List.append, List.drop, List.take]
  refine K.seq_nil ?_
  refine K.norm_then ?_
  refine K.seq ?_
  refine K.region_lit ?_
  refine K.seq_pure (K.indexAddr_ar ar_117 rfl rfl (by omega) (by omega)) rfl ?_
  try dsimp only [setd, setn, ev, nth, over, cl, eI, eP, eT, eC, List.map, List.append, List.drop, List.take]
  refine K.seq_sil (K.load1_own one_3 rfl (K.m0) rfl) rfl ?_
  try dsimp only [setd, setn, ev, nth, over, cl, eI, eP, eT, eC, List.map, List.append, List.drop, List.take]
  refine K.seq_pure (K.move) rfl ?_
  dsimp only [setd, setn, ev, nth]
  refine K.seq_pure (K.fieldAddr_lit fo_115_1 rfl) rfl ?_
  dsimp only [setd, setn, ev, nth]
  refine K.seq_sil (K.load1_own one_3 rfl (K.m10) rfl) rfl ?_
  try dsimp only [setd, setn, ev, nth, over, cl, eI, eP, eT, eC, List.map, List.append, List.drop, List.take]
  refine K.seq_pure (K.sub_i64 rfl rfl (by omega)) rfl ?_
  dsimp only [setd, setn, ev, nth]
  refine K.seq_pure (K.max_int rfl rfl) rfl ?_
  dsimp only [setd, setn, ev, nth]
  refine K.seq_pure (K.move) rfl ?_
  dsimp only [setd, setn, ev, nth]
  refine K.seq_pure (K.sub_i64 rfl rfl (by omega)) rfl ?_
  dsimp only [setd, setn, ev, nth]
  refine K.seq_pure (K.max_int rfl rfl) rfl ?_
  dsimp only [setd, setn, ev, nth]
  refine K.seq_pure (K.add_i64 rfl rfl (by omega)) rfl ?_
  dsimp only [setd, setn, ev, nth]
  refine K.seq_pure (K.indexAddr_ar ar_117 rfl rfl (by omega) (by omega)) rfl ?_
  try dsimp only [setd, setn, ev, nth, over, cl, eI, eP, eT, eC, List.map, List.append, List.drop, List.take]
  refine K.seq_st (K.store sz_3 rfl rfl rfl rfl (K.rp0)) rfl ?_
  try dsimp only [setd, setn, ev, nth, over, cl, eI, eP, eT, eC, List.map, List.append, List.drop, List.take]
  refine K.seq_nil ?_
  refine K.norm_then ?_
  refine K.seq ?_
  refine K.region_lit ?_
  refine K.seq_sil (K.loadA_own ag_117 rfl (K.m0) rfl) rfl ?_
  try dsimp only [setd, setn, ev, nth, over, cl, eI, eP, eT, eC, List.map, List.append, List.drop, List.take]
  refine K.seq_st (K.store_all sz_117 rfl rfl rfl rfl (K.rp11)) rfl ?_
  try dsimp only [setd, setn, ev, nth, over, cl, eI, eP, eT, eC, List.map, List.append, List.drop, List.take]
  refine K.seq_nil ?_
  refine K.norm_then ?_
  refine K.ret ?_
  refine K.end_ret (fun w hw => K.res_c rfl rfl (K.run_cellA ag_117 rfl (K.m11) rfl w hw)) ?_
  exact K.retsU (ownS ps (behS pf st ps f) a deep h, kv11) ⟨rfl, hk11⟩ rfl (List.Sublist.cons _ (List.Sublist.cons_cons _ (List.Sublist.cons_cons _ (List.Sublist.cons_cons _ (List.Sublist.cons_cons _ (List.Sublist.cons_cons _ (List.Sublist.cons_cons _ (List.Sublist.cons_cons _ (List.Sublist.cons_cons _ (List.Sublist.cons_cons _ (List.Sublist.cons _ (List.Sublist.cons _ (List.Sublist.refl _)))))))))))))

end Go.Proofs.Ytfbglomliankmaa.Cv
end
