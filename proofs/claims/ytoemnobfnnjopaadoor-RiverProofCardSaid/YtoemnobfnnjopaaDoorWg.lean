/-
  Walks of the program's functions, printed by program: what each returns.
  Conditions stand in each theorem.
-/
import Derived.WalkArith
import Derived.Laws.Closers25b
import Derived.Test.YtoemnobfnnjopaaDoorS3
import Derived.Test.YtoemnobfnnjopaaDoorKE
import Derived.Test.YtoemnobfnnjopaaDoorWa
set_option linter.unusedSimpArgs false
set_option linter.unusedVariables false
namespace Go.Proofs.YtoemnobfnnjopaaDoor
open Go.RowKit Go
open Go.K (setd setn ev nth over cl eI eP eT setM setF)
attribute [local irreducible] K.blk K.row
/-- The iterator's own count. -/
def curS (r : List RvT) (i k : Nat) : Int := if k ≤ dep r i then ((stps r k i : Nat) : Int) else -1
theorem cur_yes {r : List RvT} {i k : Nat} (g : Good r) (hi : i < r.length) (h : curS r i k ≠ -1) : k ≤ dep r i ∧ curS r i k = ((stps r k i : Nat) : Int) := by
  unfold curS at h ⊢
  split at h
  · rename_i hk; exact ⟨hk, if_pos hk⟩
  · exact absurd rfl h
theorem cur_no {r : List RvT} {i k : Nat} (h : curS r i k = -1) : dep r i < k := by
  unfold curS at h
  split at h
  · omega
  · omega
theorem cur_next {r : List RvT} {i k : Nat} (g : Good r) (hi : i < r.length) (hk : k ≤ dep r i) : curS r i (k + 1) = (r.getD (stps r k i) default).dn := by
  have hd := dep_is g hi
  unfold curS
  by_cases h : k + 1 ≤ dep r i
  · have := hd.2.2 k (by omega)
    have h2 := g.p _ (stps_lt g hi k)
    rw [if_pos h, stps_up this]; omega
  · have e : k = dep r i := by omega
    subst e
    rw [if_neg h, hd.2.1]
theorem drop_next {r : List RvT} {i k : Nat} (g : Good r) (hi : i < r.length) : DM r i - DM r (stps r k i) + (r.getD (stps r k i) default).ls = DM r i - DM r (stps r (k + 1) i) := by
  have hl := stps_lt g hi k
  by_cases h : (r.getD (stps r k i) default).dn = -1
  · have := (g.p _ hl).2.2 h
    rw [stps_st h]; omega
  · have := DM_d g hl h
    rw [stps_up h]; omega

set_option maxRecDepth 100000 in
theorem c57 {i : Int} {r : List RvT} {A : Option Addr} {c : Nat} (w : World) :
    Calls Tryd.prog 57 [.slice A r.length c, .int .i64 i].toArray w (K.Ret (fun _ : Nat × Nat => True) (fun q => .func (.func 84) #[] #[.pointer (some ⟨q.2, 0, none⟩), .pointer (some ⟨q.1, 0, none⟩)]) (fun q => [K.blk q.2 3 [.int .i64 i], K.blk q.1 75 [.slice A r.length c]]) w) := by
  refine K.enter (args := [.slice A r.length c, .int .i64 i]) Tryd.func57 rfl (n := 4) rfl ?_
  simp only [List.replicate, List.cons_append, List.nil_append]
  refine sr ?_
  refine K.seq_new (K.box) rfl ?_
  intro b2
  refine zN ?_
  refine K.seq_new (K.box) rfl ?_
  intro b3
  refine zN ?_
  refine qa ?_
  refine sn ?_
  refine sr ?_
  refine K.seq_pure (K.mkFunc) rfl ?_
  refine zN ?_
  refine qa ?_
  refine sn ?_
  refine K.ret ?_
  refine K.end_ret (fun w _ => K.res_tmp rfl w) ?_
  exact K.rets_v (b2, b3) trivial rfl rfl (List.Sublist.refl _)

set_option maxRecDepth 100000 in
set_option maxHeartbeats 1000000 in
theorem c84 {r : List RvT} {A : Option Addr} {c : Nat} {b i : Nat} {p : Addr} (g : Good r) (hi : i < r.length) :
    R.IterX Tryd.prog 84 [] [.pointer (some ⟨b, 0, none⟩), .pointer (some p)] b (fun f w => w.heap[b]? = some (.cells #[.int .i64 (i : Int)] 3 (0, 0)) ∧ R.Own1 (R.orb f b) w p [.slice A r.length c] ∧ R.OwnR (R.orb f b) w A 4 eR r) (fun s : Int × Int => [Value.int .i64 s.1, Value.int .i64 s.2]) (belS r i) := by
  intro lr B0 J Jx f w hB hbl hJa hJxa hJb hJxb hf hnf hR hJ0 hpre
  obtain ⟨hbx, h2, hO⟩ := hpre
  refine R.enter (args := [.func (.yield lr) #[] #[], .pointer (some ⟨b, 0, none⟩), .pointer (some p)]) Tryd.func84 rfl (m := 22) rfl ?_
  simp only [List.replicate, List.cons_append, List.nil_append]
  refine R.seq ?_
  refine R.region_lit rfl ?_
  refine qa ?_
  refine K.seq_nil ?_
  refine R.out ?_
  refine R.norm_then ?_
  refine R.block ?_
  refine R.loopN [4] [5, 6, 7, 8, 9, 10, 11, 12, 13, 14, 15, 16, 17, 18, 19, 20, 21, 22, 23, 24] (fun m vi W => ∃ (k : Nat) (f1 : Nat → Prop), vi = [.int .i64 (DM r i - DM r (stps r k i))] ∧ m = dep r i + 1 - k ∧ k ≤ dep r i + 1 ∧ J k f1 W ∧ (∀ i, f1 i → i < W.heap.size) ∧ ¬ f1 b ∧ W.heap[b]? = some (.cells #[.int .i64 (curS r i k)] 3 (0, 0)) ∧ R.Own1 (R.orb f1 b) W p [.slice A r.length c] ∧ R.OwnR (R.orb f1 b) W A 4 eR r) (dep r i + 1) ?_ ?_
  · intro w1 hw1
    exact ⟨0, f, by simp only [List.map, K.nth, stps]; rw [Int.sub_self], rfl, by omega, hJa.below hJ0 hf hB hw1.1, fun i hi => Nat.lt_of_lt_of_le (hf i hi) hw1.1.size, hnf, (hw1.1.block b (K.lt_of_some hbx)).trans hbx, h2.keep (R.Keep.below hw1.1), hO.keep (R.Keep.below hw1.1)⟩
  intro m vi vr W hJ
  obtain ⟨k, f1, rfl, rfl, hkd1, hJ1, hfb, hnb, hbx, h2, hO⟩ := hJ
  have h1 := R.heap_ptr hbx
  try dsimp only [setd, setn, ev, nth, over, cl, eI, eP, eT, eR, setM, setF, List.map, List.append, List.drop, List.take]
  refine R.seq ?_
  refine R.seq ?_
  refine R.lregion ?_
  refine R.lseq_sil (K.load1 one_3 rfl (h1.any)) rfl rfl ?_
  refine zN ?_
  refine R.lseq_pure (K.neq rfl rfl) rfl rfl ?_
  refine zn ?_
  refine R.lseq_pure (K.move) rfl rfl ?_
  refine zn ?_
  refine R.lsplit 7 rfl (fun hg7 => ?_) (fun hg7 => ?_)
  · try replace hg7 := of_decide_eq_true hg7
    obtain ⟨hkd, hcu⟩ := cur_yes g hi hg7
    refine R.lseq_pure (K.move) rfl rfl ?_
    refine zn ?_
    refine R.lseq_sil (K.load1 one_3 rfl (h1.any)) rfl rfl ?_
    refine zN ?_
    rw [hcu]
    refine zN ?_
    refine R.lseq_pure (K.move) rfl rfl ?_
    refine zn ?_
    refine R.lseq_yield2 rfl rfl rfl (fun w1 hw1 => R.yield_steps hR (bel_at hkd) (hJa.below hJ1 hfb (hJb _ _ _ hJ1) hw1.1)) ?_
    intro w1 hw1 bb w2 hst
    refine zN ?_
    refine R.lseq_pure (K.pick_t rfl) rfl rfl ?_
    refine zn ?_
    refine R.lseq_nil ?_
    refine R.norm_then ?_
    refine R.cond rfl (fun ht12 => ?_) (fun ht12 => ?_)
    · try replace ht12 := of_decide_eq_true ht12
      have hbt : bb = true := by simpa using ht12
      subst hbt
      rcases hst with ⟨_, f2, hJ2, hk2, _, hf2⟩ | ⟨h, _⟩
      case inr => cases h
      have ek := ((R.Keep.below (f := f1) hw1.1).trans hk2)
      have hB2 := hJb _ _ _ hJ2
      have hbx2 : w2.heap[b]? = some (.cells #[.int .i64 (curS r i k)] 3 (0, 0)) := (ek b (K.lt_of_some hbx) hnb).2.trans hbx
      have h2 := h2.keep (R.Keep.orbs ek)
      have hO := hO.keep (R.Keep.orbs ek)
      have hP := hO.rd
      have h1 := R.heap_ptr hbx2
      rw [hcu] at h1
      have hnx := cur_next g hi hkd
      have hdr := drop_next (k := k) g hi
      have hls := stps_lt g hi k
      have hpk := g.p _ hls
      have hdl := DM_le g hi
      have hdk := DM_le g hls
      refine R.skip ?_
      refine R.norm_then ?_
      refine R.seq ?_
      refine R.block ?_
      refine R.region_lit rfl ?_
      refine qm ?_
      refine K.seq_sil (K.load1 one_75 rfl (h2.ptr.any)) rfl ?_
      refine zN ?_
      refine K.seq_sil (K.load1 one_3 rfl (h1.any)) rfl ?_
      refine zN ?_
      refine K.seq_ix (M := []) (stps r k i) hP.sl sl_75 rfl rfl (by omega) (by omega) rfl ?_
      intro p21 hp21
      refine zN ?_
      refine qp (K.fieldAddr fo_44_2 rfl) ?_
      refine K.seq_sil (K.load1 one_3 rfl ((K.PtrL.fld hp21 (k := 2)).any)) rfl ?_
      refine zN ?_
      refine K.seq_pure (K.add_i64 rfl rfl (by omega)) rfl ?_
      refine zN ?_
      rw [hdr]
      refine zN ?_
      refine qa ?_
      refine K.seq_nil ?_
      refine R.out ?_
      refine R.norm_block ?_
      refine R.norm_then ?_
      refine R.region_lit rfl ?_
      refine K.seq_sil (K.load1 one_75 rfl (h2.ptr.any)) rfl ?_
      refine zN ?_
      refine K.seq_sil (K.load1 one_3 rfl (h1.any)) rfl ?_
      refine zN ?_
      refine K.seq_ix (M := []) (stps r k i) hP.sl sl_75 rfl rfl (by omega) (by omega) rfl ?_
      intro p15 hp15
      refine zN ?_
      refine qp (K.fieldAddr fo_44_1 rfl) ?_
      refine K.seq_sil (K.load1 one_3 rfl ((K.PtrL.fld hp15 (k := 1)).any)) rfl ?_
      refine zN ?_
      refine R.seq_old (cs := [.int .i64 (curS r i k)]) sz_3 rfl rfl (Nat.le_refl 1) rfl rfl rfl (fun w hw => (hw.1.block b (K.lt_of_some hbx2)).trans hbx2) (fun w5 w6 hw5 hb6 hne hbe => ?_)
      refine zN ?_
      refine K.seq_nil ?_
      refine R.out ?_
      refine R.roundN (dep r i + 1 - (k + 1)) [.int .i64 (DM r i - DM r (stps r (k + 1) i))] (fun w4 hw4 => ?_) (by omega) (by kernel_rfl)
      have ek2 := (((R.Keep.below (f := R.orb f2 b) hw5.1).trans (R.Keep.off hne)).trans (R.Keep.below hw4.1))
      have hn2 : ¬ f2 b := (ek b (K.lt_of_some hbx) hnb).1
      have hsz6 : w5.heap.size ≤ w6.heap.size := (hbe 0).size
      have hJ4 : J (k + 1) f2 w4 := hJa _ _ w2 w4 hJ2 ((R.BelowX.of (hw5.1.mono hB2)).trans ((hbe B0).trans (R.BelowX.of (hw4.1.mono (Nat.le_trans hB2 (Nat.le_trans hw5.1.size hsz6)))))) (fun j hj => by
        have hj2 := hf2 j hj
        rw [hw4.1.block j (Nat.lt_of_lt_of_le hj2 (Nat.le_trans hw5.1.size hsz6)), hne j (fun e => hn2 (e ▸ hj)), hw5.1.block j hj2])
      refine ⟨k + 1, f2, rfl, rfl, by omega, hJ4, fun j hj => Nat.lt_of_lt_of_le (hf2 j hj) (Nat.le_trans hw5.1.size (Nat.le_trans hsz6 hw4.1.size)), hn2, ?_, h2.keep ek2, hO.keep ek2⟩
      rw [hw4.1.block b (K.lt_of_some hb6), hnx]
      exact hb6
    try replace ht12 := of_decide_eq_false ht12
    refine R.exit ?_
    refine R.exit_then ?_
    refine R.exit_then ?_
    refine R.exit_here ?_
    refine R.end_normal (fun w _ => K.res_none rfl w) ?_
    intro w3 hw3
    refine ⟨⟨_, rfl⟩, .inr ?_⟩
    have hbf : bb = false := by simpa using ht12
    subst hbf
    rcases hst with ⟨h, _⟩ | ⟨_, k2, f2, hk2, hJ2, hkp, _, hf2⟩
    · cases h
    exact ⟨k2, f2, hk2, hJxa.below hJ2 hf2 (hJxb _ _ _ hJ2) hw3.1⟩
  try replace hg7 := of_decide_eq_false hg7
  refine R.lseq_skip ?_ ?_
  · rfl
  refine zN ?_
  refine R.lseq_skip ?_ ?_
  · rfl
  refine zN ?_
  refine R.lseq_skip ?_ ?_
  · rfl
  refine zN ?_
  refine R.lseq_skip ?_ ?_
  · rfl
  refine zN ?_
  refine R.lseq_pure (K.pick_f rfl) rfl rfl ?_
  refine zn ?_
  refine R.lseq_nil ?_
  refine R.norm_then ?_
  refine R.cond_false rfl ?_
  refine R.exit ?_
  refine R.exit_then ?_
  refine R.exit_then ?_
  refine R.exit_here ?_
  refine R.end_normal (fun w _ => K.res_none rfl w) ?_
  intro w3 hw3
  refine ⟨⟨_, rfl⟩, .inl ⟨f1, ?_⟩⟩
  have hcn : curS r i k = -1 := Decidable.not_not.1 hg7
  have e0 : k = dep r i + 1 := by have := cur_no hcn; omega
  rw [bel_len, ← e0]
  exact hJa.below hJ1 hfb (hJb _ _ _ hJ1) hw3.1

end Go.Proofs.YtoemnobfnnjopaaDoor
