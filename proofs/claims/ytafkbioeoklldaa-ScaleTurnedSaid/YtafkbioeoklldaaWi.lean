/-
  Walks of the program's functions, printed by program: what each returns.
  Conditions stand in each theorem.
-/
import Derived.Test.YtafkbioeoklldaaKf
import Derived.Test.YtafkbioeoklldaaK2
import Derived.WalkArith
import Derived.Test.YtafkbioeoklldaaK3
import Derived.Test.YtafkbioeoklldaaS1
import Derived.Test.YtafkbioeoklldaaWa
import Derived.Test.YtafkbioeoklldaaWd
set_option linter.unusedSimpArgs false
set_option linter.unusedVariables false
namespace Go.Proofs.Ytafkbioeoklldaa
open Go.RowKit Go
open Go.K (setd setn ev nth over cl eI eP eT setM setF)
attribute [local irreducible] K.blk K.row

theorem K.app_l {α : Type} {xs ys : List α} {i : Nat} {x : α} (h : xs[i]? = some x) : (xs ++ ys)[i]? = some x := by
  rw [List.getElem?_append_left (List.getElem?_eq_some_iff.1 h).1, h]
theorem K.app_m {α : Type} {xs ys : List α} {x : α} : (xs ++ x :: ys)[xs.length]? = some x := by simp
theorem K.app_r {α : Type} {xs ys : List α} {y x : α} {i : Nat} (h : ys[i]? = some x) : (xs ++ y :: ys)[i + xs.length + 1]? = some x := by
  rw [List.getElem?_append_right (by omega)]
  have e : i + xs.length + 1 - xs.length = i + 1 := by omega
  rw [e]; simpa using h


theorem R.Step.fail2 {α : Type} {XS : List α} {J Jx : Nat → (Nat → Prop) → World → Prop} (hJxa : R.Abides Jx) {m m' k k' : Nat} {f f' : Nat → Prop} {w w1 w' w2 : World} (h : R.Step XS J Jx m k f w false w') (hw : K.St w' [] w2) : R.Step XS J Jx m' k' f' w1 false w2 := by
  rcases h with ⟨h, _⟩ | ⟨_, k2, f2, h1, h2⟩
  · cases h
  · exact .inr ⟨rfl, k2, f2, h1, hJxa _ _ _ _ h2 hw.1⟩


set_option maxRecDepth 100000 in
theorem c91 {XS : List (Int × Int)} {J Jx : Nat → (Nat → Prop) → World → Prop} {lr : Nat} (hR : R.RoundOK Try.prog lr (fun x : Int × Int => .agg #[.int .i64 x.1, .int .i64 x.2]) XS J Jx) (hJa : R.Abides J) (hJxa : R.Abides Jx) : ∀ (n : Nat) (a b : Int × Int) (k : Nat) (f : Nat → Prop) (w : World) {p q : Addr}, (0 ≤ a.1 ∧ a.1 ≤ 30 ∧ 0 ≤ a.2 ∧ a.2 ≤ 30) → (0 ≤ b.1 ∧ b.1 ≤ 30 ∧ 0 ≤ b.2 ∧ b.2 ≤ 30) → (1 ≤ a.1 + a.2 ∧ 1 ≤ b.1 + b.2) → 62 ≤ a.1 + a.2 + (b.1 + b.2) + n →
    J k f w → (∀ i, f i → i < w.heap.size) → R.Own1 f w p [.func (.func 91) #[] #[.pointer (some p), .pointer (some q)]] → R.Own1 f w q [.func (.yield lr) #[] #[]] → (∀ i x, (sb n a b)[i]? = some x → XS[k + i]? = some x) →
    Calls Try.prog 91 [.agg #[.int .i64 a.1, .int .i64 a.2], .agg #[.int .i64 b.1, .int .i64 b.2], .pointer (some p), .pointer (some q)].toArray w (fun e w' => ∃ bb, e = .returned (.bool bb) ∧ R.Step XS J Jx (sb n a b).length k f w bb w') := by
  intro n
  induction n with
  | zero =>
    intro a b k f w p q ha hb hab hn hJ hf hp hq hx
    refine R.enter (args := [.agg #[.int .i64 a.1, .int .i64 a.2], .agg #[.int .i64 b.1, .int .i64 b.2], .pointer (some p), .pointer (some q)]) Try.func91 rfl (m := 38) rfl ?_
    simp only [List.replicate, List.cons_append, List.nil_append]
    refine R.seq ?_
    refine R.region_lit rfl ?_
    refine K.seq_new (K.box) rfl ?_
    intro b4
    try dsimp only [setd, setn, ev, nth, over, cl, eI, eP, eT, List.map, List.append, List.drop, List.take]
    refine K.seq_new (K.box) rfl ?_
    intro b5
    try dsimp only [setd, setn, ev, nth, over, cl, eI, eP, eT, List.map, List.append, List.drop, List.take]
    refine K.seq_pure (K.assign) rfl ?_
    dsimp only [setd, setn, ev, nth]
    refine K.seq_nil ?_
    refine R.out ?_
    refine R.norm_then ?_
    refine R.seq ?_
    refine R.region_lit rfl ?_
    refine K.seq_pure (K.fieldAddr_lit fo_27_0 rfl) rfl ?_
    dsimp only [setd, setn, ev, nth]
    refine K.seq_sil (K.load1_own one_3 rfl (K.m1) rfl) rfl ?_
    try dsimp only [setd, setn, ev, nth, over, cl, eI, eP, eT, List.map, List.append, List.drop, List.take]
    refine K.seq_pure (K.fieldAddr_lit fo_27_0 rfl) rfl ?_
    dsimp only [setd, setn, ev, nth]
    refine K.seq_sil (K.load1_own one_3 rfl (K.m0) rfl) rfl ?_
    try dsimp only [setd, setn, ev, nth, over, cl, eI, eP, eT, List.map, List.append, List.drop, List.take]
    refine K.seq_pure (K.add_i64 rfl rfl (by omega)) rfl ?_
    dsimp only [setd, setn, ev, nth]
    refine K.seq_pure (K.fieldAddr_lit fo_27_1 rfl) rfl ?_
    dsimp only [setd, setn, ev, nth]
    refine K.seq_sil (K.load1_own one_3 rfl (K.m1) rfl) rfl ?_
    try dsimp only [setd, setn, ev, nth, over, cl, eI, eP, eT, List.map, List.append, List.drop, List.take]
    refine K.seq_pure (K.fieldAddr_lit fo_27_1 rfl) rfl ?_
    dsimp only [setd, setn, ev, nth]
    refine K.seq_sil (K.load1_own one_3 rfl (K.m0) rfl) rfl ?_
    try dsimp only [setd, setn, ev, nth, over, cl, eI, eP, eT, List.map, List.append, List.drop, List.take]
    refine K.seq_pure (K.add_i64 rfl rfl (by omega)) rfl ?_
    dsimp only [setd, setn, ev, nth]
    refine K.seq_pure (K.build (bl27 _ _)) rfl ?_
    try dsimp only [setd, setn, ev, nth, over, cl, eI, eP, eT, List.map, List.append, List.drop, List.take]
    refine K.seq_new (K.alloc zr_27) rfl ?_
    intro b7
    try dsimp only [setd, setn, ev, nth, over, cl, eI, eP, eT, List.map, List.append, List.drop, List.take]
    refine K.seq_st (K.store_all sz_27 rfl rfl rfl rfl (K.rp0)) rfl ?_
    try dsimp only [setd, setn, ev, nth, over, cl, eI, eP, eT, List.map, List.append, List.drop, List.take]
    refine K.seq_nil ?_
    refine R.out ?_
    refine R.norm_then ?_
    refine R.seq ?_
    refine R.seq ?_
    refine R.region_lit rfl ?_
    refine K.seq_pure (K.fieldAddr_lit fo_27_0 rfl) rfl ?_
    dsimp only [setd, setn, ev, nth]
    refine K.seq_sil (K.load1_own one_3 rfl (K.m0) rfl) rfl ?_
    try dsimp only [setd, setn, ev, nth, over, cl, eI, eP, eT, List.map, List.append, List.drop, List.take]
    refine K.seq_pure (K.gtr rfl rfl) rfl ?_
    dsimp only [setd, setn, ev, nth]
    refine K.seq_pure (K.move) rfl ?_
    dsimp only [setd, setn, ev, nth]
    refine K.split 22 rfl (fun hg22 => ?_) (fun hg22 => ?_)
    · try replace hg22 := of_decide_eq_true hg22
      refine K.seq_skip ?_ ?_
      · rfl
      try dsimp only [setd, setn, ev, nth, over, cl, eI, eP, eT, List.map, List.append, List.drop, List.take]
      refine K.seq_skip ?_ ?_
      · rfl
      try dsimp only [setd, setn, ev, nth, over, cl, eI, eP, eT, List.map, List.append, List.drop, List.take]
      refine K.seq_skip ?_ ?_
      · rfl
      try dsimp only [setd, setn, ev, nth, over, cl, eI, eP, eT, List.map, List.append, List.drop, List.take]
      refine K.seq_pure (K.pick_t rfl) rfl ?_
      dsimp only [setd, setn, ev, nth]
      refine K.seq_nil ?_
      refine R.out ?_
      refine R.norm_then ?_
      refine R.cond_true rfl ?_
      refine R.seq ?_
      refine R.region_lit rfl ?_
      refine K.seq_pure (K.assign) rfl ?_
      dsimp only [setd, setn, ev, nth]
      refine K.seq_nil ?_
      refine R.out ?_
      refine R.norm_then ?_
      refine R.ret ?_
      refine R.ret_then ?_
      refine R.end_ret (fun w _ => K.res_tmp rfl w) ?_
      exact fun w' hw' => ⟨true, rfl, .inl ⟨rfl, f, hJa _ _ _ _ hJ hw'.1, R.Keep.below hw'.1, fun i hi => Nat.lt_of_lt_of_le (hf i hi) hw'.1.size⟩⟩
    try replace hg22 := of_decide_eq_false hg22
    refine K.seq_pure (K.fieldAddr_lit fo_27_1 rfl) rfl ?_
    dsimp only [setd, setn, ev, nth]
    refine K.seq_sil (K.load1_own one_3 rfl (K.m0) rfl) rfl ?_
    try dsimp only [setd, setn, ev, nth, over, cl, eI, eP, eT, List.map, List.append, List.drop, List.take]
    refine K.seq_pure (K.gtr rfl rfl) rfl ?_
    dsimp only [setd, setn, ev, nth]
    refine K.seq_pure (K.pick_f rfl) rfl ?_
    dsimp only [setd, setn, ev, nth]
    refine K.seq_nil ?_
    refine R.out ?_
    refine R.norm_then ?_
    refine R.cond rfl (fun ht26 => ?_) (fun ht26 => ?_)
    · try replace ht26 := of_decide_eq_true ht26
      refine R.seq ?_
      refine R.region_lit rfl ?_
      refine K.seq_pure (K.assign) rfl ?_
      dsimp only [setd, setn, ev, nth]
      refine K.seq_nil ?_
      refine R.out ?_
      refine R.norm_then ?_
      refine R.ret ?_
      refine R.ret_then ?_
      refine R.end_ret (fun w _ => K.res_tmp rfl w) ?_
      exact fun w' hw' => ⟨true, rfl, .inl ⟨rfl, f, hJa _ _ _ _ hJ hw'.1, R.Keep.below hw'.1, fun i hi => Nat.lt_of_lt_of_le (hf i hi) hw'.1.size⟩⟩
    try replace ht26 := of_decide_eq_false ht26
    refine R.skip ?_
    refine R.norm_then ?_
    refine R.seq ?_
    exfalso; omega
  | succ n ih =>
    intro a b k f w p q ha hb hab hn hJ hf hp hq hx
    refine R.enter (args := [.agg #[.int .i64 a.1, .int .i64 a.2], .agg #[.int .i64 b.1, .int .i64 b.2], .pointer (some p), .pointer (some q)]) Try.func91 rfl (m := 38) rfl ?_
    simp only [List.replicate, List.cons_append, List.nil_append]
    refine R.seq ?_
    refine R.region_lit rfl ?_
    refine K.seq_new (K.box) rfl ?_
    intro b4
    try dsimp only [setd, setn, ev, nth, over, cl, eI, eP, eT, List.map, List.append, List.drop, List.take]
    refine K.seq_new (K.box) rfl ?_
    intro b5
    try dsimp only [setd, setn, ev, nth, over, cl, eI, eP, eT, List.map, List.append, List.drop, List.take]
    refine K.seq_pure (K.assign) rfl ?_
    dsimp only [setd, setn, ev, nth]
    refine K.seq_nil ?_
    refine R.out ?_
    refine R.norm_then ?_
    refine R.seq ?_
    refine R.region_lit rfl ?_
    refine K.seq_pure (K.fieldAddr_lit fo_27_0 rfl) rfl ?_
    dsimp only [setd, setn, ev, nth]
    refine K.seq_sil (K.load1_own one_3 rfl (K.m1) rfl) rfl ?_
    try dsimp only [setd, setn, ev, nth, over, cl, eI, eP, eT, List.map, List.append, List.drop, List.take]
    refine K.seq_pure (K.fieldAddr_lit fo_27_0 rfl) rfl ?_
    dsimp only [setd, setn, ev, nth]
    refine K.seq_sil (K.load1_own one_3 rfl (K.m0) rfl) rfl ?_
    try dsimp only [setd, setn, ev, nth, over, cl, eI, eP, eT, List.map, List.append, List.drop, List.take]
    refine K.seq_pure (K.add_i64 rfl rfl (by omega)) rfl ?_
    dsimp only [setd, setn, ev, nth]
    refine K.seq_pure (K.fieldAddr_lit fo_27_1 rfl) rfl ?_
    dsimp only [setd, setn, ev, nth]
    refine K.seq_sil (K.load1_own one_3 rfl (K.m1) rfl) rfl ?_
    try dsimp only [setd, setn, ev, nth, over, cl, eI, eP, eT, List.map, List.append, List.drop, List.take]
    refine K.seq_pure (K.fieldAddr_lit fo_27_1 rfl) rfl ?_
    dsimp only [setd, setn, ev, nth]
    refine K.seq_sil (K.load1_own one_3 rfl (K.m0) rfl) rfl ?_
    try dsimp only [setd, setn, ev, nth, over, cl, eI, eP, eT, List.map, List.append, List.drop, List.take]
    refine K.seq_pure (K.add_i64 rfl rfl (by omega)) rfl ?_
    dsimp only [setd, setn, ev, nth]
    refine K.seq_pure (K.build (bl27 _ _)) rfl ?_
    try dsimp only [setd, setn, ev, nth, over, cl, eI, eP, eT, List.map, List.append, List.drop, List.take]
    refine K.seq_new (K.alloc zr_27) rfl ?_
    intro b7
    try dsimp only [setd, setn, ev, nth, over, cl, eI, eP, eT, List.map, List.append, List.drop, List.take]
    refine K.seq_st (K.store_all sz_27 rfl rfl rfl rfl (K.rp0)) rfl ?_
    try dsimp only [setd, setn, ev, nth, over, cl, eI, eP, eT, List.map, List.append, List.drop, List.take]
    refine K.seq_nil ?_
    refine R.out ?_
    refine R.norm_then ?_
    refine R.seq ?_
    refine R.seq ?_
    refine R.region_lit rfl ?_
    refine K.seq_pure (K.fieldAddr_lit fo_27_0 rfl) rfl ?_
    dsimp only [setd, setn, ev, nth]
    refine K.seq_sil (K.load1_own one_3 rfl (K.m0) rfl) rfl ?_
    try dsimp only [setd, setn, ev, nth, over, cl, eI, eP, eT, List.map, List.append, List.drop, List.take]
    refine K.seq_pure (K.gtr rfl rfl) rfl ?_
    dsimp only [setd, setn, ev, nth]
    refine K.seq_pure (K.move) rfl ?_
    dsimp only [setd, setn, ev, nth]
    refine K.split 22 rfl (fun hg22 => ?_) (fun hg22 => ?_)
    · try replace hg22 := of_decide_eq_true hg22
      refine K.seq_skip ?_ ?_
      · rfl
      try dsimp only [setd, setn, ev, nth, over, cl, eI, eP, eT, List.map, List.append, List.drop, List.take]
      refine K.seq_skip ?_ ?_
      · rfl
      try dsimp only [setd, setn, ev, nth, over, cl, eI, eP, eT, List.map, List.append, List.drop, List.take]
      refine K.seq_skip ?_ ?_
      · rfl
      try dsimp only [setd, setn, ev, nth, over, cl, eI, eP, eT, List.map, List.append, List.drop, List.take]
      refine K.seq_pure (K.pick_t rfl) rfl ?_
      dsimp only [setd, setn, ev, nth]
      refine K.seq_nil ?_
      refine R.out ?_
      refine R.norm_then ?_
      refine R.cond_true rfl ?_
      refine R.seq ?_
      refine R.region_lit rfl ?_
      refine K.seq_pure (K.assign) rfl ?_
      dsimp only [setd, setn, ev, nth]
      refine K.seq_nil ?_
      refine R.out ?_
      refine R.norm_then ?_
      refine R.ret ?_
      refine R.ret_then ?_
      refine R.end_ret (fun w _ => K.res_tmp rfl w) ?_
      have e0 : sb (n + 1) a b = [] := by unfold sb; rw [if_pos (by omega)]
      rw [e0]
      exact fun w' hw' => ⟨true, rfl, .inl ⟨rfl, f, hJa _ _ _ _ hJ hw'.1, R.Keep.below hw'.1, fun i hi => Nat.lt_of_lt_of_le (hf i hi) hw'.1.size⟩⟩
    try replace hg22 := of_decide_eq_false hg22
    refine K.seq_pure (K.fieldAddr_lit fo_27_1 rfl) rfl ?_
    dsimp only [setd, setn, ev, nth]
    refine K.seq_sil (K.load1_own one_3 rfl (K.m0) rfl) rfl ?_
    try dsimp only [setd, setn, ev, nth, over, cl, eI, eP, eT, List.map, List.append, List.drop, List.take]
    refine K.seq_pure (K.gtr rfl rfl) rfl ?_
    dsimp only [setd, setn, ev, nth]
    refine K.seq_pure (K.pick_f rfl) rfl ?_
    dsimp only [setd, setn, ev, nth]
    refine K.seq_nil ?_
    refine R.out ?_
    refine R.norm_then ?_
    refine R.cond rfl (fun ht26 => ?_) (fun ht26 => ?_)
    · try replace ht26 := of_decide_eq_true ht26
      refine R.seq ?_
      refine R.region_lit rfl ?_
      refine K.seq_pure (K.assign) rfl ?_
      dsimp only [setd, setn, ev, nth]
      refine K.seq_nil ?_
      refine R.out ?_
      refine R.norm_then ?_
      refine R.ret ?_
      refine R.ret_then ?_
      refine R.end_ret (fun w _ => K.res_tmp rfl w) ?_
      have e0 : sb (n + 1) a b = [] := by unfold sb; rw [if_pos (by omega)]
      rw [e0]
      exact fun w' hw' => ⟨true, rfl, .inl ⟨rfl, f, hJa _ _ _ _ hJ hw'.1, R.Keep.below hw'.1, fun i hi => Nat.lt_of_lt_of_le (hf i hi) hw'.1.size⟩⟩
    try replace ht26 := of_decide_eq_false ht26
    refine R.skip ?_
    refine R.norm_then ?_
    refine R.seq ?_
    have hsb : sb (n + 1) a b = sb n a (a.1 + b.1, a.2 + b.2) ++ (a.1 + b.1, a.2 + b.2) :: sb n (a.1 + b.1, a.2 + b.2) b := by rw [sb, if_neg (by omega)]
    refine R.lregion ?_
    refine R.lseq_sil (K.load1 one_63 rfl hp.ptr.any) rfl rfl ?_
    try dsimp only [setd, setn, ev, nth, over, cl, eI, eP, eT, List.map, List.append, List.drop, List.take]
    refine R.lseq_sil (K.loadA_own ag_27 rfl (K.m2) rfl) rfl rfl ?_
    try dsimp only [setd, setn, ev, nth, over, cl, eI, eP, eT, List.map, List.append, List.drop, List.take]
    refine R.lseq_sil (K.loadA_own ag_27 rfl (K.m0) rfl) rfl rfl ?_
    try dsimp only [setd, setn, ev, nth, over, cl, eI, eP, eT, List.map, List.append, List.drop, List.take]
    refine R.lseq_wild (first := []) (cap := [.pointer (some p), .pointer (some q)]) (post := fun w' bb w1 => R.Step XS J Jx (sb n a (a.1 + b.1, a.2 + b.2)).length k f w' bb w1) rfl cal_91 rfl (fun w' hw' => ih _ _ k f w' (by (try simp only); omega) (by (try simp only); omega) (by (try simp only); omega) (by (try simp only); omega) (hJa _ _ _ _ hJ hw'.1) (fun i hi => Nat.lt_of_lt_of_le (hf i hi) hw'.1.size) (hp.keep (R.Keep.below hw'.1)) (hq.keep (R.Keep.below hw'.1)) (fun i x hi => hx i x (by rw [hsb]; exact K.app_l hi))) ?_
    intro w1 hw1 bb w2 hst
    have o4 := R.Own1.blk hw1 (K.m2) hf
    have o5 := R.Own1.blk hw1 (K.m1) hf
    have o7 := R.Own1.blk hw1 (K.m0) hf
    have k1 := R.Keep.below (f := f) hw1.1
    try dsimp only [setd, setn, ev, nth, over, cl, eI, eP, eT, List.map, List.append, List.drop, List.take]
    refine R.lseq_pure K.move rfl rfl ?_
    try dsimp only [setd, setn, ev, nth, over, cl, eI, eP, eT, List.map, List.append, List.drop, List.take]
    cases bb with
    | false =>
      try dsimp only [setd, setn, ev, nth, over, cl, eI, eP, eT, List.map, List.append, List.drop, List.take]
      refine R.lseq_skip rfl ?_
      try dsimp only [setd, setn, ev, nth, over, cl, eI, eP, eT, List.map, List.append, List.drop, List.take]
      refine R.lseq_skip rfl ?_
      try dsimp only [setd, setn, ev, nth, over, cl, eI, eP, eT, List.map, List.append, List.drop, List.take]
      refine R.lseq_skip rfl ?_
      try dsimp only [setd, setn, ev, nth, over, cl, eI, eP, eT, List.map, List.append, List.drop, List.take]
      refine R.lseq_pure (K.pick_f rfl) rfl rfl ?_
      try dsimp only [setd, setn, ev, nth, over, cl, eI, eP, eT, List.map, List.append, List.drop, List.take]
      refine R.lseq_pure K.move rfl rfl ?_
      try dsimp only [setd, setn, ev, nth, over, cl, eI, eP, eT, List.map, List.append, List.drop, List.take]
      refine R.lseq_skip rfl ?_
      try dsimp only [setd, setn, ev, nth, over, cl, eI, eP, eT, List.map, List.append, List.drop, List.take]
      refine R.lseq_skip rfl ?_
      try dsimp only [setd, setn, ev, nth, over, cl, eI, eP, eT, List.map, List.append, List.drop, List.take]
      refine R.lseq_skip rfl ?_
      try dsimp only [setd, setn, ev, nth, over, cl, eI, eP, eT, List.map, List.append, List.drop, List.take]
      refine R.lseq_skip rfl ?_
      try dsimp only [setd, setn, ev, nth, over, cl, eI, eP, eT, List.map, List.append, List.drop, List.take]
      refine R.lseq_pure (K.pick_f rfl) rfl rfl ?_
      try dsimp only [setd, setn, ev, nth, over, cl, eI, eP, eT, List.map, List.append, List.drop, List.take]
      refine R.lseq_pure K.assign rfl rfl ?_
      try dsimp only [setd, setn, ev, nth, over, cl, eI, eP, eT, List.map, List.append, List.drop, List.take]
      refine R.lseq_nil ?_
      refine R.norm_then ?_
      refine R.ret ?_
      refine R.end_ret (fun w _ => K.res_tmp rfl w) ?_
      exact fun w' hw' => ⟨false, rfl, R.Step.fail2 hJxa hst hw'⟩
    | true =>
      rcases hst with ⟨_, f1, hJ1, hk1, hf1⟩ | ⟨h, _⟩
      case inr => cases h
      have hk2 := k1.trans hk1
      replace o4 := o4.keep hk1
      replace o5 := o5.keep hk1
      replace o7 := o7.keep hk1
      have hp1 := hp.keep hk2
      have hq1 := hq.keep hk2
      try dsimp only [setd, setn, ev, nth, over, cl, eI, eP, eT, List.map, List.append, List.drop, List.take]
      refine R.lseq_sil (K.load1 one_138 rfl hq1.ptr) rfl rfl ?_
      try dsimp only [setd, setn, ev, nth, over, cl, eI, eP, eT, List.map, List.append, List.drop, List.take]
      refine R.lseq_sil (K.loadA_p ag_27 rfl o7.ptr rfl) rfl rfl ?_
      try dsimp only [setd, setn, ev, nth, over, cl, eI, eP, eT, List.map, List.append, List.drop, List.take]
      refine R.lseq_yield (u := .agg #[.int .i64 (a.1 + b.1), .int .i64 (a.2 + b.2)]) (post := fun w' bb w1 => R.Step XS J Jx 1 (k + (sb n a (a.1 + b.1, a.2 + b.2)).length) f1 w' bb w1) rfl rfl rfl (fun w' hw' => R.yield_step hR (x := (a.1 + b.1, a.2 + b.2)) (hx _ _ (by rw [hsb]; exact K.app_m)) (hJa _ _ _ _ hJ1 hw'.1)) ?_
      intro w3 hw3 bb w4 hst
      have k3 := R.Keep.below (f := f1) hw3.1
      try dsimp only [setd, setn, ev, nth, over, cl, eI, eP, eT, List.map, List.append, List.drop, List.take]
      cases bb with
      | false =>
        try dsimp only [setd, setn, ev, nth, over, cl, eI, eP, eT, List.map, List.append, List.drop, List.take]
        refine R.lseq_pure (K.pick_t rfl) rfl rfl ?_
        try dsimp only [setd, setn, ev, nth, over, cl, eI, eP, eT, List.map, List.append, List.drop, List.take]
        refine R.lseq_pure K.move rfl rfl ?_
        try dsimp only [setd, setn, ev, nth, over, cl, eI, eP, eT, List.map, List.append, List.drop, List.take]
        refine R.lseq_skip rfl ?_
        try dsimp only [setd, setn, ev, nth, over, cl, eI, eP, eT, List.map, List.append, List.drop, List.take]
        refine R.lseq_skip rfl ?_
        try dsimp only [setd, setn, ev, nth, over, cl, eI, eP, eT, List.map, List.append, List.drop, List.take]
        refine R.lseq_skip rfl ?_
        try dsimp only [setd, setn, ev, nth, over, cl, eI, eP, eT, List.map, List.append, List.drop, List.take]
        refine R.lseq_skip rfl ?_
        try dsimp only [setd, setn, ev, nth, over, cl, eI, eP, eT, List.map, List.append, List.drop, List.take]
        refine R.lseq_pure (K.pick_f rfl) rfl rfl ?_
        try dsimp only [setd, setn, ev, nth, over, cl, eI, eP, eT, List.map, List.append, List.drop, List.take]
        refine R.lseq_pure K.assign rfl rfl ?_
        try dsimp only [setd, setn, ev, nth, over, cl, eI, eP, eT, List.map, List.append, List.drop, List.take]
        refine R.lseq_nil ?_
        refine R.norm_then ?_
        refine R.ret ?_
        refine R.end_ret (fun w _ => K.res_tmp rfl w) ?_
        exact fun w' hw' => ⟨false, rfl, R.Step.fail2 hJxa hst hw'⟩
      | true =>
        rcases hst with ⟨_, f2, hJ2, hk4, hf2⟩ | ⟨h, _⟩
        case inr => cases h
        have hk5 := k3.trans hk4
        replace o5 := o5.keep hk5
        replace o7 := o7.keep hk5
        have hp2 := hp1.keep hk5
        have hq2 := hq1.keep hk5
        have hk6 := hk2.trans hk5
        try dsimp only [setd, setn, ev, nth, over, cl, eI, eP, eT, List.map, List.append, List.drop, List.take]
        refine R.lseq_pure (K.pick_t rfl) rfl rfl ?_
        try dsimp only [setd, setn, ev, nth, over, cl, eI, eP, eT, List.map, List.append, List.drop, List.take]
        refine R.lseq_pure K.move rfl rfl ?_
        try dsimp only [setd, setn, ev, nth, over, cl, eI, eP, eT, List.map, List.append, List.drop, List.take]
        refine R.lseq_sil (K.load1 one_63 rfl hp2.ptr) rfl rfl ?_
        try dsimp only [setd, setn, ev, nth, over, cl, eI, eP, eT, List.map, List.append, List.drop, List.take]
        refine R.lseq_sil (K.loadA_p ag_27 rfl o7.ptr rfl) rfl rfl ?_
        try dsimp only [setd, setn, ev, nth, over, cl, eI, eP, eT, List.map, List.append, List.drop, List.take]
        refine R.lseq_sil (K.loadA_p ag_27 rfl o5.ptr rfl) rfl rfl ?_
        try dsimp only [setd, setn, ev, nth, over, cl, eI, eP, eT, List.map, List.append, List.drop, List.take]
        refine R.lseq_wild (first := []) (cap := [.pointer (some p), .pointer (some q)]) (post := fun w' bb w1 => R.Step XS J Jx (sb n (a.1 + b.1, a.2 + b.2) b).length (k + (sb n a (a.1 + b.1, a.2 + b.2)).length + 1) f2 w' bb w1) rfl cal_91 rfl (fun w' hw' => ih _ _ _ f2 w' (by (try simp only); omega) (by (try simp only); omega) (by (try simp only); omega) (by (try simp only); omega) (hJa _ _ _ _ hJ2 hw'.1) (fun i hi => Nat.lt_of_lt_of_le (hf2 i hi) hw'.1.size) (hp2.keep (R.Keep.below hw'.1)) (hq2.keep (R.Keep.below hw'.1)) (fun i x hi => by
          have := hx (i + (sb n a (a.1 + b.1, a.2 + b.2)).length + 1) x (by rw [hsb]; exact K.app_r hi)
          rw [← this]; congr 1; omega)) ?_
        intro w5 hw5 bb w6 hst
        have k5 := R.Keep.below (f := f2) hw5.1
        try dsimp only [setd, setn, ev, nth, over, cl, eI, eP, eT, List.map, List.append, List.drop, List.take]
        refine R.lseq_pure (K.pick_t rfl) rfl rfl ?_
        try dsimp only [setd, setn, ev, nth, over, cl, eI, eP, eT, List.map, List.append, List.drop, List.take]
        refine R.lseq_pure K.assign rfl rfl ?_
        try dsimp only [setd, setn, ev, nth, over, cl, eI, eP, eT, List.map, List.append, List.drop, List.take]
        refine R.lseq_nil ?_
        refine R.norm_then ?_
        refine R.ret ?_
        refine R.end_ret (fun w _ => K.res_tmp rfl w) ?_
        intro w7 hw7
        refine ⟨bb, rfl, ?_⟩
        cases bb with
        | false => exact R.Step.fail2 hJxa hst hw7
        | true =>
          rcases hst with ⟨_, f3, hJ3, hk7, hf3⟩ | ⟨h, _⟩
          case inr => cases h
          refine .inl ⟨rfl, f3, ?_, (hk6.trans (k5.trans hk7)).trans (R.Keep.below hw7.1), fun i hi => Nat.lt_of_lt_of_le (hf3 i hi) hw7.1.size⟩
          have e : k + (sb (n + 1) a b).length = k + (sb n a (a.1 + b.1, a.2 + b.2)).length + 1 + (sb n (a.1 + b.1, a.2 + b.2) b).length := by
            rw [hsb]; simp; omega
          rw [e]
          exact hJa _ _ _ _ hJ3 hw7.1


end Go.Proofs.Ytafkbioeoklldaa
