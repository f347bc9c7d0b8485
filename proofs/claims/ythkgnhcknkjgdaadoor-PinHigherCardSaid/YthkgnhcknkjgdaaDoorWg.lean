/-
  Walks of the program's functions, printed by program: what each returns.
  Conditions stand in each theorem.
-/
import Derived.WalkArith
import Derived.Laws.Closers25b
import Derived.Test.YthkgnhcknkjgdaaDoorWf
set_option linter.unusedSimpArgs false
set_option linter.unusedVariables false
namespace Go.Proofs.YthkgnhcknkjgdaaDoor
open Go.RowKit Go
open Go.K (setd setn ev nth over cl eI eP eT setM setF)
attribute [local irreducible] K.blk K.row

set_option maxRecDepth 100000 in
theorem c101 {a b : Int} (w : World) (ha : -1000 ≤ a ∧ a ≤ 1000) (hb : -1000 ≤ b ∧ b ≤ 1000) :
    Calls Tryd.prog 101 [.int .i64 a, .int .i64 b].toArray w (K.Gives (.int .i64 (gcdS a b)) w) := by
  refine K.enter (args := [.int .i64 a, .int .i64 b]) Tryd.func101 rfl (n := 13) rfl ?_
  simp only [List.replicate, List.cons_append, List.nil_append]
  refine sr ?_
  refine qa ?_
  refine sn ?_
  refine K.seq ?_
  refine K.block ?_
  refine K.loopW [0, 1] [5, 6, 7, 8, 9, 10] (fun vi L => ∃ a1 b1 : Int, vi = [.int .i64 a1, .int .i64 b1] ∧ L = [] ∧ (-1000 ≤ a1 ∧ a1 ≤ 1000) ∧ (-1000 ≤ b1 ∧ b1 ≤ 1000) ∧ gcdS a1 b1 = gcdS a b) (fun vi => (intOf (K.nth vi 1)).natAbs) ?_ ?_
  · exact ⟨a, b, rfl, rfl, ha, hb, rfl⟩
  intro vi vr L hJ
  obtain ⟨a1, b1, rfl, rfl, h1, h2, he⟩ := hJ
  try dsimp only [setd, setn, ev, nth, over, cl, eI, eP, eT, eN, eS, setM, setF, List.map, List.append, List.drop, List.take]
  refine K.seq ?_
  refine sr ?_
  refine qm ?_
  refine qp (K.neq rfl rfl) ?_
  refine sn ?_
  refine K.cond rfl (fun ht6 => ?_) (fun ht6 => ?_)
  · try replace ht6 := of_decide_eq_true ht6
    refine K.skip ?_
    refine K.norm_then ?_
    refine K.block ?_
    refine K.draw_L [] Tryd_mixed ?_
    refine K.d_pure 0 rfl (K.move) (by kernel_rfl) rfl ?_
    refine zn ?_
    refine K.d_pure 1 rfl (K.move) (by kernel_rfl) rfl ?_
    refine zn ?_
    refine K.d_pure 2 rfl (K.move) (by kernel_rfl) rfl ?_
    refine zn ?_
    refine K.d_pure 3 rfl (K.rem_t rfl rfl (by omega)) (by kernel_rfl) rfl ?_
    refine zn ?_
    refine K.d_pure 4 rfl (K.assign) (by kernel_rfl) rfl ?_
    refine zn ?_
    refine K.d_pure 5 rfl (K.assign) (by kernel_rfl) rfl ?_
    refine zn ?_
    refine K.d_done (by kernel_rfl) ?_
    refine K.norm_block ?_
    have h3 := tmod_lt (a := a1) ht6
    exact K.round_endW (L'' := []) [.int .i64 b1, .int .i64 (a1.tmod b1)] ⟨b1, a1.tmod b1, rfl, rfl, h2, by omega, by rw [gcd_tmod, he]⟩ h3 (List.nil_sublist _) (by kernel_rfl)
  try replace ht6 := of_decide_eq_false ht6
  refine K.exit ?_
  refine K.exit_then ?_
  refine K.exit_then ?_
  refine K.exit_here ?_
  refine K.norm_then ?_
  refine sr ?_
  iterate 2 refine qm ?_
  refine qp (K.neg_i64 rfl (by omega)) ?_
  refine qp (K.max_int rfl rfl) ?_
  refine qa ?_
  refine sn ?_
  refine K.ret ?_
  refine K.end_ret (fun w _ => K.res_tmp rfl w) ?_
  have h0 : b1 = 0 := Decidable.not_not.1 ht6
  exact K.gives_i rfl (by rw [← he, h0, gcd_zero])

set_option maxRecDepth 100000 in
theorem c97 {a b : Int} (w : World) (ha : -1000 ≤ a ∧ a ≤ 1000) (hb : -1000 ≤ b ∧ b ≤ 1000) :
    Calls Tryd.prog 97 [.int .i64 a, .int .i64 b].toArray w (K.Gives (.int .i64 (gcdS a b)) w) := by
  refine K.enter (args := [.int .i64 a, .int .i64 b]) Tryd.func97 rfl (n := 18) rfl ?_
  simp only [List.replicate, List.cons_append, List.nil_append]
  refine sr ?_
  refine qa ?_
  refine sn ?_
  refine sr ?_
  iterate 2 refine qm ?_
  refine qp (K.neg_i64 rfl (by omega)) ?_
  refine qp (K.max_int rfl rfl) ?_
  iterate 2 refine qm ?_
  refine qp (K.neg_i64 rfl (by omega)) ?_
  refine qp (K.max_int rfl rfl) ?_
  iterate 2 refine qa ?_
  refine sn ?_
  refine K.seq ?_
  refine K.block ?_
  refine K.loopW [0, 1] [13, 14, 15, 16, 17, 18] (fun vi L => ∃ a1 b1 : Int, vi = [.int .i64 a1, .int .i64 b1] ∧ L = [] ∧ (0 ≤ a1 ∧ a1 ≤ 1000) ∧ (0 ≤ b1 ∧ b1 ≤ 1000) ∧ gcdS a1 b1 = gcdS a b) (fun vi => (intOf (K.nth vi 1)).natAbs) ?_ ?_
  · exact ⟨max a (-a), max b (-b), rfl, rfl, by omega, by omega, gcd_abs a b⟩
  intro vi vr L hJ
  obtain ⟨a1, b1, rfl, rfl, h1, h2, he⟩ := hJ
  try dsimp only [setd, setn, ev, nth, over, cl, eI, eP, eT, eN, eS, setM, setF, List.map, List.append, List.drop, List.take]
  refine K.seq ?_
  refine sr ?_
  refine qm ?_
  refine qp (K.gtr rfl rfl) ?_
  refine sn ?_
  refine K.cond rfl (fun ht14 => ?_) (fun ht14 => ?_)
  · try replace ht14 := of_decide_eq_true ht14
    refine K.skip ?_
    refine K.norm_then ?_
    refine K.block ?_
    refine K.draw_L [] Tryd_mixed ?_
    refine K.d_pure 0 rfl (K.move) (by kernel_rfl) rfl ?_
    refine zn ?_
    refine K.d_pure 1 rfl (K.move) (by kernel_rfl) rfl ?_
    refine zn ?_
    refine K.d_pure 2 rfl (K.move) (by kernel_rfl) rfl ?_
    refine zn ?_
    refine K.d_pure 3 rfl (K.rem_t rfl rfl (by omega)) (by kernel_rfl) rfl ?_
    refine zn ?_
    refine K.d_pure 4 rfl (K.assign) (by kernel_rfl) rfl ?_
    refine zn ?_
    refine K.d_pure 5 rfl (K.assign) (by kernel_rfl) rfl ?_
    refine zn ?_
    refine K.d_done (by kernel_rfl) ?_
    refine K.norm_block ?_
    have h3 := tmod_lt (a := a1) (b := b1) (by omega)
    have h4 := Int.tmod_nonneg b1 h1.1
    exact K.round_endW (L'' := []) [.int .i64 b1, .int .i64 (a1.tmod b1)] ⟨b1, a1.tmod b1, rfl, rfl, h2, by omega, by rw [gcd_tmod, he]⟩ h3 (List.nil_sublist _) (by kernel_rfl)
  try replace ht14 := of_decide_eq_false ht14
  refine K.exit ?_
  refine K.exit_then ?_
  refine K.exit_then ?_
  refine K.exit_here ?_
  refine K.norm_then ?_
  refine sr ?_
  refine qm ?_
  refine qa ?_
  refine sn ?_
  refine K.ret ?_
  refine K.end_ret (fun w _ => K.res_tmp rfl w) ?_
  have h0 : b1 = 0 := by omega
  exact K.gives_i rfl (by rw [← he, h0, gcd_zero]; omega)

set_option maxRecDepth 100000 in
theorem c73 {m : Mod} {A B C : Option Addr} {c d e : Nat} {b : Nat} {l : List Int} {f : Int} {w : World} (hM : K.PtrL w [] ⟨b, 0, none⟩ (mdl m A B C c d e)) (g : Good m) (hl : LB l) (hf : 0 ≤ f ∧ f ≤ 63) :
    Calls Tryd.prog 73 [.pointer (some ⟨b, 0, none⟩), .agg #[iI (l.getD 0 default), iI (l.getD 1 default), iI (l.getD 2 default), iI (l.getD 3 default), iI (l.getD 4 default), iI (l.getD 5 default)], .int .i64 f].toArray w (K.Gives (.int .i64 (topS m l f)) w) := by
  refine K.enter (args := [.pointer (some ⟨b, 0, none⟩), .agg #[iI (l.getD 0 default), iI (l.getD 1 default), iI (l.getD 2 default), iI (l.getD 3 default), iI (l.getD 4 default), iI (l.getD 5 default)], .int .i64 f]) Tryd.func73 rfl (n := 29) rfl ?_
  simp only [List.replicate, List.cons_append, List.nil_append]
  refine sr ?_
  refine K.seq_new (K.box) rfl ?_
  intro b4
  refine zN ?_
  refine qa ?_
  refine sn ?_
  refine K.seq ?_
  refine sr ?_
  iterate 2 refine qm ?_
  refine qp (K.nilCheck rfl) ?_
  refine qp (K.fieldAddr_lit fo_101_3 rfl) ?_
  refine K.seq_pure (K.indexAddr_ar ar_99 rfl rfl (by omega) (by omega)) rfl ?_
  refine zN ?_
  refine K.seq_sil (K.load_at one_3 rfl hM.any (mdl_pin' hf)) rfl ?_
  refine zN ?_
  refine qa ?_
  refine sn ?_
  refine sr ?_
  refine qm ?_
  refine qp (K.neq rfl rfl) ?_
  refine sn ?_
  refine K.cond rfl (fun ht15 => ?_) (fun ht15 => ?_)
  · try replace ht15 := of_decide_eq_true ht15
    refine K.seq ?_
    obtain ⟨i, hi, hin, _⟩ := pinV_some ht15
    rw [hi]
    dsimp only [pinV]
    have hgn := g.n
    have hh := g.hb f.toNat
    have hli := hl i
    refine K.draw_L [] Tryd_mixed ?_
    refine K.d_pure 0 rfl (K.move) (by kernel_rfl) rfl ?_
    refine zn ?_
    refine K.d_pure 1 rfl (K.move) (by kernel_rfl) rfl ?_
    refine zn ?_
    refine K.d_pure 2 rfl (K.nilCheck rfl) (by kernel_rfl) rfl ?_
    refine zn ?_
    refine K.d_pure 3 rfl (K.fieldAddr_lit fo_101_2 rfl) (by kernel_rfl) rfl ?_
    refine zn ?_
    refine K.d_pure 4 rfl (K.indexAddr_ar ar_99 rfl rfl (by omega) (by omega)) (by kernel_rfl) rfl ?_
    refine zN ?_
    refine K.d_mem 5 rfl (K.load_at one_3 rfl hM.any (mdl_top' hf)) (fun _ h => h) (by kernel_rfl) (by kernel_rfl) rfl ?_
    refine zN ?_
    refine K.d_pure 6 rfl (K.move) (by kernel_rfl) rfl ?_
    refine zn ?_
    refine K.d_pure 7 rfl (K.indexAddr_ar ar_98 rfl rfl (by omega) (by omega)) (by kernel_rfl) rfl ?_
    refine zN ?_
    refine K.d_mem 8 rfl (K.load_at one_3 rfl (K.PtrL.own' ((K.m0))) (ln_at' (l := l) (by omega))) (fun _ h => h) (by kernel_rfl) (by kernel_rfl) rfl ?_
    refine zN ?_
    refine K.d_pure 9 rfl (K.add_i64 rfl rfl (by omega)) (by kernel_rfl) rfl ?_
    refine zn ?_
    refine K.d_pure 10 rfl (K.assign) (by kernel_rfl) rfl ?_
    refine zn ?_
    refine K.d_done (by kernel_rfl) ?_
    refine K.norm_then ?_
    refine K.ret ?_
    refine K.ret_then ?_
    refine K.end_ret (fun w _ => K.res_tmp rfl w) ?_
    exact K.gives_i rfl (by rw [topS_eq, hi])
  try replace ht15 := of_decide_eq_false ht15
  refine K.skip ?_
  refine K.norm_then ?_
  refine sr ?_
  iterate 2 refine qm ?_
  refine qp (K.nilCheck rfl) ?_
  refine qp (K.fieldAddr_lit fo_101_2 rfl) ?_
  refine K.seq_pure (K.indexAddr_ar ar_99 rfl rfl (by omega) (by omega)) rfl ?_
  refine zN ?_
  refine K.seq_sil (K.load_at one_3 rfl hM.any (mdl_top' hf)) rfl ?_
  refine zN ?_
  refine qa ?_
  refine sn ?_
  refine K.ret ?_
  refine K.end_ret (fun w _ => K.res_tmp rfl w) ?_
  exact K.gives_i rfl (by rw [topS_eq, pinV_none ht15]; simp)

set_option maxRecDepth 100000 in
theorem c74 {m : Mod} {A B C : Option Addr} {c d e : Nat} {b : Nat} {l : List Int} {i : Nat} {w : World} (hM : K.PtrL w [] ⟨b, 0, none⟩ (mdl m A B C c d e)) (hP : K.Rd w B 5 eN m.ps) (g : Good m) (hl : LB l) (hi : i < m.ps.length) :
    Calls Tryd.prog 74 [.pointer (some ⟨b, 0, none⟩), .agg #[iI (l.getD 0 default), iI (l.getD 1 default), iI (l.getD 2 default), iI (l.getD 3 default), iI (l.getD 4 default), iI (l.getD 5 default)], .int .i64 (i : Int)].toArray w (K.Gives (.int .i64 (headS m l i)) w) := by
  have hgn := g.n
  have hli := hl i
  have hb := g.fld hi
  unfold fldS at hb
  have hh := g.hb ((m.ps.getD i default).y * m.W + (m.ps.getD i default).x).toNat
  have hm := g.n
  refine K.enter (args := [.pointer (some ⟨b, 0, none⟩), .agg #[iI (l.getD 0 default), iI (l.getD 1 default), iI (l.getD 2 default), iI (l.getD 3 default), iI (l.getD 4 default), iI (l.getD 5 default)], .int .i64 (i : Int)]) Tryd.func74 rfl (n := 33) rfl ?_
  simp only [List.replicate, List.cons_append, List.nil_append]
  refine sr ?_
  refine K.seq_new (K.box) rfl ?_
  intro b4
  refine zN ?_
  refine qa ?_
  refine sn ?_
  refine sr ?_
  refine qm ?_
  refine qp (K.nilCheck rfl) ?_
  refine qp (K.fieldAddr_lit fo_101_0 rfl) ?_
  refine qp (K.fieldAddr_lit fo_26_3 rfl) ?_
  refine K.seq_sil (K.load_at one_23 rfl (hM.any) rfl) rfl ?_
  refine zN ?_
  refine qm ?_
  refine K.seq_ix (M := []) _ hP.sl sl_23 rfl rfl rfl (by omega) rfl ?_
  intro p14 hp14
  refine zN ?_
  refine K.seq_sil (K.loadA_p ag_54 rfl (hp14.any) rfl) rfl ?_
  refine zN ?_
  refine K.seq_new (K.alloc zr_54) rfl ?_
  intro b7
  refine zN ?_
  refine K.seq_st (K.store_all sz_54 rfl rfl rfl rfl (K.rp0)) rfl ?_
  refine zN ?_
  refine sn ?_
  refine K.seq ?_
  refine K.draw_L [] Tryd_mixed ?_
  refine K.d_pure 0 rfl (K.move) (by kernel_rfl) rfl ?_
  refine zn ?_
  refine K.d_pure 1 rfl (K.fieldAddr_lit fo_54_2 rfl) (by kernel_rfl) rfl ?_
  refine zn ?_
  refine K.d_mem 2 rfl (K.load1_own one_3 rfl (K.m0) rfl) (fun _ h => h) (by kernel_rfl) (by kernel_rfl) rfl ?_
  refine zN ?_
  refine K.d_pure 3 rfl (K.move) (by kernel_rfl) rfl ?_
  refine zn ?_
  refine K.d_pure 4 rfl (K.nilCheck rfl) (by kernel_rfl) rfl ?_
  refine zn ?_
  refine K.d_pure 5 rfl (K.fieldAddr_lit fo_101_0 rfl) (by kernel_rfl) rfl ?_
  refine zn ?_
  refine K.d_pure 6 rfl (K.fieldAddr_lit fo_26_0 rfl) (by kernel_rfl) rfl ?_
  refine zn ?_
  refine K.d_mem 7 rfl (K.load_at one_3 rfl (hM.any) rfl) (fun _ h => h) (by kernel_rfl) (by kernel_rfl) rfl ?_
  refine zN ?_
  refine K.d_pure 8 rfl (K.mul_i64 rfl rfl (by omega)) (by kernel_rfl) rfl ?_
  refine zn ?_
  refine K.d_pure 9 rfl (K.fieldAddr_lit fo_54_1 rfl) (by kernel_rfl) rfl ?_
  refine zn ?_
  refine K.d_mem 10 rfl (K.load1_own one_3 rfl (K.m0) rfl) (fun _ h => h) (by kernel_rfl) (by kernel_rfl) rfl ?_
  refine zN ?_
  refine K.d_pure 11 rfl (K.add_i64 rfl rfl (by omega)) (by kernel_rfl) rfl ?_
  refine zn ?_
  refine K.d_pure 12 rfl (K.nilCheck rfl) (by kernel_rfl) rfl ?_
  refine zn ?_
  refine K.d_pure 13 rfl (K.fieldAddr_lit fo_101_2 rfl) (by kernel_rfl) rfl ?_
  refine zn ?_
  refine K.d_pure 14 rfl (K.indexAddr_ar ar_99 rfl rfl (by omega) (by omega)) (by kernel_rfl) rfl ?_
  refine zN ?_
  refine K.d_mem 15 rfl (K.load_at one_3 rfl hM.any (mdl_top' (by omega))) (fun _ h => h) (by kernel_rfl) (by kernel_rfl) rfl ?_
  refine zN ?_
  refine K.d_pure 16 rfl (K.move) (by kernel_rfl) rfl ?_
  refine zn ?_
  refine K.d_pure 17 rfl (K.indexAddr_ar ar_98 rfl rfl (by omega) (by omega)) (by kernel_rfl) rfl ?_
  refine zN ?_
  refine K.d_mem 18 rfl (K.load_at one_3 rfl (K.PtrL.own' ((K.m1))) (ln_at' (l := l) (by omega))) (fun _ h => h) (by kernel_rfl) (by kernel_rfl) rfl ?_
  refine zN ?_
  refine K.d_pure 19 rfl (K.add_i64 rfl rfl (by omega)) (by kernel_rfl) rfl ?_
  refine zn ?_
  refine K.d_pure 20 rfl (K.assign) (by kernel_rfl) rfl ?_
  refine zn ?_
  refine K.d_done (by kernel_rfl) ?_
  refine K.norm_then ?_
  refine K.ret ?_
  refine K.end_ret (fun w _ => K.res_tmp rfl w) ?_
  exact K.gives rfl

/-- The top of a field, as far as the first k pins tell. -/
def topK (m : Mod) (l : List Int) (x y : Int) (k : Nat) : Int := m.hs.getD (y * m.W + x).toNat default + match pinAtK m k (y * m.W + x) with | some i => l.getD i default | none => 0
theorem topK_next {m : Mod} {l : List Int} {x y : Int} {k : Nat} (g : Good m) (hk : k < m.ps.length) (hF : onF m.W m.D x y) : topK m l x y (k + 1) = topK m l x y k + if (m.ps.getD k default).x = x ∧ (m.ps.getD k default).y = y then l.getD k default else 0 := by
  unfold topK
  rw [pinAtK_succ]
  by_cases h : (m.ps.getD k default).x = x ∧ (m.ps.getD k default).y = y
  · have e : fldS m k = y * m.W + x := by unfold fldS; rw [h.1, h.2]
    have e2 : pinAtK m k (y * m.W + x) = none := pinAtK_none.2 (fun j hj he => by
      have := g.fldU (by omega) hk (he.trans e.symm); omega)
    rw [if_pos h, e2, if_pos e]; simp
  · have e : fldS m k ≠ y * m.W + x := fun he => h (fld_inj g.w (g.p k hk).1 hF he)
    rw [if_neg h, if_neg e]; simp
theorem topK_bd {m : Mod} (g : Good m) {l : List Int} (hl : LB l) (x y : Int) (k : Nat) : 0 ≤ topK m l x y k ∧ topK m l x y k ≤ 800 := by
  unfold topK
  have h1 := g.hb (y * m.W + x).toNat
  cases pinAtK m k (y * m.W + x) with
  | none => simp only; omega
  | some i => have := hl i; simp only; omega


set_option maxRecDepth 100000 in
theorem c98 {m : Mod} {A B C : Option Addr} {c d e : Nat} {Q : Option Addr} {q : Nat} {l : List Int} {x y : Int} {w : World} (hH : K.Rd w A 1 K.eI m.hs) (hP : K.Rd w B 5 eN m.ps) (hL : K.Rd w Q 1 K.eI l) (hll : l.length = m.ps.length) (g : Good m) (hl : LB l) (hF : onF m.W m.D x y) :
    Calls Tryd.prog 98 [.agg #[.int .i64 m.W, .int .i64 m.D, .slice A m.hs.length c, .slice B m.ps.length d, .slice C m.ss.length e], .slice Q l.length q, .int .i64 x, .int .i64 y].toArray w (K.Gives (.int .i64 (topS m l (y * m.W + x))) w) := by
  have hfb := fld_bd g.w g.d hF
  have hgl := g.l
  have hgn := g.n
  have hh := g.hb (y * m.W + x).toNat
  refine K.enter (args := [.agg #[.int .i64 m.W, .int .i64 m.D, .slice A m.hs.length c, .slice B m.ps.length d, .slice C m.ss.length e], .slice Q l.length q, .int .i64 x, .int .i64 y]) Tryd.func98 rfl (n := 49) rfl ?_
  simp only [List.replicate, List.cons_append, List.nil_append]
  refine sr ?_
  refine K.seq_new (K.box) rfl ?_
  intro b4
  refine zN ?_
  refine qa ?_
  refine sn ?_
  refine sr ?_
  refine qp (K.fieldAddr_lit fo_26_2 rfl) ?_
  refine K.seq_sil (K.load1_own one_22 rfl (K.m0) rfl) rfl ?_
  refine zN ?_
  refine qm ?_
  refine qp (K.fieldAddr_lit fo_26_0 rfl) ?_
  refine K.seq_sil (K.load1_own one_3 rfl (K.m0) rfl) rfl ?_
  refine zN ?_
  refine qp (K.mul_i64 rfl rfl (by omega)) ?_
  refine qm ?_
  refine qp (K.add_i64 rfl rfl (by omega)) ?_
  refine K.seq_ix (M := []) ((y * m.W + x).toNat) hH.sl sl_22 rfl rfl (by omega) (by omega) rfl ?_
  intro p19 hp19
  refine zN ?_
  refine K.seq_sil (K.load1 one_3 rfl (hp19.any)) rfl ?_
  refine zN ?_
  refine qa ?_
  refine sn ?_
  refine K.seq ?_
  refine sr ?_
  refine qa ?_
  refine sn ?_
  refine K.block ?_
  refine K.loopW [9, 10] [21, 22, 23, 24, 25, 26, 27, 28, 29, 30, 31, 32, 33, 34, 35, 36, 37, 38, 39, 40, 41, 42, 43, 44, 45, 46, 47, 48, 49, 50, 51] (fun vi L => ∃ k : Nat, vi = [.int .i64 (topK m l x y k), .int .i64 (k : Int)] ∧ L = [K.blk b4 26 [.int .i64 m.W, .int .i64 m.D, .slice A m.hs.length c, .slice B m.ps.length d, .slice C m.ss.length e]] ∧ k ≤ m.ps.length) (fun vi => m.ps.length - (intOf (K.nth vi 1)).toNat) ?_ ?_
  · have ht0 : topK m l x y 0 = m.hs.getD (y * m.W + x).toNat default := by simp [topK, pinAtK]
    exact ⟨0, by rw [ht0]; rfl, rfl, Nat.zero_le _⟩
  intro vi vr L hJ
  obtain ⟨k, rfl, rfl, hkn⟩ := hJ
  have htb := topK_bd g hl x y k
  try dsimp only [setd, setn, ev, nth, over, cl, eI, eP, eT, eN, eS, setM, setF, List.map, List.append, List.drop, List.take]
  refine K.seq ?_
  refine sr ?_
  refine qm ?_
  refine qp (K.fieldAddr_lit fo_26_3 rfl) ?_
  refine K.seq_sil (K.load1_own one_23 rfl (K.m0) rfl) rfl ?_
  refine zN ?_
  refine qp (K.len_sl sl_23 rfl) ?_
  refine qp (K.lss rfl rfl) ?_
  refine sn ?_
  refine K.cond rfl (fun ht25 => ?_) (fun ht25 => ?_)
  · try replace ht25 := of_decide_eq_true ht25
    have hk : k < m.ps.length := by omega
    have hlk := hl k
    have hst := topK_next (l := l) g hk hF
    refine K.skip ?_
    refine K.norm_then ?_
    refine K.seq ?_
    refine K.block ?_
    refine sr ?_
    refine qp (K.fieldAddr_lit fo_26_3 rfl) ?_
    refine K.seq_sil (K.load1_own one_23 rfl (K.m0) rfl) rfl ?_
    refine zN ?_
    refine qm ?_
    refine K.seq_ix (M := []) _ hP.sl sl_23 rfl rfl rfl (by omega) rfl ?_
    intro p31 hp31
    refine zN ?_
    refine qp (K.fieldAddr fo_54_1 rfl) ?_
    refine K.seq_sil (K.load1 one_3 rfl ((K.PtrL.fld hp31 (k := 1)).any)) rfl ?_
    refine zN ?_
    refine qm ?_
    refine qp (K.eql rfl rfl) ?_
    refine qm ?_
    refine K.split 36 rfl (fun hg36 => ?_) (fun hg36 => ?_)
    · try replace hg36 := of_decide_eq_true hg36
      refine qp (K.fieldAddr_lit fo_26_3 rfl) ?_
      refine K.seq_sil (K.load1_own one_23 rfl (K.m0) rfl) rfl ?_
      refine zN ?_
      refine qm ?_
      refine K.seq_ix (M := []) _ hP.sl sl_23 rfl rfl rfl (by omega) rfl ?_
      intro p40 hp40
      refine zN ?_
      refine qp (K.fieldAddr fo_54_2 rfl) ?_
      refine K.seq_sil (K.load1 one_3 rfl ((K.PtrL.fld hp40 (k := 2)).any)) rfl ?_
      refine zN ?_
      refine qm ?_
      refine qp (K.eql rfl rfl) ?_
      refine qp (K.pick_t rfl) ?_
      refine sn ?_
      refine K.cond rfl (fun ht45 => ?_) (fun ht45 => ?_)
      · try replace ht45 := of_decide_eq_true ht45
        refine K.region_lit ?_
        iterate 3 refine qm ?_
        refine K.seq_ix (M := []) _ hL.sl sl_22 rfl rfl rfl (by omega) rfl ?_
        intro p49 hp49
        refine zN ?_
        refine K.seq_sil (K.load1 one_3 rfl (hp49.any)) rfl ?_
        refine zN ?_
        refine qp (K.add_i64 rfl rfl (by omega)) ?_
        refine qa ?_
        refine K.seq_nil ?_
        refine K.norm_block ?_
        refine K.norm_then ?_
        refine K.region_lit ?_
        refine qm ?_
        refine qp (K.add_i64 rfl rfl (by omega)) ?_
        refine qa ?_
        refine K.seq_nil ?_
        have hst2 : ∀ v : Int, v = topK m l x y (k + 1) → v = topK m l x y (k + 1) := fun _ h => h
        first
          | (rw [if_pos ⟨hg36, ht45⟩] at hst
             rw [← hst])
          | (rw [if_neg (by omega), Int.add_zero] at hst
             rw [← hst])
        exact K.round_endW (L'' := [K.blk b4 26 [.int .i64 m.W, .int .i64 m.D, .slice A m.hs.length c, .slice B m.ps.length d, .slice C m.ss.length e]]) [.int .i64 (topK m l x y (k + 1)), .int .i64 ((k : Int) + 1)] ⟨k + 1, rfl, rfl, by omega⟩ (by simp [K.nth, intOf]; omega) (List.Sublist.refl _) (by kernel_rfl)
      try replace ht45 := of_decide_eq_false ht45
      refine K.skip ?_
      refine K.norm_block ?_
      refine K.norm_then ?_
      refine K.region_lit ?_
      refine qm ?_
      refine qp (K.add_i64 rfl rfl (by omega)) ?_
      refine qa ?_
      refine K.seq_nil ?_
      have hst2 : ∀ v : Int, v = topK m l x y (k + 1) → v = topK m l x y (k + 1) := fun _ h => h
      first
        | (rw [if_pos ⟨hg36, ht45⟩] at hst
           rw [← hst])
        | (rw [if_neg (by omega), Int.add_zero] at hst
           rw [← hst])
      exact K.round_endW (L'' := [K.blk b4 26 [.int .i64 m.W, .int .i64 m.D, .slice A m.hs.length c, .slice B m.ps.length d, .slice C m.ss.length e]]) [.int .i64 (topK m l x y (k + 1)), .int .i64 ((k : Int) + 1)] ⟨k + 1, rfl, rfl, by omega⟩ (by simp [K.nth, intOf]; omega) (List.Sublist.refl _) (by kernel_rfl)
    try replace hg36 := of_decide_eq_false hg36
    iterate 8 refine qs ?_
    refine qp (K.pick_f rfl) ?_
    refine sn ?_
    refine K.cond_false rfl ?_
    refine K.skip ?_
    refine K.norm_block ?_
    refine K.norm_then ?_
    refine K.region_lit ?_
    refine qm ?_
    refine qp (K.add_i64 rfl rfl (by omega)) ?_
    refine qa ?_
    refine K.seq_nil ?_
    have hst2 : ∀ v : Int, v = topK m l x y (k + 1) → v = topK m l x y (k + 1) := fun _ h => h
    first
      | (rw [if_pos ⟨hg36, ht45⟩] at hst
         rw [← hst])
      | (rw [if_neg (by omega), Int.add_zero] at hst
         rw [← hst])
    exact K.round_endW (L'' := [K.blk b4 26 [.int .i64 m.W, .int .i64 m.D, .slice A m.hs.length c, .slice B m.ps.length d, .slice C m.ss.length e]]) [.int .i64 (topK m l x y (k + 1)), .int .i64 ((k : Int) + 1)] ⟨k + 1, rfl, rfl, by omega⟩ (by simp [K.nth, intOf]; omega) (List.Sublist.refl _) (by kernel_rfl)
  try replace ht25 := of_decide_eq_false ht25
  refine K.exit ?_
  refine K.exit_then ?_
  refine K.exit_then ?_
  refine K.exit_here ?_
  refine K.norm_then ?_
  refine sr ?_
  refine qm ?_
  refine qa ?_
  refine sn ?_
  refine K.ret ?_
  refine K.end_ret (fun w _ => K.res_tmp rfl w) ?_
  have e0 : k = m.ps.length := by omega
  exact K.gives_i rfl (by rw [e0]; rfl)

set_option maxRecDepth 100000 in
theorem c72 {p : Addr} {x y : Int} {i : Int} (w : World) :
    Calls Tryd.prog 72 [.pointer (some p), .agg #[.int .i64 x, .int .i64 y], .int .i64 i].toArray w (K.Ret (fun _ : Nat × Nat × Nat => True) (fun r => .func (.func 100) #[] #[.pointer (some ⟨r.1, 0, none⟩), .pointer (some ⟨r.2.2, 0, none⟩), .pointer (some ⟨r.2.1, 0, none⟩)]) (fun r => [K.blk r.2.2 3 [.int .i64 i], K.blk r.2.1 80 [.int .i64 x, .int .i64 y], K.blk r.1 90 [.pointer (some p)]]) w) := by
  refine K.enter (args := [.pointer (some p), .agg #[.int .i64 x, .int .i64 y], .int .i64 i]) Tryd.func72 rfl (n := 5) rfl ?_
  simp only [List.replicate, List.cons_append, List.nil_append]
  refine sr ?_
  refine K.seq_new (K.box) rfl ?_
  intro b3
  refine zN ?_
  refine K.seq_new (K.box) rfl ?_
  intro b4
  refine zN ?_
  refine K.seq_new (K.box) rfl ?_
  intro b5
  refine zN ?_
  refine qa ?_
  refine sn ?_
  refine sr ?_
  refine K.seq_pure (K.mkFunc) rfl ?_
  refine zN ?_
  refine qa ?_
  refine sn ?_
  refine K.ret ?_
  refine K.end_ret (fun w _ => K.res_tmp rfl w) ?_
  exact K.rets_v (b3, b4, b5) trivial rfl rfl (List.Sublist.refl _)

set_option maxRecDepth 100000 in
theorem c63 {p : Addr} {l : List Int} {x y eye i : Int} (w : World) :
    Calls Tryd.prog 63 [.pointer (some p), .agg #[iI (l.getD 0 default), iI (l.getD 1 default), iI (l.getD 2 default), iI (l.getD 3 default), iI (l.getD 4 default), iI (l.getD 5 default)], .agg #[.int .i64 x, .int .i64 y], .int .i64 eye, .int .i64 i].toArray w (K.Ret (fun _ : Nat × Nat × Nat × Nat × Nat => True) (fun r => .func (.func 96) #[] #[.pointer (some ⟨r.1, 0, none⟩), .pointer (some ⟨r.2.1, 0, none⟩), .pointer (some ⟨r.2.2.2.2, 0, none⟩), .pointer (some ⟨r.2.2.1, 0, none⟩), .pointer (some ⟨r.2.2.2.1, 0, none⟩)]) (fun r => [K.blk r.2.2.2.2 3 [.int .i64 i], K.blk r.2.2.2.1 3 [.int .i64 eye], K.blk r.2.2.1 80 [.int .i64 x, .int .i64 y], K.blk r.2.1 98 (ln l), K.blk r.1 90 [.pointer (some p)]]) w) := by
  refine K.enter (args := [.pointer (some p), .agg #[iI (l.getD 0 default), iI (l.getD 1 default), iI (l.getD 2 default), iI (l.getD 3 default), iI (l.getD 4 default), iI (l.getD 5 default)], .agg #[.int .i64 x, .int .i64 y], .int .i64 eye, .int .i64 i]) Tryd.func63 rfl (n := 7) rfl ?_
  simp only [List.replicate, List.cons_append, List.nil_append]
  refine sr ?_
  refine K.seq_new (K.box) rfl ?_
  intro b5
  refine zN ?_
  refine K.seq_new (K.box) rfl ?_
  intro b6
  refine zN ?_
  refine K.seq_new (K.box) rfl ?_
  intro b7
  refine zN ?_
  refine K.seq_new (K.box) rfl ?_
  intro b8
  refine zN ?_
  refine K.seq_new (K.box) rfl ?_
  intro b9
  refine zN ?_
  refine qa ?_
  refine sn ?_
  refine sr ?_
  refine K.seq_pure (K.mkFunc) rfl ?_
  refine zN ?_
  refine qa ?_
  refine sn ?_
  refine K.ret ?_
  refine K.end_ret (fun w _ => K.res_tmp rfl w) ?_
  exact K.rets_v (b5, b6, b7, b8, b9) trivial rfl rfl (List.Sublist.refl _)

set_option maxRecDepth 100000 in
theorem c64 {m : Mod} {A B C : Option Addr} {c d e : Nat} {b s : Nat} {w : World} (hM : K.PtrL w [] ⟨b, 0, none⟩ (mdl m A B C c d e)) (hS : K.Rd w C 4 eS m.ss) (hs : s < m.ss.length) :
    Calls Tryd.prog 64 [.pointer (some ⟨b, 0, none⟩), .int .i64 (s : Int)].toArray w (K.Gives (.agg #[.int .i64 (m.ss.getD s default).x, .int .i64 (m.ss.getD s default).y]) w) := by
  refine K.enter (args := [.pointer (some ⟨b, 0, none⟩), .int .i64 (s : Int)]) Tryd.func64 rfl (n := 22) rfl ?_
  simp only [List.replicate, List.cons_append, List.nil_append]
  refine sr ?_
  refine K.seq_new (K.alloc zr_80) rfl ?_
  intro b4
  refine zN ?_
  refine sn ?_
  refine K.seq ?_
  refine K.draw_drop 1 [19] Tryd_mixed ?_
  refine K.d_pure 0 rfl (K.move) (by kernel_rfl) rfl ?_
  refine zn ?_
  refine K.d_pure 1 rfl (K.nilCheck rfl) (by kernel_rfl) rfl ?_
  refine zn ?_
  refine K.d_pure 2 rfl (K.fieldAddr_lit fo_101_0 rfl) (by kernel_rfl) rfl ?_
  refine zn ?_
  refine K.d_pure 3 rfl (K.fieldAddr_lit fo_26_4 rfl) (by kernel_rfl) rfl ?_
  refine zn ?_
  refine K.d_mem 4 rfl (K.load_at one_24 rfl (hM.any) rfl) (fun _ h => K.tl h) (by kernel_rfl) (by kernel_rfl) rfl ?_
  refine zN ?_
  refine K.d_pure 5 rfl (K.move) (by kernel_rfl) rfl ?_
  refine zn ?_
  refine K.d_ix (M := []) 6 _ rfl hS.sl sl_24 rfl rfl rfl (by omega) (by kernel_rfl) rfl ?_
  intro p11 hp11
  refine zN ?_
  refine K.d_pure 7 rfl (K.fieldAddr fo_63_0 rfl) (by kernel_rfl) rfl ?_
  refine zn ?_
  refine K.d_mem 8 rfl (K.load1 one_3 rfl ((K.PtrL.fld hp11 (k := 0)).any)) (fun _ h => K.tl h) (by kernel_rfl) (by kernel_rfl) rfl ?_
  refine zN ?_
  refine K.d_pure 9 rfl (K.move) (by kernel_rfl) rfl ?_
  refine zn ?_
  refine K.d_pure 10 rfl (K.nilCheck rfl) (by kernel_rfl) rfl ?_
  refine zn ?_
  refine K.d_pure 11 rfl (K.fieldAddr_lit fo_101_0 rfl) (by kernel_rfl) rfl ?_
  refine zn ?_
  refine K.d_pure 12 rfl (K.fieldAddr_lit fo_26_4 rfl) (by kernel_rfl) rfl ?_
  refine zn ?_
  refine K.d_mem 13 rfl (K.load_at one_24 rfl (hM.any) rfl) (fun _ h => K.tl h) (by kernel_rfl) (by kernel_rfl) rfl ?_
  refine zN ?_
  refine K.d_pure 14 rfl (K.move) (by kernel_rfl) rfl ?_
  refine zn ?_
  refine K.d_ix (M := []) 15 _ rfl hS.sl sl_24 rfl rfl rfl (by omega) (by kernel_rfl) rfl ?_
  intro p20 hp20
  refine zN ?_
  refine K.d_pure 16 rfl (K.fieldAddr fo_63_1 rfl) (by kernel_rfl) rfl ?_
  refine zn ?_
  refine K.d_mem 17 rfl (K.load1 one_3 rfl ((K.PtrL.fld hp20 (k := 1)).any)) (fun _ h => K.tl h) (by kernel_rfl) (by kernel_rfl) rfl ?_
  refine zN ?_
  refine K.d_pure 18 rfl (K.build (bl80 _ _)) (by kernel_rfl) rfl ?_
  refine zN ?_
  refine K.d_last 19 rfl (K.store_all sz_80 rfl rfl rfl rfl (K.rp0)) rfl (by kernel_rfl) rfl ?_
  intro _ _
  refine zN ?_
  refine K.d_done (by kernel_rfl) ?_
  refine K.norm_then ?_
  refine K.ret ?_
  refine K.end_ret (fun w hw => K.res_c rfl rfl (K.run_cellA ag_80 rfl (K.m0) rfl w hw)) ?_
  exact K.gives rfl

end Go.Proofs.YthkgnhcknkjgdaaDoor
