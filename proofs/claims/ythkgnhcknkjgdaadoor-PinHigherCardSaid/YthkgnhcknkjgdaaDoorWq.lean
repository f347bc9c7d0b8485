/-
  Walks of the program's functions, printed by program: what each returns.
  Conditions stand in each theorem.
-/
import Derived.WalkArith
import Derived.Laws.Closers25b
import Derived.Test.YthkgnhcknkjgdaaDoorWp
set_option linter.unusedSimpArgs false
set_option linter.unusedVariables false
namespace Go.Proofs.YthkgnhcknkjgdaaDoor
open Go.RowKit Go
open Go.K (setd setn ev nth over cl eI eP eT setM setF)
attribute [local irreducible] K.blk K.row
theorem bs0 : K.Bs Tryd.prog 22 0 [] 3 [] := fun w => by kernel_rfl
theorem key98 : Tryd.prog.keyTypeAt 10 98 = true := by kernel_rfl
theorem guard98 : Tryd.prog.eqGuardType Tryd.prog.depth 98 = false := by kernel_rfl
theorem form98 (xs : List Int) : (Value.agg (ln xs).toArray).formed Tryd.prog 98 = true := by kernel_rfl
theorem ul3 : Tryd.prog.underlying 3 = some (.int .i64) := by kernel_rfl
theorem ul98 : Tryd.prog.underlying 98 = some (.array 6 3) := by kernel_rfl
theorem co3 : Tryd.prog.cellsOf 3 = 1 := by kernel_rfl
theorem co98 : Tryd.prog.cellsOf 98 = 6 := by kernel_rfl
def lit6 (xs : List Int) : List Lit := [.int .i64 (xs.getD 0 default), .int .i64 (xs.getD 1 default), .int .i64 (xs.getD 2 default), .int .i64 (xs.getD 3 default), .int .i64 (xs.getD 4 default), .int .i64 (xs.getD 5 default)]
theorem lits98 {xs : List Int} (h : ∀ i, -1000000 ≤ xs.getD i default ∧ xs.getD i default ≤ 1000000) : Tryd.prog.keyLits 5 98 (Value.agg (ln xs).toArray).cells.toList = some (lit6 xs) := by
  have w : ∀ i, (Lit.int .i64 (xs.getD i default)).wf = true := fun i => WalkArith.wf_i64 (by have := h i; omega)
  have e : (Value.agg (ln xs).toArray).cells.toList = ln xs := rfl
  rw [e]
  unfold Program.keyLits
  rw [ul98]
  have e2 : List.range 6 = [0, 1, 2, 3, 4, 5] := rfl
  have e3 : ∀ i, i < 6 → ((ln xs).drop (i * 1)).take 1 = [.int .i64 (xs.getD i default)] := fun i hi => by
    have : i = 0 ∨ i = 1 ∨ i = 2 ∨ i = 3 ∨ i = 4 ∨ i = 5 := by omega
    rcases this with h | h | h | h | h | h <;> subst h <;> rfl
  have el : (ln xs).length = 6 := rfl
  simp only [co98, co3, el, if_true, e2, List.mapM_cons, List.mapM_nil, e3 0 (by omega), e3 1 (by omega), e3 2 (by omega), e3 3 (by omega), e3 4 (by omega), e3 5 (by omega), K.keyLits_i64 ul3 (w _)]
  rfl
theorem lit6_inj {a b : List Int} (ha : a.length = 6) (hb : b.length = 6) : lit6 a = lit6 b ↔ a = b := by
  constructor
  · intro h
    simp only [lit6, List.cons.injEq, Lit.int.injEq, true_and, and_true] at h
    obtain ⟨h0, h1, h2, h3, h4, h5⟩ := h
    refine ext6 ha hb (fun i hi => ?_)
    have : i = 0 ∨ i = 1 ∨ i = 2 ∨ i = 3 ∨ i = 4 ∨ i = 5 := by omega
    rcases this with h | h | h | h | h | h <;> subst h <;> assumption
  · rintro rfl; rfl
theorem nx_bd {m : Mod} {l : List Int} (g : Good m) (hl : LB l) {k : Nat} (hk : k ≤ m.ps.length) (i : Nat) : 0 ≤ (nxK m l k).getD i default ∧ (nxK m l k).getD i default ≤ 21601 := by
  have h1 := hl i
  rcases Nat.lt_or_ge i 6 with hi | hi
  · rw [nx_at hi]
    split
    · have h2 := needK_bd g hl (i := i) (by omega) (Nat.le_refl m.ss.length)
      have h3 : needS m l i = needK m l i m.ss.length := rfl
      omega
    · omega
  · rw [nx_out (by omega)]; omega

set_option maxRecDepth 100000 in
set_option maxHeartbeats 2000000 in
theorem c75 {m : Mod} {A B C : Option Addr} {c d e : Nat} {b : Nat} {w : World} (hM : K.PtrL w [] ⟨b, 0, none⟩ (mdl m A B C c d e)) (hMb : b < w.heap.size) (hP : K.Rd w B 5 eN m.ps) (hS : K.Rd w C 4 eS m.ss) (g : Good m) :
    Calls Tryd.prog 75 [.pointer (some ⟨b, 0, none⟩)].toArray w (K.Gives (.tuple #[.agg (ln (roundsS m).1).toArray, .int .i64 (roundsS m).2.1, .int .i64 (roundsS m).2.2]) w) := by
  have hgn := g.n
  refine K.enter (args := [.pointer (some ⟨b, 0, none⟩)]) Tryd.func75 rfl (n := 64) rfl ?_
  simp only [List.replicate, List.cons_append, List.nil_append]
  refine sr ?_
  refine K.seq_new (K.alloc zr_98) rfl ?_
  intro b2
  refine zN ?_
  iterate 2 refine qa ?_
  refine sn ?_
  refine K.scope ?_
  refine sr ?_
  refine qm ?_
  refine qp (K.nilCheck rfl) ?_
  refine qp (K.fieldAddr_lit fo_101_1 rfl) ?_
  refine K.seq_sil (K.loadA_p ag_98 rfl (K.PtrL.lit (hM.any) (k := 5)) rfl) rfl ?_
  refine zN ?_
  refine K.seq_st (K.store_all sz_98 rfl rfl rfl rfl (K.rp0)) rfl ?_
  refine zN ?_
  refine sn ?_
  refine K.seq ?_
  refine K.label ?_
  refine K.norm_then ?_
  refine K.seq ?_
  refine K.block ?_
  refine K.loopW [3] [4, 5, 6, 7, 8, 9, 14, 15, 16, 17, 18, 19, 20, 21, 22, 23, 24, 25, 26, 27, 28, 29, 30, 31, 32, 33, 34, 35, 36, 37, 38, 39, 40, 41, 42, 43, 44, 45, 46, 47, 48, 49, 50, 51, 52, 53, 54, 55, 56, 57, 58, 59, 60, 61, 62, 63] (fun vi L => ∃ (l : List Int) (r : Nat), vi = [.int .i64 (r : Int)] ∧ L = [K.blk b2 98 (ln l)] ∧ l.length = 6 ∧ LB l ∧ (r : Int) ≤ l.sum ∧ rndS m (1801 - r) l (r : Int) = roundsS m) (fun vi => 1801 - (intOf (K.nth vi 0)).toNat) ?_ ?_
  · exact ⟨own6 m, 0, rfl, by rw [own6_ln]; rfl, own6_len, own6_lb g, (lb_sum (own6_lb g) own6_len).1, rfl⟩
  intro vi vr L hJ
  obtain ⟨l, r, rfl, rfl, h6, hlb, hr, hrn⟩ := hJ
  have hsum := lb_sum hlb h6
  try dsimp only [setd, setn, ev, nth, over, cl, eI, eP, eT, eN, eS, setM, setF, List.map, List.append, List.drop, List.take]
  refine K.block ?_
  refine sr ?_
  refine qm ?_
  refine qp (K.add_i64 rfl rfl (by omega)) ?_
  refine qa ?_
  refine sn ?_
  refine sr ?_
  refine K.seq_sil (K.loadA_own ag_98 rfl (K.m0) rfl) rfl ?_
  refine zN ?_
  refine K.seq_new (K.alloc zr_98) rfl ?_
  intro b5
  refine zN ?_
  refine K.seq_st (K.store_all sz_98 rfl rfl rfl rfl (K.rp0)) rfl ?_
  refine zN ?_
  refine sn ?_
  refine sr ?_
  refine qm ?_
  refine K.seq_pure (K.mkFunc) rfl ?_
  refine zN ?_
  refine qa ?_
  refine sn ?_
  refine K.seq ?_
  refine sr ?_
  refine qm ?_
  refine qp (K.nilCheck rfl) ?_
  refine qp (K.fieldAddr_lit fo_101_0 rfl) ?_
  refine qp (K.fieldAddr_lit fo_26_3 rfl) ?_
  refine K.seq_sil (K.load_at one_23 rfl (hM.any) rfl) rfl ?_
  refine zN ?_
  refine qp (K.len_sl sl_23 rfl) ?_
  refine qm ?_
  refine sn ?_
  refine K.block ?_
  refine K.loopW [25] [7, 26, 27, 28, 29, 30, 31, 32, 33, 34, 35, 36, 37, 38] (fun vi L => ∃ k : Nat, vi = [.int .i64 (k : Int)] ∧ L = [K.blk b5 98 (ln (nxK m l k)), K.blk b2 98 (ln l)] ∧ k ≤ m.ps.length) (fun vi => m.ps.length - (intOf (K.nth vi 0)).toNat) ?_ ?_
  · exact ⟨0, rfl, by rw [nx_0]; rfl, Nat.zero_le _⟩
  intro vi vr L hJ
  obtain ⟨k, rfl, rfl, hkn⟩ := hJ
  try dsimp only [setd, setn, ev, nth, over, cl, eI, eP, eT, eN, eS, setM, setF, List.map, List.append, List.drop, List.take]
  refine sr ?_
  refine qp (K.lss rfl rfl) ?_
  refine sn ?_
  refine K.seq ?_
  refine K.cond rfl (fun ht26 => ?_) (fun ht26 => ?_)
  · try replace ht26 := of_decide_eq_true ht26
    have hk : k < m.ps.length := by omega
    have hnb := nx_bd g hlb hkn k
    have hnd := needK_bd g hlb (i := k) hk (Nat.le_refl m.ss.length)
    have hns : needS m l k = needK m l k m.ss.length := rfl
    refine K.skip ?_
    refine K.norm_then ?_
    refine K.seq ?_
    refine K.block ?_
    refine sr ?_
    refine qm ?_
    refine qa ?_
    refine sn ?_
    refine K.draw_L [10] Tryd_mixed ?_
    refine K.d_pure 0 rfl (K.move) (by kernel_rfl) rfl ?_
    refine zn ?_
    refine K.d_pure 1 rfl (K.move) (by kernel_rfl) rfl ?_
    refine zn ?_
    refine K.d_pure 2 rfl (K.indexAddr_ar ar_98 rfl rfl (by omega) (by omega)) (by kernel_rfl) rfl ?_
    refine zN ?_
    refine K.d_mem 3 rfl (K.load_at one_3 rfl (K.PtrL.own' ((K.m0))) (ln_at' (l := nxK m l k) (by omega))) (fun _ h => h) (by kernel_rfl) (by kernel_rfl) rfl ?_
    refine zN ?_
    refine K.d_pure 4 rfl (K.move) (by kernel_rfl) rfl ?_
    refine zn ?_
    refine K.d_mem 5 rfl (K.loadA_own ag_98 rfl (K.m1) rfl) (fun _ h => h) (by kernel_rfl) (by kernel_rfl) rfl ?_
    refine zN ?_
    refine K.d_pure 6 rfl (K.move) (by kernel_rfl) rfl ?_
    refine zn ?_
    refine K.d_call 7 rfl (K.callv_g (first := [.pointer (some ⟨b, 0, none⟩)]) (cap := []) rfl cal_102 (fun F w hF hw => c102 (hM.into hMb hw) (K.lt_into hMb hw) (hP.pass hw) (hS.pass hw) g hlb hk)) (fun _ h => h) (by kernel_rfl) rfl ?_
    refine zN ?_
    refine K.d_pure 8 rfl (K.max_int rfl rfl) (by kernel_rfl) rfl ?_
    refine zn ?_
    refine K.d_pure 9 rfl (K.indexAddr_ar ar_98 rfl rfl (by omega) (by omega)) (by kernel_rfl) rfl ?_
    refine zN ?_
    refine K.d_last 10 rfl (K.store_ix sz_3 rfl rfl (by show 0 + ((k : Int)).toNat * 1 + 1 ≤ 6; omega) rfl (K.rp0)) rfl (by kernel_rfl) rfl ?_
    intro _ _
    refine zN ?_
    rw [show 0 + ((k : Int)).toNat * 1 = k by omega, ln_set (by omega) nx_len, nx_set (by omega)]
    refine zN ?_
    refine K.d_done (by kernel_rfl) ?_
    refine K.norm_block ?_
    refine K.norm_then ?_
    refine K.region_lit ?_
    refine qp (K.add_i64 rfl rfl (by omega)) ?_
    refine qm ?_
    refine K.seq_nil ?_
    exact K.round_endW (L'' := [K.blk b5 98 (ln (nxK m l (k + 1))), K.blk b2 98 (ln l)]) [.int .i64 ((k : Int) + 1)] ⟨k + 1, rfl, rfl, by omega⟩ (by simp [K.nth, intOf]; omega) (by repeat (first | exact List.Sublist.refl _ | apply List.Sublist.cons)) (by kernel_rfl)
  try replace ht26 := of_decide_eq_false ht26
  refine K.exit ?_
  refine K.exit_then ?_
  refine K.exit_then ?_
  refine K.exit_here ?_
  refine K.norm_then ?_
  refine K.seq ?_
  refine K.seq ?_
  have e0 : k = m.ps.length := by omega
  subst e0
  have en : nxK m l m.ps.length = nextS m l := rfl
  rw [en]
  refine K.region_lit ?_
  refine qm ?_
  refine qp (K.nilCheck rfl) ?_
  refine qp (K.fieldAddr_lit fo_101_0 rfl) ?_
  refine qp (K.fieldAddr_lit fo_26_3 rfl) ?_
  refine K.seq_sil (K.load_at one_23 rfl (hM.any) rfl) rfl ?_
  refine zN ?_
  refine qp (K.len_sl sl_23 rfl) ?_
  refine qm ?_
  refine sn ?_
  refine K.block ?_
  refine K.loopW [3, 45] [4, 8, 9, 46, 47, 48, 49, 50, 51, 52, 53, 54, 55, 56, 57, 58, 59] (fun vi L => ∃ j : Nat, vi = [.int .i64 ((r : Int) + 1), .int .i64 (j : Int)] ∧ L = [K.blk b5 98 (ln (nextS m l)), K.blk b2 98 (ln l)] ∧ j ≤ m.ps.length ∧ ∀ i, i < j → ¬ (nextS m l).getD i default > (m.ps.getD i default).most) (fun vi => m.ps.length - (intOf (K.nth vi 1)).toNat) ?_ ?_
  · exact ⟨0, rfl, rfl, Nat.zero_le _, fun j hj => absurd hj (Nat.not_lt_zero j)⟩
  intro vi vr L hJ
  obtain ⟨j, rfl, rfl, hjn, hall⟩ := hJ
  try dsimp only [setd, setn, ev, nth, over, cl, eI, eP, eT, eN, eS, setM, setF, List.map, List.append, List.drop, List.take]
  refine sr ?_
  refine qp (K.lss rfl rfl) ?_
  refine sn ?_
  refine K.seq ?_
  refine K.cond rfl (fun ht46 => ?_) (fun ht46 => ?_)
  · try replace ht46 := of_decide_eq_true ht46
    have hj : j < m.ps.length := by omega
    refine K.skip ?_
    refine K.norm_then ?_
    refine K.seq ?_
    refine K.block ?_
    refine sr ?_
    refine qm ?_
    refine K.seq_ix (M := []) _ hP.sl sl_23 rfl rfl rfl (by omega) rfl ?_
    intro p48 hp48
    refine zN ?_
    refine K.seq_sil (K.loadA_p ag_54 rfl (hp48.any) rfl) rfl ?_
    refine zN ?_
    refine K.seq_new (K.alloc zr_54) rfl ?_
    intro b9
    refine zN ?_
    refine qa ?_
    refine K.seq_st (K.store_all sz_54 rfl rfl rfl rfl (K.rp0)) rfl ?_
    refine zN ?_
    refine sn ?_
    refine K.seq ?_
    refine K.draw_L [] Tryd_mixed ?_
    refine K.d_pure 0 rfl (K.move) (by kernel_rfl) rfl ?_
    refine zn ?_
    refine K.d_pure 1 rfl (K.indexAddr_ar ar_98 rfl rfl (by omega) (by omega)) (by kernel_rfl) rfl ?_
    refine zN ?_
    refine K.d_mem 2 rfl (K.load_at one_3 rfl (K.PtrL.own' ((K.m1))) (ln_at' (l := nextS m l) (by omega))) (fun _ h => h) (by kernel_rfl) (by kernel_rfl) rfl ?_
    refine zN ?_
    refine K.d_pure 3 rfl (K.fieldAddr_lit fo_54_4 rfl) (by kernel_rfl) rfl ?_
    refine zn ?_
    refine K.d_mem 4 rfl (K.load1_own one_3 rfl (K.m0) rfl) (fun _ h => h) (by kernel_rfl) (by kernel_rfl) rfl ?_
    refine zN ?_
    refine K.d_pure 5 rfl (K.gtr rfl rfl) (by kernel_rfl) rfl ?_
    refine zn ?_
    refine K.d_done (by kernel_rfl) ?_
    refine K.norm_then ?_
    refine K.cond rfl (fun ht55 => ?_) (fun ht55 => ?_)
    · try replace ht55 := of_decide_eq_true ht55
      refine sr ?_
      refine K.seq_sil (K.loadA_own ag_98 rfl (K.m2) rfl) rfl ?_
      refine zN ?_
      iterate 2 refine qm ?_
      refine K.seq_st (K.store_all sz_98 rfl rfl rfl rfl (K.rp2)) rfl ?_
      refine zN ?_
      iterate 2 refine qa ?_
      refine sn ?_
      refine K.ret ?_
      refine K.ret_block ?_
      refine K.ret_then ?_
      refine K.ret_then ?_
      refine K.ret_block ?_
      refine K.ret_then ?_
      refine K.ret_block ?_
      refine K.ret_then ?_
      refine K.ret_block ?_
      refine K.ret_then ?_
      refine R.ng_ret ?_
      refine K.end_ret (fun w hw => K.res_ctt rfl rfl (K.run_cellA ag_98 rfl (K.m2) rfl w hw)) ?_
      have ht := too_some hj hall ht55
      exact K.gives (by rw [← hrn, show 1801 - r = (1800 - r) + 1 by omega, rnd_some ht]; rfl)
    try replace ht55 := of_decide_eq_false ht55
    refine K.skip ?_
    refine K.norm_block ?_
    refine K.norm_then ?_
    refine K.region_lit ?_
    refine qp (K.add_i64 rfl rfl (by omega)) ?_
    refine qm ?_
    refine K.seq_nil ?_
    exact K.round_endW (L'' := [K.blk b5 98 (ln (nextS m l)), K.blk b2 98 (ln l)]) [.int .i64 ((r : Int) + 1), .int .i64 ((j : Int) + 1)] ⟨j + 1, rfl, rfl, by omega, K.lt_succ_case hall ht55⟩ (by simp [K.nth, intOf]; omega) (by repeat (first | exact List.Sublist.refl _ | apply List.Sublist.cons)) (by kernel_rfl)
  try replace ht46 := of_decide_eq_false ht46
  have hno : tooF m (nextS m l) = none := too_none.2 (fun i hi => hall i (by omega))
  refine K.exit ?_
  refine K.exit_then ?_
  refine K.exit_then ?_
  refine K.exit_here ?_
  refine K.norm_then ?_
  refine K.seq ?_
  refine sr ?_
  refine K.seq_sil (K.loadA_own ag_98 rfl (K.m0) rfl) rfl ?_
  refine zN ?_
  refine K.seq_sil (K.loadA_own ag_98 rfl (K.m1) rfl) rfl ?_
  refine zN ?_
  refine qp (K.eql_key (m := 5) (a := .agg (ln (nextS m l)).toArray) (b := .agg (ln l).toArray) key98 guard98 rfl rfl (form98 _) (form98 _) (lits98 (fun i => by have := nx_bd g hlb (Nat.le_refl _) i; unfold nextS; omega)) (lits98 (fun i => by have := hlb i; omega)) ⟨_, _, rfl, rfl⟩ (decide (nextS m l = l)) (by rw [decide_eq_true_iff, lit6_inj (show (nextS m l).length = 6 from nx_len) h6])) ?_
  refine sn ?_
  refine K.cond rfl (fun ht62 => ?_) (fun ht62 => ?_)
  · try replace ht62 := of_decide_eq_true ht62
    refine K.exit ?_
    refine K.exit_then ?_
    refine K.exit_out rfl ?_
    refine K.exit_then ?_
    refine K.exit_here ?_
    refine K.norm_then ?_
    refine sr ?_
    refine K.seq_sil (K.loadA_own ag_98 rfl (K.m1) rfl) rfl ?_
    refine zN ?_
    refine K.seq_st (K.store_all sz_98 rfl rfl rfl rfl (K.rp1)) rfl ?_
    refine zN ?_
    iterate 2 refine qa ?_
    refine sn ?_
    refine K.ret ?_
    refine R.ng_ret ?_
    refine K.end_ret (fun w hw => K.res_ctt rfl rfl (K.run_cellA ag_98 rfl (K.m1) rfl w hw)) ?_
    exact K.gives (by rw [← hrn, show 1801 - r = (1800 - r) + 1 by omega, rnd_end hno ht62]; rfl)
  try replace ht62 := of_decide_eq_false ht62
  refine K.skip ?_
  refine K.norm_then ?_
  refine K.region_lit ?_
  refine K.seq_sil (K.loadA_own ag_98 rfl (K.m0) rfl) rfl ?_
  refine zN ?_
  refine K.seq_st (K.store_all sz_98 rfl rfl rfl rfl (K.rp1)) rfl ?_
  refine zN ?_
  refine K.seq_nil ?_
  refine K.norm_block ?_
  have hsm := next_sum h6 ht62
  have hlt : 1801 - (r + 1) < 1801 - r := by omega
  exact K.round_endW (L'' := [K.blk b2 98 (ln (nextS m l))]) [.int .i64 ((r : Int) + 1)] ⟨nextS m l, r + 1, rfl, rfl, nx_len, next_lb g hlb hno, by omega, by
    rw [← hrn, show 1801 - r = (1801 - (r + 1)) + 1 by omega, rnd_next hno ht62]; rfl⟩ (by simp [K.nth, intOf]; omega) (by repeat (first | exact List.Sublist.refl _ | apply List.Sublist.cons)) (by kernel_rfl)

set_option maxRecDepth 100000 in
theorem c76 {Q : Option Addr} {q : Nat} {xs : List Int} {w : World} (hL : K.Rd w Q 1 K.eI xs) (hx : xs.length ≤ 1000000) :
    Calls Tryd.prog 76 [.slice Q xs.length q].toArray w (K.RetS 3 1 K.eI xs w) := by
  refine K.enter (args := [.slice Q xs.length q]) Tryd.func76 rfl (n := 7) rfl ?_
  simp only [List.replicate, List.cons_append, List.nil_append]
  refine sr ?_
  refine qa ?_
  refine sn ?_
  refine K.seq ?_
  refine sr ?_
  refine qm ?_
  refine qp (K.eql_slnil sl_22 rfl) ?_
  refine sn ?_
  refine K.cond rfl (fun ht4 => ?_) (fun ht4 => ?_)
  · try replace ht4 := of_decide_eq_true ht4
    refine sr ?_
    refine qa ?_
    refine sn ?_
    refine K.ret ?_
    refine K.ret_then ?_
    refine K.end_ret (fun w _ => K.res_tmp rfl w) ?_
    have hx0 : xs = [] := by
      cases Q with
      | none => exact hL.isNil
      | some a => cases ht4
    exact K.rets_s0 hx0 rfl
  try replace ht4 := of_decide_eq_false ht4
  refine K.skip ?_
  refine K.norm_then ?_
  refine sr ?_
  refine K.seq_new (K.buildSlice (bs0)) rfl ?_
  intro b5
  refine zN ?_
  refine qm ?_
  refine K.blk_row0 (size := 1) ?_
  refine K.seq_upd (K.appendS el_22 rfl rfl hL.sl (fun _ => rfl) (K.oneI _) (by omega) (by omega) (fun _ _ => K.rp0)) rfl ?_
  rintro ⟨A7, c7⟩ _
  refine zN ?_
  refine qa ?_
  refine sn ?_
  refine K.ret ?_
  refine K.end_ret (fun w _ => K.res_tmp rfl w) ?_
  exact K.rets_s K.m0 (by rw [Nat.zero_add]) (by rw [List.nil_append]) (by rw [Nat.zero_add]; rfl)

end Go.Proofs.YthkgnhcknkjgdaaDoor
