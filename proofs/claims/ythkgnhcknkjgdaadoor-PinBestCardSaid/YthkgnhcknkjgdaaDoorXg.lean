/-
  Walks of the program's functions, printed by program: what each returns.
  Conditions stand in each theorem.
-/
import Derived.WalkArith
import Derived.Laws.Closers25b
import Derived.Test.YthkgnhcknkjgdaaDoorS7
import Derived.Test.YthkgnhcknkjgdaaDoorK8
import Derived.Test.YthkgnhcknkjgdaaDoorK9
import Derived.Test.YthkgnhcknkjgdaaDoorWa
set_option linter.unusedSimpArgs false
set_option linter.unusedVariables false
namespace Go.Proofs.YthkgnhcknkjgdaaDoor
open Go.RowKit Go
open Go.K (setd setn ev nth over cl eI eP eT setM setF)
attribute [local irreducible] K.blk K.row
theorem bs128 (A : Option Addr) (n c : Nat) : K.Bs Tryd.prog 128 1 [(0, .slice A n c)] 22 [.slice A n c] := fun w => by kernel_rfl
theorem vi_app {A : Option Addr} {c : Nat} {vs us : List Value} {x y : Int} (h : x = y) : [Value.slice A (vs.length + us.length) c, .int .i64 x] = [.slice A (vs ++ us).length c, .int .i64 y] := by rw [List.length_append, h]

set_option maxRecDepth 100000 in
theorem z84 {f n : Int} (w : World) :
    Calls Tryd.prog 84 [.int .i64 f, .int .i64 n, .int .i64 0].toArray w (K.Ret (fun _ : Nat => True) (fun r => .slice (some ⟨r, 0, none⟩) 1 1) (fun r => [K.blk r 22 [.slice none 0 0]]) w) := by
  refine K.enter (args := [.int .i64 f, .int .i64 n, .int .i64 0]) Tryd.func84 rfl (n := 40) rfl ?_
  simp only [List.replicate, List.cons_append, List.nil_append]
  refine sr ?_
  refine qa ?_
  refine sn ?_
  refine K.seq ?_
  refine sr ?_
  refine qm ?_
  refine qp (K.eql rfl rfl) ?_
  refine sn ?_
  refine K.cond rfl (fun ht12 => ?_) (fun ht12 => ?_)
  · try replace ht12 := of_decide_eq_true ht12
    refine sr ?_
    refine K.seq_new (K.buildSlice (bs128 _ _ _)) rfl ?_
    intro b13
    refine zN ?_
    refine qa ?_
    refine sn ?_
    refine K.ret ?_
    refine K.ret_then ?_
    refine K.end_ret (fun w _ => K.res_tmp rfl w) ?_
    exact K.rets b13 trivial rfl (List.Sublist.refl _)
  try replace ht12 := of_decide_eq_false ht12
  exact absurd rfl ht12

set_option maxRecDepth 100000 in
set_option maxHeartbeats 1000000 in
theorem s84 {m : Nat} {n : Int} (hm8 : m + 1 ≤ 8) (hn8 : n ≤ 8) (ih : ∀ {f : Int} {w : World}, 0 ≤ f → f ≤ 9 → Calls Tryd.prog 84 [.int .i64 f, .int .i64 n, .int .i64 (m : Int)].toArray w (K.RetLL (lsF m f n) w)) {f : Int} {w : World} (hf : 0 ≤ f) (hf9 : f ≤ 9) :
    Calls Tryd.prog 84 [.int .i64 f, .int .i64 n, .int .i64 ((m + 1 : Nat) : Int)].toArray w (K.RetLL (lsF (m + 1) f n) w) := by
  refine K.enter (args := [.int .i64 f, .int .i64 n, .int .i64 ((m + 1 : Nat) : Int)]) Tryd.func84 rfl (n := 40) rfl ?_
  simp only [List.replicate, List.cons_append, List.nil_append]
  refine sr ?_
  refine qa ?_
  refine sn ?_
  refine K.seq ?_
  refine sr ?_
  refine qm ?_
  refine qp (K.eql rfl rfl) ?_
  refine sn ?_
  refine K.cond rfl (fun ht12 => ?_) (fun ht12 => ?_)
  · try replace ht12 := of_decide_eq_true ht12
    exact absurd ht12 (by omega)
  try replace ht12 := of_decide_eq_false ht12
  refine K.skip ?_
  refine K.norm_then ?_
  refine sr ?_
  refine qa ?_
  refine sn ?_
  refine K.seq ?_
  refine sr ?_
  refine K.inn_none [] [] rfl (by simp) ?_
  refine K.nil_row (e := 22) (size := 1) ?_
  refine qm ?_
  refine qa ?_
  refine sn ?_
  refine K.block ?_
  refine K.loopW [7, 8] [9, 10, 15, 16, 17, 18, 19, 20, 21, 22, 23, 24, 25, 26, 27, 28, 29, 30, 31, 32, 33, 34, 35, 36, 37, 38, 39, 40, 41] (fun vi L => ∃ (k : Nat) (Q1 : Option Addr) (q1 : Nat) (vs : List Value) (F : Nat → Prop), vi = [.slice Q1 vs.length q1, .int .i64 (f + (k : Int))] ∧ L = [K.row (.slice Q1 vs.length q1) 22 1 vs.length (vs.flatMap K.eV), K.inn F vs (partF m f n k)] ∧ vs.all Value.oneCell' = true ∧ vs.length = (partF m f n k).length ∧ k ≤ (n - f).toNat) (fun vi => (n - intOf (K.nth vi 1)).toNat) ?_ ?_
  · exact ⟨0, none, 0, [], fun _ => False, by rw [show ((0 : Nat) : Int) = 0 from rfl, Int.add_zero]; rfl, rfl, rfl, rfl, Nat.zero_le _⟩
  intro vi vr L hJ
  obtain ⟨k, Q1, q1, vs, F, rfl, rfl, hvo, hvl, hkn⟩ := hJ
  try dsimp only [setd, setn, ev, nth, over, cl, eI, eP, eT, eN, eS, setM, setF, List.map, List.append, List.drop, List.take]
  refine K.seq ?_
  refine sr ?_
  iterate 2 refine qm ?_
  refine qp (K.lss rfl rfl) ?_
  refine sn ?_
  refine K.cond rfl (fun ht17 => ?_) (fun ht17 => ?_)
  · try replace ht17 := of_decide_eq_true ht17
    have hk : k < (n - f).toNat := by omega
    have hpl := partF_len (m := m) (f := f) (n := n) (k := k) hn8 hf (by omega) (by omega)
    refine K.skip ?_
    refine K.norm_then ?_
    refine K.seq ?_
    refine K.block ?_
    refine sr ?_
    refine qm ?_
    refine qp (K.add_i64 rfl rfl (by omega)) ?_
    iterate 2 refine qm ?_
    refine qp (K.Pure.eq (K.sub_i64 rfl rfl (by omega)) (by rw [show ((m + 1 : Nat) : Int) - 1 = (m : Int) by omega])) ?_
    refine K.seq_loud (K.call_f cal_84 (fun F w hF hw => ih (by omega) (by omega))) rfl ?_
    rintro ⟨A25, c25, vs2, F2⟩ ⟨hvo2, hvl2⟩
    refine zN ?_
    have hvl2' : vs2.length = (lsF m (f + (k : Int) + 1) n).length := hvl2
    have hZl := lsF_len (m := m) (f := f + (k : Int) + 1) (n := n) hn8 (by omega) (by omega)
    refine K.use_row K.m0 (fun hA25 => ?_)
    refine zN ?_
    refine qa ?_
    refine sn ?_
    refine sr ?_
    refine K.permH (L' := [_, _, _, _]) (List.Perm.trans (List.perm_middle (l₁ := [_, _])) (List.Perm.cons _ (List.Perm.trans (List.perm_middle (l₁ := [_, _])) (List.Perm.cons _ (List.Perm.refl _))))) ?_
    refine qa ?_
    refine sn ?_
    refine K.block ?_
    refine K.loopW [7, 10] [26, 27, 28, 29, 30, 31, 32, 33, 34, 35, 36, 37, 38, 39, 40, 41] (fun vi L => ∃ (i : Nat) (Q2 : Option Addr) (q2 : Nat) (vs3 : List Value) (F3 : Nat → Prop), vi = [.slice Q2 vs3.length q2, .int .i64 (i : Int)] ∧ L = [K.row (.slice Q2 vs3.length q2) 22 1 vs3.length (vs3.flatMap K.eV), K.inn F3 vs3 ((partF m f n k) ++ ((lsF m (f + (k : Int) + 1) n).take i).map (List.cons (f + (k : Int)))), K.row (.slice A25 vs2.length c25) 22 1 vs2.length (vs2.flatMap K.eV), K.inn F2 vs2 (lsF m (f + (k : Int) + 1) n)] ∧ vs3.all Value.oneCell' = true ∧ vs3.length = (partF m f n k).length + i ∧ i ≤ (lsF m (f + (k : Int) + 1) n).length) (fun vi => (lsF m (f + (k : Int) + 1) n).length - (intOf (K.nth vi 1)).toNat) ?_ ?_
    · exact ⟨0, Q1, q1, vs, F, rfl, by rw [List.take_zero, List.map_nil, List.append_nil], hvo, hvl, Nat.zero_le _⟩
    intro vi vr L hJ
    obtain ⟨i, Q2, q2, vs3, F3, rfl, rfl, hvo3, hvl3, hil⟩ := hJ
    try dsimp only [setd, setn, ev, nth, over, cl, eI, eP, eT, eN, eS, setM, setF, List.map, List.append, List.drop, List.take]
    refine K.seq ?_
    refine sr ?_
    iterate 2 refine qm ?_
    refine qp (K.len_sl sl_128 rfl) ?_
    refine qp (K.lss rfl rfl) ?_
    refine sn ?_
    refine K.cond rfl (fun ht29 => ?_) (fun ht29 => ?_)
    · try replace ht29 := of_decide_eq_true ht29
      have hi : i < (lsF m (f + (k : Int) + 1) n).length := by omega
      have hzl : ((lsF m (f + (k : Int) + 1) n).getD i default).length = m := lsF_ln (K.gt_mem hi)
      refine K.use_innS (i := i) K.m3 hi (fun A3 c3 hv3 hsl => ?_)
      refine K.skip ?_
      refine K.norm_then ?_
      refine K.seq ?_
      refine K.block ?_
      refine K.region_lit ?_
      iterate 2 refine qm ?_
      refine K.seq_new (K.buildSlice (bs1 _)) rfl ?_
      intro b34
      refine zN ?_
      refine K.blk_row (n := 1) (size := 1) rfl (by decide) ?_
      refine zN ?_
      iterate 2 refine qm ?_
      refine K.seq_ix (M := [K.row (.slice A25 vs2.length c25) 22 1 vs2.length (vs2.flatMap K.eV)]) _ (K.Sl.own (w0 := w) (t := 22) (c := c25) (size := 1) (e := K.eV) hA25 (fun _ => rfl)) sl_128 rfl rfl rfl (by omega) rfl ?_
      intro p37 hp37
      refine zN ?_
      refine K.seq_sil ((K.load1 one_22 rfl (hp37.at1 (K.m3))).cast hv3) rfl ?_
      refine zN ?_
      refine K.seq_upd (K.appendS el_22 rfl rfl (hsl.at1 (K.m4)) (fun _ => rfl) (K.oneI _) (by omega) (by omega) (fun _ _ => K.rp0)) rfl ?_
      rintro ⟨A39, c39⟩ _
      refine zN ?_
      rw [show 1 + ((lsF m (f + (k : Int) + 1) n).getD i default).length = ((f + (k : Int)) :: ((lsF m (f + (k : Int) + 1) n).getD i default)).length by rw [List.length_cons, Nat.add_comm], show [Value.int .i64 (f + (k : Int))] ++ ((lsF m (f + (k : Int) + 1) n).getD i default).flatMap K.eI = ((f + (k : Int)) :: ((lsF m (f + (k : Int) + 1) n).getD i default)).flatMap K.eI from rfl]
      refine zN ?_
      refine K.seq_new (K.buildSlice (bs128 _ _ _)) rfl ?_
      intro b40
      refine zN ?_
      refine K.seq_upd (K.append el_128 rfl rfl (K.PtrL.own' K.m0) rfl rfl (by decide) (by omega) (by omega) (fun _ _ => K.rp2)) rfl ?_
      rintro ⟨g41, c41⟩ _
      refine zN ?_
      refine qa ?_
      refine K.seq_nil ?_
      refine K.norm_block ?_
      refine K.norm_then ?_
      refine K.region_lit ?_
      refine qm ?_
      refine qp (K.add_i64 rfl rfl (by omega)) ?_
      refine qa ?_
      refine K.seq_nil ?_
      refine K.use_row K.m1 (fun hA39 => ?_)
      refine K.weak (L' := [K.row (.slice A39 ((f + (k : Int)) :: ((lsF m (f + (k : Int) + 1) n).getD i default)).length c39) 3 1 ((f + (k : Int)) :: ((lsF m (f + (k : Int) + 1) n).getD i default)).length (((f + (k : Int)) :: ((lsF m (f + (k : Int) + 1) n).getD i default)).flatMap K.eI), K.row (.slice (some ⟨g41, 0, none⟩) (vs3.length + 1) c41) 22 1 (vs3.length + 1) (vs3.flatMap K.eV ++ [(.slice A39 ((f + (k : Int)) :: ((lsF m (f + (k : Int) + 1) n).getD i default)).length c39)]), K.inn F3 vs3 ((partF m f n k) ++ ((lsF m (f + (k : Int) + 1) n).take i).map (List.cons (f + (k : Int)))), K.row (.slice A25 vs2.length c25) 22 1 vs2.length (vs2.flatMap K.eV), K.inn F2 vs2 (lsF m (f + (k : Int) + 1) n)]) (List.Sublist.cons _ (List.Sublist.refl _)) ?_
      refine K.row_inn hA39 ?_
      refine K.reorder (.trans (.cons _ (.swap _ _ _)) (.swap _ _ _)) ?_
      refine K.inn_app ?_
      refine K.reorder (.swap _ _ _) ?_
      have hz1 : ((partF m f n k) ++ ((lsF m (f + (k : Int) + 1) n).take (i + 1)).map (List.cons (f + (k : Int)))) = ((partF m f n k) ++ ((lsF m (f + (k : Int) + 1) n).take i).map (List.cons (f + (k : Int)))) ++ [((f + (k : Int)) :: ((lsF m (f + (k : Int) + 1) n).getD i default))] := by rw [take_succ_map _ hi, List.append_assoc]
      exact K.round_endW (vi := _) [.slice (some ⟨g41, 0, none⟩) (vs3.length + 1) c41, .int .i64 ((i : Int) + 1)] ⟨i + 1, some ⟨g41, 0, none⟩, c41, vs3 ++ [(.slice A39 ((f + (k : Int)) :: ((lsF m (f + (k : Int) + 1) n).getD i default)).length c39)], _, vi_app (us := [(.slice A39 ((f + (k : Int)) :: ((lsF m (f + (k : Int) + 1) n).getD i default)).length c39)]) (by omega), by rw [hz1, List.length_append, List.flatMap_append]; rfl, by rw [List.all_append, hvo3]; rfl, by rw [List.length_append]; simp only [List.length_singleton]; omega, by omega⟩ (by simp [K.nth, intOf]; omega) (List.Sublist.refl _) (by kernel_rfl)
    try replace ht29 := of_decide_eq_false ht29
    refine K.exit ?_
    refine K.exit_then ?_
    refine K.exit_then ?_
    refine K.exit_here ?_
    refine K.norm_block ?_
    refine K.norm_then ?_
    refine K.region_lit ?_
    refine qm ?_
    refine qp (K.add_i64 rfl rfl (by omega)) ?_
    refine qa ?_
    refine K.seq_nil ?_
    have hii : i = (lsF m (f + (k : Int) + 1) n).length := by omega
    have hz2 : ((partF m f n k) ++ ((lsF m (f + (k : Int) + 1) n).take i).map (List.cons (f + (k : Int)))) = partF m f n (k + 1) := by rw [partF_succ, List.take_of_length_le (by omega)]
    exact K.round_endW (L'' := [K.row (.slice Q2 vs3.length q2) 22 1 vs3.length (vs3.flatMap K.eV), K.inn F3 vs3 ((partF m f n k) ++ ((lsF m (f + (k : Int) + 1) n).take i).map (List.cons (f + (k : Int))))]) [.slice Q2 vs3.length q2, .int .i64 ((f + (k : Int)) + 1)] ⟨k + 1, Q2, q2, vs3, F3, by rw [show (f + (k : Int)) + 1 = f + ((k + 1 : Nat) : Int) by omega], by rw [hz2], hvo3, by rw [partF_succ, List.length_append, List.length_map]; omega, by omega⟩ (by simp [K.nth, intOf]; omega) (List.Sublist.cons_cons _ (List.Sublist.cons_cons _ (List.nil_sublist _))) (by kernel_rfl)
  try replace ht17 := of_decide_eq_false ht17
  refine K.exit ?_
  refine K.exit_then ?_
  refine K.exit_then ?_
  refine K.exit_here ?_
  refine K.norm_then ?_
  refine sr ?_
  refine qm ?_
  refine qa ?_
  refine sn ?_
  refine K.ret ?_
  refine K.end_ret (fun w _ => K.res_tmp rfl w) ?_
  have hkk : k = (n - f).toNat := by omega
  rw [← partF_all, ← hkk]
  exact K.rets (Q1, q1, vs, F) ⟨hvo, hvl⟩ rfl (List.Sublist.refl _)

theorem c84 {n : Int} (hn8 : n ≤ 8) : ∀ (m : Nat), m ≤ 8 → ∀ {f : Int} {w : World}, 0 ≤ f → f ≤ 9 → Calls Tryd.prog 84 [.int .i64 f, .int .i64 n, .int .i64 (m : Int)].toArray w (K.RetLL (lsF m f n) w)
  | 0, _, f, w, _, _ => by
    refine (z84 (f := f) (n := n) w).mono fun e w' h => ?_
    obtain ⟨r, _, he, hst⟩ := h
    have key : K.Hold w [K.blk r 22 [.slice none 0 0]] (fun w' => K.St w [K.row (.slice (some ⟨r, 0, none⟩) 1 1) 22 1 1 [.slice none 0 0], K.inn (fun _ => False) [.slice none 0 0] [[]]] w') :=
      K.blk_row (n := 1) (size := 1) rfl (by decide) (K.inn_none [.slice none 0 0] [[]] rfl (fun i z hz => by
        cases i with
        | zero => simp at hz; exact ⟨hz, none, 0, rfl⟩
        | succ i => simp at hz) (K.reorder (.swap _ _ _) (fun w h => h)))
    exact ⟨(some ⟨r, 0, none⟩, 1, [.slice none 0 0], fun _ => False), ⟨rfl, rfl⟩, he, key w' hst⟩
  | m + 1, hm, _, _, hf, hf9 => s84 (by omega) hn8 (fun h1 h2 => c84 hn8 m (by omega) h1 h2) hf hf9
/-- All lists of so many points. -/
theorem n84 {m n : Nat} (hm : m ≤ 8) (hn8 : n ≤ 8) (w : World) : Calls Tryd.prog 84 [.int .i64 0, .int .i64 n, .int .i64 m].toArray w (K.RetLL (listsS m [] n) w) := by
  rw [lists_nil]
  exact c84 (by omega) m hm (by omega) (by omega)


end Go.Proofs.YthkgnhcknkjgdaaDoor
