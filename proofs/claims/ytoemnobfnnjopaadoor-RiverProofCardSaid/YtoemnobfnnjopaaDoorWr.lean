/-
  Walks of the program's functions, printed by program: what each returns.
  Conditions stand in each theorem.
-/
import Derived.WalkArith
import Derived.Laws.Closers25b
import Derived.Test.YtoemnobfnnjopaaDoorWq
set_option linter.unusedSimpArgs false
set_option linter.unusedVariables false
namespace Go.Proofs.YtoemnobfnnjopaaDoor
open Go.RowKit Go
open Go.K (setd setn ev nth over cl eI eP eT setM setF)
attribute [local irreducible] K.blk K.row
theorem run_l {r : List RvT} {h : List Int} (e : h.length ≠ r.length) : runB r h = false := by
  cases hb : runB r h with
  | false => rfl
  | true => exact absurd (runs_iff.1 hb).l e
theorem run_b {r : List RvT} {h : List Int} {i : Nat} (hi : i < h.length) (e : ¬ (0 ≤ h.getD i default ∧ h.getD i default ≤ 9000)) : runB r h = false := by
  cases hb : runB r h with
  | false => rfl
  | true => have := runs_iff.1 hb; exact absurd (this.b i (by rw [← this.l]; exact hi)) e
theorem run_s {r : List RvT} {h : List Int} (e : h.length = r.length) (hb : ∀ i, i < h.length → 0 ≤ h.getD i default ∧ h.getD i default ≤ 9000) : decide (((badS r h).length : Int) = 0) = runB r h := by
  have h2 : (List.range h.length).all (fun i => decide (0 ≤ h.getD i default ∧ h.getD i default ≤ 9000)) = true := List.all_eq_true.2 fun i hi => decide_eq_true (hb i (List.mem_range.1 hi))
  unfold runB
  rw [decide_eq_true e, h2, Bool.and_self, Bool.true_and, Bool.eq_iff_iff, decide_eq_true_eq, List.isEmpty_iff, ← List.length_eq_zero_iff]
  omega
theorem map_s {f : Nat → Int} {n : Nat} : (List.range (n + 1)).map f = (List.range n).map f ++ [f n] := by rw [List.range_succ, List.map_append]; rfl
theorem map_l {f : Nat → Int} {n : Nat} : ((List.range n).map f).length = n := by rw [List.length_map, List.length_range]
theorem bad_mem {r : List RvT} {h : List Int} {i : Nat} (hi : i < r.length) : ((i : Nat) : Int) ∈ badS r h ↔ badB r h i = true := by
  unfold badS
  rw [mem_sel]
  constructor
  · rintro ⟨j, _, hb, e⟩
    rwa [show i = j by omega]
  · intro hb; exact ⟨i, hi, hb, rfl⟩
theorem fill_bd {r : List RvT} {h : List Int} {i k : Nat} (g : Good r) (hl : h.length = r.length) (hi : i < r.length) (hb : ∀ j, j < r.length → -100000 ≤ h.getD j default ∧ h.getD j default ≤ 100000) : -100000 ≤ fillF r h i k ∧ fillF r h i k ≤ 104500 := by
  have h0 := hb i hi
  refine ⟨by have := fill_ge0 (r := r) (h := h) (i := i) k; omega, fill_le (by omega) (fun k hk => ?_) k⟩
  have := drp_bd (k := k) g hi
  have hk2 := drp_lt g hi hk
  have := hb k hk2
  omega
theorem carve_bd {r : List RvT} {h : List Int} {i : Nat} (g : Good r) (hl : h.length = r.length) (hi : i < r.length) (hb : ∀ j, j < r.length → -100000 ≤ h.getD j default ∧ h.getD j default ≤ 100000) {k : Nat} (hk : k ≤ r.length) : -104500 ≤ carveF r h i k ∧ carveF r h i k ≤ 100000 := by
  have h0 := hb i hi
  refine ⟨carve_ge (by omega) k (fun j hj hd => ?_), by have := carve_le0 (r := r) (h := h) (i := i) k; omega⟩
  have := drp_bd (k := i) g (show j < r.length by omega)
  have := hb j (by omega)
  omega

set_option maxRecDepth 100000 in
theorem c39 {r : List RvT} {A : Option Addr} {c : Nat} {H : Option Addr} {d : Nat} {hs : List Int} {w : World} (hR : K.Rd w A 4 eR r) (hH : K.Rd w H 1 K.eI hs) (g : Good r) (hn : hs.length ≤ 1000000) :
    Calls Tryd.prog 39 [.slice A r.length c, .slice H hs.length d].toArray w (K.Gives (.bool (runB r hs)) w) := by
  refine K.enter (args := [.slice A r.length c, .slice H hs.length d]) Tryd.func39 rfl (n := 26) rfl ?_
  simp only [List.replicate, List.cons_append, List.nil_append]
  refine sr ?_
  refine qa ?_
  refine sn ?_
  refine K.seq ?_
  refine sr ?_
  refine qm ?_
  refine qp (K.len_sl sl_26 rfl) ?_
  refine qm ?_
  refine qp (K.len_sl sl_22 rfl) ?_
  refine qp (K.neq rfl rfl) ?_
  refine sn ?_
  refine K.cond rfl (fun ht10 => ?_) (fun ht10 => ?_)
  · try replace ht10 := of_decide_eq_true ht10
    refine sr ?_
    refine qa ?_
    refine sn ?_
    refine K.ret ?_
    refine K.ret_then ?_
    refine K.end_ret (fun w _ => K.res_tmp rfl w) ?_
    exact K.gives_b rfl (run_l (by omega)).symm
  try replace ht10 := of_decide_eq_false ht10
  have hlen : hs.length = r.length := by omega
  refine K.skip ?_
  refine K.norm_then ?_
  refine K.seq ?_
  refine sr ?_
  refine qa ?_
  refine sn ?_
  refine K.block ?_
  refine K.loopW [5] [4, 11, 12, 13, 14, 15, 16, 17, 18, 19, 20, 21, 22] (fun vi L => ∃ i : Nat, vi = [.int .i64 (i : Int)] ∧ L = [] ∧ i ≤ hs.length ∧ ∀ j, j < i → 0 ≤ hs.getD j default ∧ hs.getD j default ≤ 9000) (fun vi => hs.length - (intOf (K.nth vi 0)).toNat) ?_ ?_
  · exact ⟨0, rfl, rfl, Nat.zero_le _, fun j hj => absurd hj (Nat.not_lt_zero j)⟩
  intro vi vr L hJ
  obtain ⟨i, rfl, rfl, hin, hall⟩ := hJ
  try dsimp only [setd, setn, ev, nth, over, cl, eI, eP, eT, eR, setM, setF, List.map, List.append, List.drop, List.take]
  refine K.seq ?_
  refine sr ?_
  iterate 2 refine qm ?_
  refine qp (K.len_sl sl_26 rfl) ?_
  refine qp (K.lss rfl rfl) ?_
  refine sn ?_
  refine K.cond rfl (fun ht14 => ?_) (fun ht14 => ?_)
  · try replace ht14 := of_decide_eq_true ht14
    have hi : i < hs.length := by omega
    refine K.skip ?_
    refine K.norm_then ?_
    refine K.seq ?_
    refine K.block ?_
    refine sr ?_
    iterate 2 refine qm ?_
    refine K.seq_ix (M := []) _ hH.sl sl_26 rfl rfl rfl (by omega) rfl ?_
    intro p19 hp19
    refine zN ?_
    refine K.seq_sil (K.load1 one_3 rfl (hp19.any)) rfl ?_
    refine zN ?_
    refine K.seq_call (K.call_g cal_49 (fun F w hF hw => c49 w)) rfl ?_
    refine zN ?_
    first | refine K.seq_pure (K.not_d rfl) rfl ?_ | refine K.seq_pure (K.not_ rfl) rfl ?_
    refine zN ?_
    refine sn ?_
    refine K.cond rfl (fun ht22 => ?_) (fun ht22 => ?_)
    · try replace ht22 := of_decide_eq_true ht22
      refine sr ?_
      refine qa ?_
      refine sn ?_
      refine K.ret ?_
      refine K.ret_block ?_
      refine K.ret_then ?_
      refine K.ret_then ?_
      refine K.ret_block ?_
      refine K.ret_then ?_
      refine K.end_ret (fun w _ => K.res_tmp rfl w) ?_
      exact K.gives_b rfl (run_b hi (by simpa using ht22)).symm
    try replace ht22 := of_decide_eq_false ht22
    refine K.skip ?_
    refine K.norm_block ?_
    refine K.norm_then ?_
    refine K.region_lit ?_
    refine qm ?_
    refine qp (K.add_i64 rfl rfl (by omega)) ?_
    refine qa ?_
    refine K.seq_nil ?_
    have hok : 0 ≤ hs.getD i default ∧ hs.getD i default ≤ 9000 := by simpa using ht22
    exact K.round_endW (L'' := []) [.int .i64 ((i : Int) + 1)] ⟨i + 1, rfl, rfl, by omega, K.lt_succ_case hall hok⟩ (by simp [K.nth, intOf]; omega) (List.nil_sublist _) (by kernel_rfl)
  try replace ht14 := of_decide_eq_false ht14
  refine K.exit ?_
  refine K.exit_then ?_
  refine K.exit_then ?_
  refine K.exit_here ?_
  refine K.norm_then ?_
  refine sr ?_
  iterate 2 refine qm ?_
  refine K.seq_loud (K.call_f cal_55 (fun F w hF hw => c55 (hR.pass hw) (hH.pass hw) hlen g (fun j hj => by have := hall j (by omega); omega))) rfl ?_
  rintro ⟨Q1, q1⟩ hq1
  refine zN ?_
  refine qp (K.len_sl sl_26 rfl) ?_
  refine qp (K.eql rfl rfl) ?_
  refine qa ?_
  refine sn ?_
  refine K.ret ?_
  refine K.end_ret (fun w _ => K.res_tmp rfl w) ?_
  exact K.gives_b rfl (run_s hlen (fun j hj => hall j (by omega)))

set_option maxRecDepth 100000 in
theorem c58 {r : List RvT} {A : Option Addr} {c : Nat} {H : Option Addr} {d : Nat} {hs : List Int} {w : World} (hR : K.Rd w A 4 eR r) (hH : K.Rd w H 1 K.eI hs) (hl : hs.length = r.length) (g : Good r) (hb : ∀ j, j < r.length → -100000 ≤ hs.getD j default ∧ hs.getD j default ≤ 100000) :
    Calls Tryd.prog 58 [.slice A r.length c, .slice H hs.length d].toArray w (K.RetS 3 1 K.eI (fillS r hs) w) := by
  have hgn := g.n
  refine K.enter (args := [.slice A r.length c, .slice H hs.length d]) Tryd.func58 rfl (n := 43) rfl ?_
  simp only [List.replicate, List.cons_append, List.nil_append]
  refine sr ?_
  refine qa ?_
  refine sn ?_
  refine sr ?_
  refine qa ?_
  refine sn ?_
  refine K.seq ?_
  refine sr ?_
  refine K.nil_row (e := 3) (size := 1) ?_
  refine qa ?_
  refine sn ?_
  refine K.block ?_
  refine K.loopW [5, 6] [7, 8, 9, 10, 11, 12, 13, 14, 15, 16, 17, 18, 19, 20, 21, 22, 23, 24, 25, 26, 27, 28, 29, 30, 31, 32, 33, 34, 35, 36, 37, 38, 39, 40, 41, 42, 43] (fun vi L => ∃ (i : Nat) (Q1 : Option Addr) (q1 : Nat), vi = [.slice Q1 ((List.range i).map fun i => fillF r hs i r.length).length q1, .int .i64 (i : Int)] ∧ L = [K.row (.slice Q1 ((List.range i).map fun i => fillF r hs i r.length).length q1) 3 1 ((List.range i).map fun i => fillF r hs i r.length).length (((List.range i).map fun i => fillF r hs i r.length).flatMap K.eI)] ∧ i ≤ r.length) (fun vi => r.length - (intOf (K.nth vi 1)).toNat) ?_ ?_
  · exact ⟨0, none, 0, rfl, rfl, Nat.zero_le _⟩
  intro vi vr L hJ
  obtain ⟨i, Q1, q1, rfl, rfl, hin⟩ := hJ
  try dsimp only [setd, setn, ev, nth, over, cl, eI, eP, eT, eR, setM, setF, List.map, List.append, List.drop, List.take]
  refine K.seq ?_
  refine sr ?_
  iterate 2 refine qm ?_
  refine qp (K.len_sl sl_22 rfl) ?_
  refine qp (K.lss rfl rfl) ?_
  refine sn ?_
  refine K.cond rfl (fun ht13 => ?_) (fun ht13 => ?_)
  · try replace ht13 := of_decide_eq_true ht13
    have hi : i < r.length := by omega
    have hsl : ((List.range i).map fun i => fillF r hs i r.length).length = i := map_l
    refine K.skip ?_
    refine K.norm_then ?_
    refine K.seq ?_
    refine K.block ?_
    refine sr ?_
    iterate 2 refine qm ?_
    refine K.seq_ix (M := []) _ hH.sl sl_26 rfl rfl rfl (by omega) rfl ?_
    intro p18 hp18
    refine zN ?_
    refine K.seq_sil (K.load1 one_3 rfl (hp18.any)) rfl ?_
    refine zN ?_
    refine qa ?_
    refine sn ?_
    refine K.seq ?_
    refine sr ?_
    refine qa ?_
    refine sn ?_
    refine K.block ?_
    refine K.loopW [7, 8] [9, 20, 21, 22, 23, 24, 25, 26, 27, 28, 29, 30, 31, 32, 33, 34, 35, 36, 37, 38, 39] (fun vi L => ∃ k : Nat, vi = [.int .i64 (fillF r hs i k), .int .i64 (k : Int)] ∧ L = [K.row (.slice Q1 ((List.range i).map fun i => fillF r hs i r.length).length q1) 3 1 ((List.range i).map fun i => fillF r hs i r.length).length (((List.range i).map fun i => fillF r hs i r.length).flatMap K.eI)] ∧ k ≤ r.length) (fun vi => r.length - (intOf (K.nth vi 1)).toNat) ?_ ?_
    · exact ⟨0, rfl, rfl, Nat.zero_le _⟩
    intro vi vr L hJ
    obtain ⟨k, rfl, rfl, hkn⟩ := hJ
    try dsimp only [setd, setn, ev, nth, over, cl, eI, eP, eT, eR, setM, setF, List.map, List.append, List.drop, List.take]
    refine K.seq ?_
    refine sr ?_
    iterate 2 refine qm ?_
    refine qp (K.len_sl sl_22 rfl) ?_
    refine qp (K.lss rfl rfl) ?_
    refine sn ?_
    refine K.cond rfl (fun ht23 => ?_) (fun ht23 => ?_)
    · try replace ht23 := of_decide_eq_true ht23
      have hk : k < r.length := by omega
      have hfb := fill_bd (k := k) g hl hi hb
      have hdb := drp_bd (k := k) g hi
      have hbk := hb k hk
      refine K.skip ?_
      refine K.norm_then ?_
      refine K.seq ?_
      refine K.block ?_
      refine sr ?_
      iterate 3 refine qm ?_
      refine K.seq_call (K.call_g cal_37 (fun F w hF hw => c37 (hR.pass hw) g hi)) rfl ?_
      refine zN ?_
      refine qa ?_
      refine sn ?_
      refine sr ?_
      refine qm ?_
      refine qp (K.geq rfl rfl) ?_
      refine sn ?_
      refine K.cond rfl (fun ht31 => ?_) (fun ht31 => ?_)
      · try replace ht31 := of_decide_eq_true ht31
        refine K.region_lit ?_
        iterate 3 refine qm ?_
        refine K.seq_ix (M := []) _ hH.sl sl_26 rfl rfl rfl (by omega) rfl ?_
        intro p35 hp35
        refine zN ?_
        refine K.seq_sil (K.load1 one_3 rfl (hp35.any)) rfl ?_
        refine zN ?_
        refine qm ?_
        refine qp (K.add_i64 rfl rfl (by omega)) ?_
        refine qp (K.max_int rfl rfl) ?_
        refine qa ?_
        refine K.seq_nil ?_
        refine K.norm_block ?_
        refine K.norm_then ?_
        refine K.region_lit ?_
        refine qm ?_
        refine qp (K.add_i64 rfl rfl (by omega)) ?_
        refine qa ?_
        refine K.seq_nil ?_
        have hfs : (fillF r hs i (k + 1)) = max (fillF r hs i k) (hs.getD k default + drp r i k) := by rw [fill_s, if_pos (by omega)]
        exact K.round_endW (L'' := [K.row (.slice Q1 ((List.range i).map fun i => fillF r hs i r.length).length q1) 3 1 ((List.range i).map fun i => fillF r hs i r.length).length (((List.range i).map fun i => fillF r hs i r.length).flatMap K.eI)]) [.int .i64 (max (fillF r hs i k) (hs.getD k default + drp r i k)), .int .i64 ((k : Int) + 1)] ⟨k + 1, by rw [hfs]; rfl, rfl, by omega⟩ (by simp [K.nth, intOf]; omega) (List.Sublist.refl _) (by kernel_rfl)
      try replace ht31 := of_decide_eq_false ht31
      refine K.skip ?_
      refine K.norm_block ?_
      refine K.norm_then ?_
      refine K.region_lit ?_
      refine qm ?_
      refine qp (K.add_i64 rfl rfl (by omega)) ?_
      refine qa ?_
      refine K.seq_nil ?_
      have hfs : (fillF r hs i (k + 1)) = (fillF r hs i k) := by rw [fill_s, if_neg (by omega)]
      exact K.round_endW (L'' := [K.row (.slice Q1 ((List.range i).map fun i => fillF r hs i r.length).length q1) 3 1 ((List.range i).map fun i => fillF r hs i r.length).length (((List.range i).map fun i => fillF r hs i r.length).flatMap K.eI)]) [.int .i64 (fillF r hs i k), .int .i64 ((k : Int) + 1)] ⟨k + 1, by rw [hfs]; rfl, rfl, by omega⟩ (by simp [K.nth, intOf]; omega) (List.Sublist.refl _) (by kernel_rfl)
    try replace ht23 := of_decide_eq_false ht23
    have hkr : k = r.length := by omega
    subst hkr
    refine K.exit ?_
    refine K.exit_then ?_
    refine K.exit_then ?_
    refine K.exit_here ?_
    refine K.norm_then ?_
    refine K.region_lit ?_
    iterate 2 refine qm ?_
    refine K.seq_new (K.buildSlice (bs1 _)) rfl ?_
    intro b42
    refine zN ?_
    refine K.seq_upd (K.append el_26 rfl rfl (K.PtrL.own' (K.m0)) rfl rfl (by decide) (by omega) (by omega) (fun _ _ => K.rp1)) rfl ?_
    rintro ⟨g43, c43⟩ _
    refine zN ?_
    refine qa ?_
    refine K.seq_nil ?_
    refine K.norm_block ?_
    refine K.norm_then ?_
    refine K.region_lit ?_
    refine qm ?_
    refine qp (K.add_i64 rfl rfl (by omega)) ?_
    refine qa ?_
    refine K.seq_nil ?_
    have hsn : ((List.range (i + 1)).map fun i => fillF r hs i r.length) = ((List.range i).map fun i => fillF r hs i r.length) ++ [(fillF r hs i r.length)] := map_s
    exact K.round_endW (L'' := [K.row (.slice (some ⟨g43, 0, none⟩) (((List.range i).map fun i => fillF r hs i r.length).length + 1) c43) 3 1 (((List.range i).map fun i => fillF r hs i r.length).length + 1) (((List.range i).map fun i => fillF r hs i r.length).flatMap K.eI ++ [.int .i64 (fillF r hs i r.length)])]) [.slice (some ⟨g43, 0, none⟩) (((List.range i).map fun i => fillF r hs i r.length).length + 1) c43, .int .i64 ((i : Int) + 1)] ⟨i + 1, some ⟨g43, 0, none⟩, c43, by rw [hsn, List.length_append]; rfl, by rw [hsn, List.length_append, List.flatMap_append]; rfl, by omega⟩ (by simp [K.nth, intOf]; omega) (List.Sublist.cons _ (List.Sublist.refl _)) (by kernel_rfl)
  try replace ht13 := of_decide_eq_false ht13
  refine K.exit ?_
  refine K.exit_then ?_
  refine K.exit_then ?_
  refine K.exit_here ?_
  refine K.norm_then ?_
  refine sr ?_
  refine qm ?_
  refine qa ?_
  refine sn ?_
  refine K.ret ?_
  refine K.end_ret (fun w _ => K.res_tmp rfl w) ?_
  have e0 : i = r.length := by omega
  subst e0
  exact K.rets_s K.m0 rfl rfl rfl

set_option maxRecDepth 100000 in
theorem c59 {r : List RvT} {A : Option Addr} {c : Nat} {H : Option Addr} {d : Nat} {hs : List Int} {w : World} (hR : K.Rd w A 4 eR r) (hH : K.Rd w H 1 K.eI hs) (hl : hs.length = r.length) (g : Good r) (hb : ∀ j, j < r.length → -100000 ≤ hs.getD j default ∧ hs.getD j default ≤ 100000) :
    Calls Tryd.prog 59 [.slice A r.length c, .slice H hs.length d].toArray w (K.RetS 3 1 K.eI (carveS r hs) w) := by
  have hgn := g.n
  refine K.enter (args := [.slice A r.length c, .slice H hs.length d]) Tryd.func59 rfl (n := 43) rfl ?_
  simp only [List.replicate, List.cons_append, List.nil_append]
  refine sr ?_
  refine qa ?_
  refine sn ?_
  refine sr ?_
  refine qa ?_
  refine sn ?_
  refine K.seq ?_
  refine sr ?_
  refine K.nil_row (e := 3) (size := 1) ?_
  refine qa ?_
  refine sn ?_
  refine K.block ?_
  refine K.loopW [5, 6] [7, 8, 9, 10, 11, 12, 13, 14, 15, 16, 17, 18, 19, 20, 21, 22, 23, 24, 25, 26, 27, 28, 29, 30, 31, 32, 33, 34, 35, 36, 37, 38, 39, 40, 41, 42, 43] (fun vi L => ∃ (i : Nat) (Q1 : Option Addr) (q1 : Nat), vi = [.slice Q1 ((List.range i).map fun i => carveF r hs i r.length).length q1, .int .i64 (i : Int)] ∧ L = [K.row (.slice Q1 ((List.range i).map fun i => carveF r hs i r.length).length q1) 3 1 ((List.range i).map fun i => carveF r hs i r.length).length (((List.range i).map fun i => carveF r hs i r.length).flatMap K.eI)] ∧ i ≤ r.length) (fun vi => r.length - (intOf (K.nth vi 1)).toNat) ?_ ?_
  · exact ⟨0, none, 0, rfl, rfl, Nat.zero_le _⟩
  intro vi vr L hJ
  obtain ⟨i, Q1, q1, rfl, rfl, hin⟩ := hJ
  try dsimp only [setd, setn, ev, nth, over, cl, eI, eP, eT, eR, setM, setF, List.map, List.append, List.drop, List.take]
  refine K.seq ?_
  refine sr ?_
  iterate 2 refine qm ?_
  refine qp (K.len_sl sl_22 rfl) ?_
  refine qp (K.lss rfl rfl) ?_
  refine sn ?_
  refine K.cond rfl (fun ht13 => ?_) (fun ht13 => ?_)
  · try replace ht13 := of_decide_eq_true ht13
    have hi : i < r.length := by omega
    have hsl : ((List.range i).map fun i => carveF r hs i r.length).length = i := map_l
    refine K.skip ?_
    refine K.norm_then ?_
    refine K.seq ?_
    refine K.block ?_
    refine sr ?_
    iterate 2 refine qm ?_
    refine K.seq_ix (M := []) _ hH.sl sl_26 rfl rfl rfl (by omega) rfl ?_
    intro p18 hp18
    refine zN ?_
    refine K.seq_sil (K.load1 one_3 rfl (hp18.any)) rfl ?_
    refine zN ?_
    refine qa ?_
    refine sn ?_
    refine K.seq ?_
    refine sr ?_
    refine qa ?_
    refine sn ?_
    refine K.block ?_
    refine K.loopW [7, 8] [9, 20, 21, 22, 23, 24, 25, 26, 27, 28, 29, 30, 31, 32, 33, 34, 35, 36, 37, 38, 39] (fun vi L => ∃ k : Nat, vi = [.int .i64 (carveF r hs i k), .int .i64 (k : Int)] ∧ L = [K.row (.slice Q1 ((List.range i).map fun i => carveF r hs i r.length).length q1) 3 1 ((List.range i).map fun i => carveF r hs i r.length).length (((List.range i).map fun i => carveF r hs i r.length).flatMap K.eI)] ∧ k ≤ r.length) (fun vi => r.length - (intOf (K.nth vi 1)).toNat) ?_ ?_
    · exact ⟨0, rfl, rfl, Nat.zero_le _⟩
    intro vi vr L hJ
    obtain ⟨k, rfl, rfl, hkn⟩ := hJ
    try dsimp only [setd, setn, ev, nth, over, cl, eI, eP, eT, eR, setM, setF, List.map, List.append, List.drop, List.take]
    refine K.seq ?_
    refine sr ?_
    iterate 2 refine qm ?_
    refine qp (K.len_sl sl_22 rfl) ?_
    refine qp (K.lss rfl rfl) ?_
    refine sn ?_
    refine K.cond rfl (fun ht23 => ?_) (fun ht23 => ?_)
    · try replace ht23 := of_decide_eq_true ht23
      have hk : k < r.length := by omega
      have hfb := carve_bd g hl hi hb hkn
      have hdb := drp_bd (k := i) g hk
      have hbk := hb k hk
      refine K.skip ?_
      refine K.norm_then ?_
      refine K.seq ?_
      refine K.block ?_
      refine sr ?_
      iterate 3 refine qm ?_
      refine K.seq_call (K.call_g cal_37 (fun F w hF hw => c37 (hR.pass hw) g hk)) rfl ?_
      refine zN ?_
      refine qa ?_
      refine sn ?_
      refine sr ?_
      refine qm ?_
      refine qp (K.geq rfl rfl) ?_
      refine sn ?_
      refine K.cond rfl (fun ht31 => ?_) (fun ht31 => ?_)
      · try replace ht31 := of_decide_eq_true ht31
        refine K.region_lit ?_
        iterate 3 refine qm ?_
        refine K.seq_ix (M := []) _ hH.sl sl_26 rfl rfl rfl (by omega) rfl ?_
        intro p35 hp35
        refine zN ?_
        refine K.seq_sil (K.load1 one_3 rfl (hp35.any)) rfl ?_
        refine zN ?_
        refine qm ?_
        refine qp (K.sub_i64 rfl rfl (by omega)) ?_
        refine qp (K.min_int rfl rfl) ?_
        refine qa ?_
        refine K.seq_nil ?_
        refine K.norm_block ?_
        refine K.norm_then ?_
        refine K.region_lit ?_
        refine qm ?_
        refine qp (K.add_i64 rfl rfl (by omega)) ?_
        refine qa ?_
        refine K.seq_nil ?_
        have hfs : (carveF r hs i (k + 1)) = min (carveF r hs i k) (hs.getD k default - drp r k i) := by rw [carve_s, if_pos (by omega)]
        exact K.round_endW (L'' := [K.row (.slice Q1 ((List.range i).map fun i => carveF r hs i r.length).length q1) 3 1 ((List.range i).map fun i => carveF r hs i r.length).length (((List.range i).map fun i => carveF r hs i r.length).flatMap K.eI)]) [.int .i64 (min (carveF r hs i k) (hs.getD k default - drp r k i)), .int .i64 ((k : Int) + 1)] ⟨k + 1, by rw [hfs]; rfl, rfl, by omega⟩ (by simp [K.nth, intOf]; omega) (List.Sublist.refl _) (by kernel_rfl)
      try replace ht31 := of_decide_eq_false ht31
      refine K.skip ?_
      refine K.norm_block ?_
      refine K.norm_then ?_
      refine K.region_lit ?_
      refine qm ?_
      refine qp (K.add_i64 rfl rfl (by omega)) ?_
      refine qa ?_
      refine K.seq_nil ?_
      have hfs : (carveF r hs i (k + 1)) = (carveF r hs i k) := by rw [carve_s, if_neg (by omega)]
      exact K.round_endW (L'' := [K.row (.slice Q1 ((List.range i).map fun i => carveF r hs i r.length).length q1) 3 1 ((List.range i).map fun i => carveF r hs i r.length).length (((List.range i).map fun i => carveF r hs i r.length).flatMap K.eI)]) [.int .i64 (carveF r hs i k), .int .i64 ((k : Int) + 1)] ⟨k + 1, by rw [hfs]; rfl, rfl, by omega⟩ (by simp [K.nth, intOf]; omega) (List.Sublist.refl _) (by kernel_rfl)
    try replace ht23 := of_decide_eq_false ht23
    have hkr : k = r.length := by omega
    subst hkr
    refine K.exit ?_
    refine K.exit_then ?_
    refine K.exit_then ?_
    refine K.exit_here ?_
    refine K.norm_then ?_
    refine K.region_lit ?_
    iterate 2 refine qm ?_
    refine K.seq_new (K.buildSlice (bs1 _)) rfl ?_
    intro b42
    refine zN ?_
    refine K.seq_upd (K.append el_26 rfl rfl (K.PtrL.own' (K.m0)) rfl rfl (by decide) (by omega) (by omega) (fun _ _ => K.rp1)) rfl ?_
    rintro ⟨g43, c43⟩ _
    refine zN ?_
    refine qa ?_
    refine K.seq_nil ?_
    refine K.norm_block ?_
    refine K.norm_then ?_
    refine K.region_lit ?_
    refine qm ?_
    refine qp (K.add_i64 rfl rfl (by omega)) ?_
    refine qa ?_
    refine K.seq_nil ?_
    have hsn : ((List.range (i + 1)).map fun i => carveF r hs i r.length) = ((List.range i).map fun i => carveF r hs i r.length) ++ [(carveF r hs i r.length)] := map_s
    exact K.round_endW (L'' := [K.row (.slice (some ⟨g43, 0, none⟩) (((List.range i).map fun i => carveF r hs i r.length).length + 1) c43) 3 1 (((List.range i).map fun i => carveF r hs i r.length).length + 1) (((List.range i).map fun i => carveF r hs i r.length).flatMap K.eI ++ [.int .i64 (carveF r hs i r.length)])]) [.slice (some ⟨g43, 0, none⟩) (((List.range i).map fun i => carveF r hs i r.length).length + 1) c43, .int .i64 ((i : Int) + 1)] ⟨i + 1, some ⟨g43, 0, none⟩, c43, by rw [hsn, List.length_append]; rfl, by rw [hsn, List.length_append, List.flatMap_append]; rfl, by omega⟩ (by simp [K.nth, intOf]; omega) (List.Sublist.cons _ (List.Sublist.refl _)) (by kernel_rfl)
  try replace ht13 := of_decide_eq_false ht13
  refine K.exit ?_
  refine K.exit_then ?_
  refine K.exit_then ?_
  refine K.exit_here ?_
  refine K.norm_then ?_
  refine sr ?_
  refine qm ?_
  refine qa ?_
  refine sn ?_
  refine K.ret ?_
  refine K.end_ret (fun w _ => K.res_tmp rfl w) ?_
  have e0 : i = r.length := by omega
  subst e0
  exact K.rets_s K.m0 rfl rfl rfl

set_option maxRecDepth 100000 in
theorem e17 {r : List RvT} {A : Option Addr} {c : Nat} {w : World} (hR : K.Rd w A 4 eR r) (hn : r.length ≤ 4611686018427387904) (hc : (chk r).2.2 ≠ 0) :
    Calls Tryd.prog 17 [.slice A r.length c].toArray w (K.RetSE 3 1 K.eI (badL r) (chk r).2.2 w) := by
  refine K.enter (args := [.slice A r.length c]) Tryd.func17 rfl (n := 19) rfl ?_
  simp only [List.replicate, List.cons_append, List.nil_append]
  refine sr ?_
  iterate 2 refine qa ?_
  refine sn ?_
  refine sr ?_
  refine qm ?_
  refine K.seq_call (K.call_g cal_15 (fun F w hF hw => c15 (hR.pass hw) hn)) rfl ?_
  refine zN ?_
  refine qm ?_
  refine qx ?_
  refine qx ?_
  refine qx ?_
  iterate 3 refine qa ?_
  refine sn ?_
  refine K.seq ?_
  refine sr ?_
  refine qm ?_
  refine qp (K.neq rfl rfl) ?_
  refine sn ?_
  refine K.cond_true (by exact congrArg Value.bool (decide_eq_true hc)) ?_
  refine sr ?_
  refine qm ?_
  iterate 2 refine qa ?_
  refine sn ?_
  refine K.ret ?_
  refine K.ret_then ?_
  refine K.end_ret (fun w _ => K.res_tmp2 rfl w) ?_
  exact K.rets_se0 (by unfold badL; rw [if_pos hc]) rfl rfl

set_option maxRecDepth 100000 in
theorem g17 {r : List RvT} {A : Option Addr} {c : Nat} {w : World} (hR : K.Rd w A 4 eR r) (hn : r.length ≤ 4611686018427387904) (hc : (chk r).2.2 = 0) :
    Calls Tryd.prog 17 [.slice A r.length c].toArray w (K.RetSE 3 1 K.eI (badL r) (chk r).2.2 w) := by
  have g : Good r := chk_good hc
  have hgn := g.n
  refine K.enter (args := [.slice A r.length c]) Tryd.func17 rfl (n := 19) rfl ?_
  simp only [List.replicate, List.cons_append, List.nil_append]
  refine sr ?_
  iterate 2 refine qa ?_
  refine sn ?_
  refine sr ?_
  refine qm ?_
  refine K.seq_call (K.call_g cal_15 (fun F w hF hw => c15 (hR.pass hw) hn)) rfl ?_
  refine zN ?_
  refine qm ?_
  refine qx ?_
  refine qx ?_
  refine qx ?_
  iterate 3 refine qa ?_
  refine sn ?_
  refine K.seq ?_
  refine sr ?_
  refine qm ?_
  refine qp (K.neq rfl rfl) ?_
  refine sn ?_
  refine K.cond_false (by exact congrArg Value.bool (decide_eq_false (by omega))) ?_
  refine K.skip ?_
  refine K.norm_then ?_
  refine sr ?_
  iterate 2 refine qm ?_
  refine K.seq_loud (K.call_f cal_56 (fun F w hF hw => c56 (hR.pass hw) (by omega))) rfl ?_
  rintro ⟨Q1, q1⟩ hq1
  refine zN ?_
  refine K.seq_loud (K.call_f cal_55 (fun F w hF hw => (by have hH := (K.Rd.own (e := K.eI) (xs := (ownS r)) hw (hF _ (K.m0)) hq1 (fun _ => rfl) (by decide)); exact c55 (hR.pass hw) hH own_len g (fun j hj => by have := own_bd g hj; omega)))) rfl ?_
  rintro ⟨Q2, q2⟩ hq2
  refine zN ?_
  iterate 2 refine qa ?_
  refine sn ?_
  refine K.ret ?_
  refine K.end_ret (fun w _ => K.res_tmp2 rfl w) ?_
  have hl : badL r = badS r (ownS r) := by unfold badL; rw [if_neg (by omega)]
  rw [hl, hc]
  exact K.rets_se K.m0 rfl rfl rfl rfl

theorem c17 {r : List RvT} {A : Option Addr} {c : Nat} {w : World} (hR : K.Rd w A 4 eR r) (hn : r.length ≤ 4611686018427387904) : Calls Tryd.prog 17 [.slice A r.length c].toArray w (K.RetSE 3 1 K.eI (badL r) (chk r).2.2 w) := by
  by_cases hc : (chk r).2.2 = 0
  · exact g17 hR hn hc
  · exact e17 hR hn hc


set_option maxRecDepth 100000 in
theorem e22 {r : List RvT} {A : Option Addr} {c : Nat} {w : World} (hR : K.Rd w A 4 eR r) (hn : r.length ≤ 4611686018427387904) (hc : (chk r).2.2 ≠ 0) :
    Calls Tryd.prog 22 [.slice A r.length c].toArray w (K.RetSE 3 1 K.eI (fillL r) (fillE r) w) := by
  have he : fillE r = (chk r).2.2 := by unfold fillE; rw [if_pos hc]
  refine K.enter (args := [.slice A r.length c]) Tryd.func22 rfl (n := 25) rfl ?_
  simp only [List.replicate, List.cons_append, List.nil_append]
  refine sr ?_
  iterate 2 refine qa ?_
  refine sn ?_
  refine sr ?_
  refine qm ?_
  refine K.seq_call (K.call_g cal_15 (fun F w hF hw => c15 (hR.pass hw) hn)) rfl ?_
  refine zN ?_
  refine qm ?_
  refine qx ?_
  refine qx ?_
  refine qx ?_
  iterate 3 refine qa ?_
  refine sn ?_
  refine K.seq ?_
  refine sr ?_
  refine qm ?_
  refine qp (K.neq rfl rfl) ?_
  refine sn ?_
  refine K.cond_true (by exact congrArg Value.bool (decide_eq_true hc)) ?_
  refine sr ?_
  refine qm ?_
  iterate 2 refine qa ?_
  refine sn ?_
  refine K.ret ?_
  refine K.ret_then ?_
  refine K.end_ret (fun w _ => K.res_tmp2 rfl w) ?_
  exact K.rets_se0 (by unfold fillL; rw [if_neg (by omega)]) he.symm rfl

set_option maxRecDepth 100000 in
theorem g22 {r : List RvT} {A : Option Addr} {c : Nat} {w : World} (hR : K.Rd w A 4 eR r) (hn : r.length ≤ 4611686018427387904) (hc : (chk r).2.2 = 0) :
    Calls Tryd.prog 22 [.slice A r.length c].toArray w (K.RetSE 3 1 K.eI (fillL r) (fillE r) w) := by
  have g : Good r := chk_good hc
  have hgn := g.n
  have hsl := fill_len (r := r) (h := ownS r)
  refine K.enter (args := [.slice A r.length c]) Tryd.func22 rfl (n := 25) rfl ?_
  simp only [List.replicate, List.cons_append, List.nil_append]
  refine sr ?_
  iterate 2 refine qa ?_
  refine sn ?_
  refine sr ?_
  refine qm ?_
  refine K.seq_call (K.call_g cal_15 (fun F w hF hw => c15 (hR.pass hw) hn)) rfl ?_
  refine zN ?_
  refine qm ?_
  refine qx ?_
  refine qx ?_
  refine qx ?_
  iterate 3 refine qa ?_
  refine sn ?_
  refine K.seq ?_
  refine sr ?_
  refine qm ?_
  refine qp (K.neq rfl rfl) ?_
  refine sn ?_
  refine K.cond_false (by exact congrArg Value.bool (decide_eq_false (by omega))) ?_
  refine K.skip ?_
  refine K.norm_then ?_
  refine sr ?_
  iterate 2 refine qm ?_
  refine K.seq_loud (K.call_f cal_56 (fun F w hF hw => c56 (hR.pass hw) (by omega))) rfl ?_
  rintro ⟨Q1, q1⟩ hq1
  refine zN ?_
  refine K.seq_loud (K.call_f cal_58 (fun F w hF hw => (by have hH := (K.Rd.own (e := K.eI) (xs := (ownS r)) hw (hF _ (K.m0)) hq1 (fun _ => rfl) (by decide)); exact c58 (hR.pass hw) hH own_len g (fun j hj => by have := own_bd g hj; omega)))) rfl ?_
  rintro ⟨Q2, q2⟩ hq2
  refine zN ?_
  refine qa ?_
  refine sn ?_
  refine K.seq ?_
  refine sr ?_
  iterate 2 refine qm ?_
  refine K.seq_call (K.call_g cal_39 (fun F w hF hw => (by have hH := (K.Rd.own (e := K.eI) (xs := (fillS r (ownS r))) hw (hF _ (K.m0)) hq2 (fun _ => rfl) (by decide)); exact c39 (hR.pass hw) hH g (by omega)))) rfl ?_
  refine zN ?_
  first | refine K.seq_pure (K.not_d rfl) rfl ?_ | refine K.seq_pure (K.not_ rfl) rfl ?_
  refine zN ?_
  refine sn ?_
  refine K.cond rfl (fun ht24 => ?_) (fun ht24 => ?_)
  · try replace ht24 := of_decide_eq_true ht24
    refine sr ?_
    iterate 2 refine qa ?_
    refine sn ?_
    refine K.ret ?_
    refine K.ret_then ?_
    refine K.end_ret (fun w _ => K.res_tmp2 rfl w) ?_
    have hf : runB r (fillS r (ownS r)) = false := by simpa using ht24
    have he : fillE r = 9 := by unfold fillE; rw [if_neg (by omega), hf]; rfl
    exact K.rets_se0 (by unfold fillL; rw [if_neg (by omega)]) he.symm rfl
  try replace ht24 := of_decide_eq_false ht24
  refine K.skip ?_
  refine K.norm_then ?_
  refine sr ?_
  refine qm ?_
  iterate 2 refine qa ?_
  refine sn ?_
  refine K.ret ?_
  refine K.end_ret (fun w _ => K.res_tmp2 rfl w) ?_
  have hf : runB r (fillS r (ownS r)) = true := by simpa using ht24
  have he : fillE r = 0 := by unfold fillE; rw [if_neg (by omega), if_pos hf]
  have hl : fillL r = (fillS r (ownS r)) := by unfold fillL; rw [if_pos he]
  rw [hl, he]
  exact K.rets_se K.m0 rfl rfl rfl rfl

theorem c22 {r : List RvT} {A : Option Addr} {c : Nat} {w : World} (hR : K.Rd w A 4 eR r) (hn : r.length ≤ 4611686018427387904) : Calls Tryd.prog 22 [.slice A r.length c].toArray w (K.RetSE 3 1 K.eI (fillL r) (fillE r) w) := by
  by_cases hc : (chk r).2.2 = 0
  · exact g22 hR hn hc
  · exact e22 hR hn hc


set_option maxRecDepth 100000 in
theorem e24 {r : List RvT} {A : Option Addr} {c : Nat} {w : World} (hR : K.Rd w A 4 eR r) (hn : r.length ≤ 4611686018427387904) (hc : (chk r).2.2 ≠ 0) :
    Calls Tryd.prog 24 [.slice A r.length c].toArray w (K.RetSE 3 1 K.eI (carveL r) (carveE r) w) := by
  have he : carveE r = (chk r).2.2 := by unfold carveE; rw [if_pos hc]
  refine K.enter (args := [.slice A r.length c]) Tryd.func24 rfl (n := 25) rfl ?_
  simp only [List.replicate, List.cons_append, List.nil_append]
  refine sr ?_
  iterate 2 refine qa ?_
  refine sn ?_
  refine sr ?_
  refine qm ?_
  refine K.seq_call (K.call_g cal_15 (fun F w hF hw => c15 (hR.pass hw) hn)) rfl ?_
  refine zN ?_
  refine qm ?_
  refine qx ?_
  refine qx ?_
  refine qx ?_
  iterate 3 refine qa ?_
  refine sn ?_
  refine K.seq ?_
  refine sr ?_
  refine qm ?_
  refine qp (K.neq rfl rfl) ?_
  refine sn ?_
  refine K.cond_true (by exact congrArg Value.bool (decide_eq_true hc)) ?_
  refine sr ?_
  refine qm ?_
  iterate 2 refine qa ?_
  refine sn ?_
  refine K.ret ?_
  refine K.ret_then ?_
  refine K.end_ret (fun w _ => K.res_tmp2 rfl w) ?_
  exact K.rets_se0 (by unfold carveL; rw [if_neg (by omega)]) he.symm rfl

set_option maxRecDepth 100000 in
theorem g24 {r : List RvT} {A : Option Addr} {c : Nat} {w : World} (hR : K.Rd w A 4 eR r) (hn : r.length ≤ 4611686018427387904) (hc : (chk r).2.2 = 0) :
    Calls Tryd.prog 24 [.slice A r.length c].toArray w (K.RetSE 3 1 K.eI (carveL r) (carveE r) w) := by
  have g : Good r := chk_good hc
  have hgn := g.n
  have hsl := carve_len (r := r) (h := ownS r)
  refine K.enter (args := [.slice A r.length c]) Tryd.func24 rfl (n := 25) rfl ?_
  simp only [List.replicate, List.cons_append, List.nil_append]
  refine sr ?_
  iterate 2 refine qa ?_
  refine sn ?_
  refine sr ?_
  refine qm ?_
  refine K.seq_call (K.call_g cal_15 (fun F w hF hw => c15 (hR.pass hw) hn)) rfl ?_
  refine zN ?_
  refine qm ?_
  refine qx ?_
  refine qx ?_
  refine qx ?_
  iterate 3 refine qa ?_
  refine sn ?_
  refine K.seq ?_
  refine sr ?_
  refine qm ?_
  refine qp (K.neq rfl rfl) ?_
  refine sn ?_
  refine K.cond_false (by exact congrArg Value.bool (decide_eq_false (by omega))) ?_
  refine K.skip ?_
  refine K.norm_then ?_
  refine sr ?_
  iterate 2 refine qm ?_
  refine K.seq_loud (K.call_f cal_56 (fun F w hF hw => c56 (hR.pass hw) (by omega))) rfl ?_
  rintro ⟨Q1, q1⟩ hq1
  refine zN ?_
  refine K.seq_loud (K.call_f cal_59 (fun F w hF hw => (by have hH := (K.Rd.own (e := K.eI) (xs := (ownS r)) hw (hF _ (K.m0)) hq1 (fun _ => rfl) (by decide)); exact c59 (hR.pass hw) hH own_len g (fun j hj => by have := own_bd g hj; omega)))) rfl ?_
  rintro ⟨Q2, q2⟩ hq2
  refine zN ?_
  refine qa ?_
  refine sn ?_
  refine K.seq ?_
  refine sr ?_
  iterate 2 refine qm ?_
  refine K.seq_call (K.call_g cal_39 (fun F w hF hw => (by have hH := (K.Rd.own (e := K.eI) (xs := (carveS r (ownS r))) hw (hF _ (K.m0)) hq2 (fun _ => rfl) (by decide)); exact c39 (hR.pass hw) hH g (by omega)))) rfl ?_
  refine zN ?_
  first | refine K.seq_pure (K.not_d rfl) rfl ?_ | refine K.seq_pure (K.not_ rfl) rfl ?_
  refine zN ?_
  refine sn ?_
  refine K.cond rfl (fun ht24 => ?_) (fun ht24 => ?_)
  · try replace ht24 := of_decide_eq_true ht24
    refine sr ?_
    iterate 2 refine qa ?_
    refine sn ?_
    refine K.ret ?_
    refine K.ret_then ?_
    refine K.end_ret (fun w _ => K.res_tmp2 rfl w) ?_
    have hf : runB r (carveS r (ownS r)) = false := by simpa using ht24
    have he : carveE r = 9 := by unfold carveE; rw [if_neg (by omega), hf]; rfl
    exact K.rets_se0 (by unfold carveL; rw [if_neg (by omega)]) he.symm rfl
  try replace ht24 := of_decide_eq_false ht24
  refine K.skip ?_
  refine K.norm_then ?_
  refine sr ?_
  refine qm ?_
  iterate 2 refine qa ?_
  refine sn ?_
  refine K.ret ?_
  refine K.end_ret (fun w _ => K.res_tmp2 rfl w) ?_
  have hf : runB r (carveS r (ownS r)) = true := by simpa using ht24
  have he : carveE r = 0 := by unfold carveE; rw [if_neg (by omega), if_pos hf]
  have hl : carveL r = (carveS r (ownS r)) := by unfold carveL; rw [if_pos he]
  rw [hl, he]
  exact K.rets_se K.m0 rfl rfl rfl rfl

theorem c24 {r : List RvT} {A : Option Addr} {c : Nat} {w : World} (hR : K.Rd w A 4 eR r) (hn : r.length ≤ 4611686018427387904) : Calls Tryd.prog 24 [.slice A r.length c].toArray w (K.RetSE 3 1 K.eI (carveL r) (carveE r) w) := by
  by_cases hc : (chk r).2.2 = 0
  · exact g24 hR hn hc
  · exact e24 hR hn hc


set_option maxRecDepth 100000 in
theorem e20 {r : List RvT} {A : Option Addr} {c : Nat} {z : Int} {w : World} (hR : K.Rd w A 4 eR r) (hn : r.length ≤ 4611686018427387904) (hc : (chk r).2.2 ≠ 0) :
    Calls Tryd.prog 20 [.slice A r.length c, .int .i64 z].toArray w (K.RetSE 3 1 K.eI (pouL r z) (pouE r z) w) := by
  have he : pouE r z = (chk r).2.2 := by unfold pouE; rw [if_pos hc]
  refine K.enter (args := [.slice A r.length c, .int .i64 z]) Tryd.func20 rfl (n := 49) rfl ?_
  simp only [List.replicate, List.cons_append, List.nil_append]
  refine sr ?_
  iterate 2 refine qa ?_
  refine sn ?_
  refine sr ?_
  refine qm ?_
  refine K.seq_loud (K.call_f cal_17 (fun F w hF hw => c17 (hR.pass hw) hn)) rfl ?_
  rintro ⟨Q1, q1⟩ hq1
  refine zN ?_
  refine qm ?_
  refine qx ?_
  refine qx ?_
  iterate 2 refine qa ?_
  refine sn ?_
  refine K.seq ?_
  refine sr ?_
  refine qm ?_
  refine qp (K.Pure.eq (K.eql rfl rfl) (show _ = Value.bool false from congrArg Value.bool (decide_eq_false hc))) ?_
  refine qm ?_
  iterate 6 refine qs ?_
  refine qp (K.pick_f rfl) ?_
  refine sn ?_
  refine K.cond_false rfl ?_
  refine K.skip ?_
  refine K.norm_then ?_
  refine K.seq ?_
  refine sr ?_
  refine qm ?_
  refine qp (K.Pure.eq (K.neq rfl rfl) (show _ = Value.bool true from congrArg Value.bool (decide_eq_true hc))) ?_
  refine sn ?_
  refine K.cond_true rfl ?_
  refine sr ?_
  refine qm ?_
  iterate 2 refine qa ?_
  refine sn ?_
  refine K.ret ?_
  refine K.ret_then ?_
  refine K.end_ret (fun w _ => K.res_tmp2 rfl w) ?_
  exact K.rets_se0 (by unfold pouL; rw [if_neg (by omega)]) he.symm rfl

set_option maxRecDepth 100000 in
theorem f20 {r : List RvT} {A : Option Addr} {c : Nat} {z : Int} {w : World} (hR : K.Rd w A 4 eR r) (hn : r.length ≤ 4611686018427387904) (hc : (chk r).2.2 = 0) (hz : ¬ (0 ≤ z ∧ z ≤ (r.length : Int) - 1)) :
    Calls Tryd.prog 20 [.slice A r.length c, .int .i64 z].toArray w (K.RetSE 3 1 K.eI (pouL r z) (pouE r z) w) := by
  have g : Good r := chk_good hc
  have hgn := g.n
  have he : pouE r z = 4 := by unfold pouE; rw [if_neg (by omega), if_neg hz]
  have hbl : badL r = badS r (ownS r) := by unfold badL; rw [if_neg (by omega)]
  refine K.enter (args := [.slice A r.length c, .int .i64 z]) Tryd.func20 rfl (n := 49) rfl ?_
  simp only [List.replicate, List.cons_append, List.nil_append]
  refine sr ?_
  iterate 2 refine qa ?_
  refine sn ?_
  refine sr ?_
  refine qm ?_
  refine K.seq_loud (K.call_f cal_17 (fun F w hF hw => (by have hg := g17 (c := c) (hR.pass hw) hn hc; rw [hbl, hc] at hg; exact hg))) rfl ?_
  rintro ⟨Q1, q1⟩ hq1
  refine zN ?_
  refine qm ?_
  refine qx ?_
  refine qx ?_
  iterate 2 refine qa ?_
  refine sn ?_
  refine K.seq ?_
  refine sr ?_
  refine qm ?_
  refine qp (K.Pure.eq (K.eql rfl rfl) (show _ = Value.bool true from congrArg Value.bool (rfl))) ?_
  iterate 3 refine qm ?_
  refine qp (K.len_sl sl_22 rfl) ?_
  refine qp (K.sub_i64 rfl rfl (by omega)) ?_
  refine K.seq_call (K.call_g cal_49 (fun F w hF hw => c49 w)) rfl ?_
  refine zN ?_
  first | refine K.seq_pure (K.Pure.eq (K.not_d rfl) (show _ = Value.bool true from congrArg Value.bool (by rw [decide_eq_false hz]; rfl))) rfl ?_ | refine K.seq_pure (K.Pure.eq (K.not_ rfl) (show _ = Value.bool true from congrArg Value.bool (by rw [decide_eq_false hz]; rfl))) rfl ?_
  refine zN ?_
  refine qp (K.pick_t rfl) ?_
  refine sn ?_
  refine K.cond_true rfl ?_
  refine K.region_lit ?_
  refine qa ?_
  refine sn ?_
  refine K.seq ?_
  refine sr ?_
  refine qm ?_
  refine qp (K.Pure.eq (K.neq rfl rfl) (show _ = Value.bool true from congrArg Value.bool (rfl))) ?_
  refine sn ?_
  refine K.cond_true rfl ?_
  refine sr ?_
  refine qm ?_
  iterate 2 refine qa ?_
  refine sn ?_
  refine K.ret ?_
  refine K.ret_then ?_
  refine K.end_ret (fun w _ => K.res_tmp2 rfl w) ?_
  exact K.rets_se0 (by unfold pouL; rw [if_neg (by omega)]) he.symm rfl

set_option maxRecDepth 100000 in
theorem g20 {r : List RvT} {A : Option Addr} {c : Nat} {a : Nat} {w : World} (hR : K.Rd w A 4 eR r) (hn : r.length ≤ 4611686018427387904) (hc : (chk r).2.2 = 0) (ha : a < r.length) :
    Calls Tryd.prog 20 [.slice A r.length c, .int .i64 (a : Int)].toArray w (K.RetSE 3 1 K.eI (pouL r (a : Int)) (pouE r (a : Int)) w) := by
  have g : Good r := chk_good hc
  have hgn := g.n
  have hbl : badL r = badS r (ownS r) := by unfold badL; rw [if_neg (by omega)]
  have hsb : (badS r (ownS r)).length ≤ r.length := selN_len
  have hda := dep_is g ha
  have he : pouE r (a : Int) = 0 := by unfold pouE; rw [if_neg (by omega), if_pos (by omega)]
  refine K.enter (args := [.slice A r.length c, .int .i64 (a : Int)]) Tryd.func20 rfl (n := 49) rfl ?_
  simp only [List.replicate, List.cons_append, List.nil_append]
  refine sr ?_
  iterate 2 refine qa ?_
  refine sn ?_
  refine sr ?_
  refine qm ?_
  refine K.seq_loud (K.call_f cal_17 (fun F w hF hw => (by have hg := g17 (c := c) (hR.pass hw) hn hc; rw [hbl, hc] at hg; exact hg))) rfl ?_
  rintro ⟨Q1, q1⟩ hq1
  refine zN ?_
  refine qm ?_
  refine qx ?_
  refine qx ?_
  iterate 2 refine qa ?_
  refine sn ?_
  refine K.seq ?_
  refine sr ?_
  refine qm ?_
  refine qp (K.Pure.eq (K.eql rfl rfl) (show _ = Value.bool true from congrArg Value.bool (rfl))) ?_
  iterate 3 refine qm ?_
  refine qp (K.len_sl sl_22 rfl) ?_
  refine qp (K.sub_i64 rfl rfl (by omega)) ?_
  refine K.seq_call (K.call_g cal_49 (fun F w hF hw => c49 w)) rfl ?_
  refine zN ?_
  first | refine K.seq_pure (K.Pure.eq (K.not_d rfl) (show _ = Value.bool false from congrArg Value.bool (by rw [decide_eq_true (by omega)]; rfl))) rfl ?_ | refine K.seq_pure (K.Pure.eq (K.not_ rfl) (show _ = Value.bool false from congrArg Value.bool (by rw [decide_eq_true (by omega)]; rfl))) rfl ?_
  refine zN ?_
  refine qp (K.pick_t rfl) ?_
  refine sn ?_
  refine K.cond_false rfl ?_
  refine K.skip ?_
  refine K.norm_then ?_
  refine K.seq ?_
  refine sr ?_
  refine qm ?_
  refine qp (K.Pure.eq (K.neq rfl rfl) (show _ = Value.bool false from congrArg Value.bool (rfl))) ?_
  refine sn ?_
  refine K.cond_false rfl ?_
  refine K.skip ?_
  refine K.norm_then ?_
  refine sr ?_
  refine qm ?_
  refine K.seq_new (K.buildSlice (bs1 _)) rfl ?_
  intro b28
  refine zN ?_
  refine K.blk_row (n := 1) (size := 1) rfl (by decide) ?_
  refine qa ?_
  refine sn ?_
  refine K.seq ?_
  refine K.block ?_
  refine K.loopW [1, 8] [29, 30, 31, 32, 33, 34, 35, 36, 37, 38, 39, 40, 41, 42, 43, 44, 45, 46, 47, 48, 49] (fun vi L => ∃ (k : Nat) (Q2 : Option Addr) (q2 : Nat), vi = [.int .i64 ((stps r k a : Nat) : Int), .slice Q2 (stepL r a (k + 1)).length q2] ∧ L = [K.row (.slice Q2 (stepL r a (k + 1)).length q2) 3 1 (stepL r a (k + 1)).length ((stepL r a (k + 1)).flatMap K.eI), K.row (.slice Q1 (badS r (ownS r)).length q1) 3 1 (badS r (ownS r)).length ((badS r (ownS r)).flatMap K.eI)] ∧ k ≤ dep r a ∧ ∀ j, j < k → badB r (ownS r) (stps r j a) = false) (fun vi => dep r (intOf (K.nth vi 0)).toNat) ?_ ?_
  · exact ⟨0, _, _, rfl, rfl, Nat.zero_le _, fun j hj => absurd hj (Nat.not_lt_zero j)⟩
  intro vi vr L hJ
  obtain ⟨k, Q2, q2, rfl, rfl, hkd, hall⟩ := hJ
  have hls := stps_lt g ha k
  have hsn := step_len (r := r) (a := a) (k := k + 1)
  have hpk := g.p _ hls
  have hmb := bad_mem (h := ownS r) hls
  try dsimp only [setd, setn, ev, nth, over, cl, eI, eP, eT, eR, setM, setF, List.map, List.append, List.drop, List.take]
  refine K.seq ?_
  refine sr ?_
  iterate 2 refine qm ?_
  refine K.seq_ix (M := []) (stps r k a) hR.sl sl_22 rfl rfl (by omega) (by omega) rfl ?_
  intro p31 hp31
  refine zN ?_
  refine qp (K.fieldAddr fo_44_1 rfl) ?_
  refine K.seq_sil (K.load1 one_3 rfl ((K.PtrL.fld hp31 (k := 1)).any)) rfl ?_
  refine zN ?_
  refine qp (K.neq rfl rfl) ?_
  refine qm ?_
  refine K.split 35 rfl (fun hg35 => ?_) (fun hg35 => ?_)
  · try replace hg35 := of_decide_eq_true hg35
    iterate 2 refine qm ?_
    refine K.seq_call (K.call_g cal_38 (fun F w hF hw => (by have hX := (K.Rd.own (e := K.eI) (xs := (badS r (ownS r))) hw (hF _ (K.m1)) hq1 (fun _ => rfl) (by decide)); exact c38 hX (by omega)))) rfl ?_
    refine zN ?_
    first | refine K.seq_pure (K.not_d rfl) rfl ?_ | refine K.seq_pure (K.not_ rfl) rfl ?_
    refine zN ?_
    refine qp (K.pick_t rfl) ?_
    refine sn ?_
    refine K.cond rfl (fun ht40 => ?_) (fun ht40 => ?_)
    · try replace ht40 := of_decide_eq_true ht40
      refine K.skip ?_
      refine K.norm_then ?_
      refine K.block ?_
      refine sr ?_
      iterate 2 refine qm ?_
      refine K.seq_ix (M := []) (stps r k a) hR.sl sl_22 rfl rfl (by omega) (by omega) rfl ?_
      intro p43 hp43
      refine zN ?_
      refine qp (K.fieldAddr fo_44_1 rfl) ?_
      refine K.seq_sil (K.load1 one_3 rfl ((K.PtrL.fld hp43 (k := 1)).any)) rfl ?_
      refine zN ?_
      refine qa ?_
      refine sn ?_
      refine K.region_lit ?_
      iterate 2 refine qm ?_
      refine K.seq_new (K.buildSlice (bs1 _)) rfl ?_
      intro b48
      refine zN ?_
      refine K.seq_upd (K.append el_26 rfl rfl (K.PtrL.own' (K.m0)) rfl rfl (by decide) (by omega) (by omega) (fun _ _ => K.rp1)) rfl ?_
      rintro ⟨g49, c49⟩ _
      refine zN ?_
      refine qa ?_
      refine K.seq_nil ?_
      refine K.norm_block ?_
      have hup := stps_up hg35
      have hbn : badB r (ownS r) (stps r k a) = false := by
        rw [← Bool.not_eq_true]; exact fun h => ht40 (hmb.2 h)
      have hkl : k < dep r a := by
        rcases Nat.lt_or_ge k (dep r a) with h | h
        · exact h
        · rw [show k = dep r a by omega] at hg35; exact absurd hda.2.1 hg35
      have hst : ((stps r (k + 1) a : Nat) : Int) = (r.getD (stps r k a) default).dn := by rw [hup]; omega
      exact K.round_endW (L'' := [K.row (.slice (some ⟨g49, 0, none⟩) ((stepL r a (k + 1)).length + 1) c49) 3 1 ((stepL r a (k + 1)).length + 1) ((stepL r a (k + 1)).flatMap K.eI ++ [.int .i64 (r.getD (stps r k a) default).dn]), K.row (.slice Q1 (badS r (ownS r)).length q1) 3 1 (badS r (ownS r)).length ((badS r (ownS r)).flatMap K.eI)]) [.int .i64 (r.getD (stps r k a) default).dn, .slice (some ⟨g49, 0, none⟩) ((stepL r a (k + 1)).length + 1) c49] ⟨k + 1, some ⟨g49, 0, none⟩, c49, by rw [hst, step_s (k := k + 1), List.length_append]; rfl, by rw [step_s (k := k + 1), hst, List.length_append, List.flatMap_append]; rfl, hkl, K.lt_succ_case hall hbn⟩ (by show dep r (r.getD (stps r k a) default).dn.toNat < dep r ((stps r k a : Nat) : Int).toNat; rw [← hup, Int.toNat_natCast, dep_stps g ha, dep_stps g ha]; omega) (List.Sublist.cons _ (List.Sublist.refl _)) (by kernel_rfl)
    try replace ht40 := of_decide_eq_false ht40
    refine K.exit ?_
    refine K.exit_then ?_
    refine K.exit_then ?_
    refine K.exit_here ?_
    refine K.norm_then ?_
    refine sr ?_
    refine qm ?_
    iterate 2 refine qa ?_
    refine sn ?_
    refine K.ret ?_
    refine K.end_ret (fun w _ => K.res_tmp2 rfl w) ?_
    have hbt : badB r (ownS r) (stps r k a) = true := hmb.1 (Decidable.not_not.1 ht40)
    have hl : pouL r (a : Int) = (stepL r a (k + 1)) := by unfold pouL; rw [if_pos he, Int.toNat_natCast]; exact poured_bad g ha hkd hall hbt
    rw [hl, he]
    exact K.rets_se K.m0 rfl rfl rfl rfl
  try replace hg35 := of_decide_eq_false hg35
  iterate 4 refine qs ?_
  refine qp (K.pick_f rfl) ?_
  refine sn ?_
  refine K.cond_false rfl ?_
  refine K.exit ?_
  refine K.exit_then ?_
  refine K.exit_then ?_
  refine K.exit_here ?_
  refine K.norm_then ?_
  refine sr ?_
  refine qm ?_
  iterate 2 refine qa ?_
  refine sn ?_
  refine K.ret ?_
  refine K.end_ret (fun w _ => K.res_tmp2 rfl w) ?_
  have hd0 : (r.getD (stps r k a) default).dn = -1 := Decidable.not_not.1 hg35
  have e0 : k = dep r a := by
    rcases Nat.lt_or_ge k (dep r a) with h | h
    · exact absurd hd0 (hda.2.2 k h)
    · omega
  subst e0
  have hl : pouL r (a : Int) = (stepL r a (dep r a + 1)) := by unfold pouL; rw [if_pos he, Int.toNat_natCast]; exact poured_all g ha (fun j hj => by rcases Nat.lt_or_ge j (dep r a) with h | h; exact hall j h; rw [show j = dep r a by omega]; exact bad_no.2 (.inl hd0))
  rw [hl, he]
  exact K.rets_se K.m0 rfl rfl rfl rfl

theorem c20 {r : List RvT} {A : Option Addr} {c : Nat} {z : Int} {w : World} (hR : K.Rd w A 4 eR r) (hn : r.length ≤ 4611686018427387904) : Calls Tryd.prog 20 [.slice A r.length c, .int .i64 z].toArray w (K.RetSE 3 1 K.eI (pouL r z) (pouE r z) w) := by
  by_cases hc : (chk r).2.2 = 0
  · by_cases hz : 0 ≤ z ∧ z ≤ (r.length : Int) - 1
    · have h := g20 (c := c) (a := z.toNat) hR hn hc (by omega)
      rwa [Int.toNat_of_nonneg hz.1] at h
    · exact f20 hR hn hc hz
  · exact e20 hR hn hc


end Go.Proofs.YtoemnobfnnjopaaDoor
