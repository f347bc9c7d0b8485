/-
  Walks of the program's functions, printed by program: what each returns.
  Conditions stand in each theorem.
-/
import Derived.WalkArith
import Derived.Laws.Closers25b
import Derived.Test.YtoemnobfnnjopaaDoorS3
import Derived.Test.YtoemnobfnnjopaaDoorWf
set_option linter.unusedSimpArgs false
set_option linter.unusedVariables false
namespace Go.Proofs.YtoemnobfnnjopaaDoor
open Go.RowKit Go
open Go.K (setd setn ev nth over cl eI eP eT setM setF)
attribute [local irreducible] K.blk K.row
/-- What the reference's points hand out. -/
theorem drp_out {r : List RvT} {i k j : Nat} (g : Good r) (hi : i < r.length) (hj : j ≤ dep r i) (hall : ∀ x, x < j → stps r x i ≠ k) (e : stps r j i ≠ k) (hm : (r.getD (stps r j i) default).dn = -1) : drp r i k = -1 := by
  refine drp_no g hi fun hb => ?_
  obtain ⟨x, hx, h⟩ := (bl_fin g hi).1 hb
  have hd := dep_is g hi
  have : j = dep r i := by
    rcases Nat.lt_or_ge j (dep r i) with h1 | h1
    · exact absurd hm (hd.2.2 j h1)
    · omega
  subst this
  rcases Nat.lt_or_ge x (dep r i) with h1 | h1
  · exact hall x h1 h
  · rw [show x = dep r i by omega] at h; exact e h
theorem own_s {r : List RvT} {i : Nat} (hi : i < r.length) : (r.take (i + 1)).map (·.ht) = (r.take i).map (·.ht) ++ [(r.getD i default).ht] := take_succ_map (fun p : RvT => p.ht) hi

set_option maxRecDepth 100000 in
theorem c37 {r : List RvT} {A : Option Addr} {c : Nat} {i k : Nat} {w : World} (hR : K.Rd w A 4 eR r) (g : Good r) (hi : i < r.length) :
    Calls Tryd.prog 37 [.slice A r.length c, .int .i64 (i : Int), .int .i64 (k : Int)].toArray w (K.Gives (.int .i64 (drp r i k)) w) := by
  have hgn := g.n
  have hdl := DM_le g hi
  have hdi := dep_is g hi
  refine K.enter (args := [.slice A r.length c, .int .i64 (i : Int), .int .i64 (k : Int)]) Tryd.func37 rfl (n := 27) rfl ?_
  simp only [List.replicate, List.cons_append, List.nil_append]
  refine sr ?_
  refine qa ?_
  refine sn ?_
  refine sr ?_
  refine qa ?_
  refine sn ?_
  refine K.seq ?_
  refine K.block ?_
  refine K.loopW [1, 7] [6, 8, 9, 10, 11, 12, 13, 14, 15, 16, 17, 18, 19, 20, 21, 22, 23, 24, 25, 26, 27, 28] (fun vi L => ∃ j : Nat, vi = [.int .i64 ((stps r j i : Nat) : Int), .int .i64 (DM r i - DM r (stps r j i))] ∧ L = [] ∧ j ≤ dep r i ∧ ∀ x, x < j → stps r x i ≠ k) (fun vi => dep r (intOf (K.nth vi 0)).toNat) ?_ ?_
  · exact ⟨0, by simp only [List.map, K.nth, stps]; rw [Int.sub_self], rfl, Nat.zero_le _, fun x hx => absurd hx (Nat.not_lt_zero x)⟩
  intro vi vr L hJ
  obtain ⟨j, rfl, rfl, hjd, hall⟩ := hJ
  try dsimp only [setd, setn, ev, nth, over, cl, eI, eP, eT, eR, setM, setF, List.map, List.append, List.drop, List.take]
  refine K.seq ?_
  refine sr ?_
  iterate 2 refine qm ?_
  refine qp (K.neq rfl rfl) ?_
  refine sn ?_
  refine K.cond rfl (fun ht10 => ?_) (fun ht10 => ?_)
  · try replace ht10 := of_decide_eq_true ht10
    have hls := stps_lt g hi j
    have hpj := g.p _ hls
    have hdk := DM_le g hls
    refine K.skip ?_
    refine K.norm_then ?_
    refine K.block ?_
    refine K.seq ?_
    refine sr ?_
    iterate 2 refine qm ?_
    refine K.seq_ix (M := []) (stps r j i) hR.sl sl_22 rfl rfl (by omega) (by omega) rfl ?_
    intro p13 hp13
    refine zN ?_
    refine qp (K.fieldAddr fo_44_1 rfl) ?_
    refine K.seq_sil (K.load1 one_3 rfl ((K.PtrL.fld hp13 (k := 1)).any)) rfl ?_
    refine zN ?_
    refine qp (K.eql rfl rfl) ?_
    refine sn ?_
    refine K.cond rfl (fun ht16 => ?_) (fun ht16 => ?_)
    · try replace ht16 := of_decide_eq_true ht16
      refine sr ?_
      refine qa ?_
      refine sn ?_
      refine K.ret ?_
      refine K.ret_then ?_
      refine K.ret_block ?_
      refine K.ret_then ?_
      refine K.ret_block ?_
      refine K.ret_then ?_
      refine K.end_ret (fun w _ => K.res_tmp rfl w) ?_
      exact K.gives_i rfl (drp_out g hi hjd hall (fun e => ht10 (by rw [e])) ht16).symm
    try replace ht16 := of_decide_eq_false ht16
    refine K.skip ?_
    refine K.norm_then ?_
    refine sr ?_
    iterate 3 refine qm ?_
    refine K.seq_ix (M := []) (stps r j i) hR.sl sl_22 rfl rfl (by omega) (by omega) rfl ?_
    intro p20 hp20
    refine zN ?_
    refine qp (K.fieldAddr fo_44_2 rfl) ?_
    refine K.seq_sil (K.load1 one_3 rfl ((K.PtrL.fld hp20 (k := 2)).any)) rfl ?_
    refine zN ?_
    refine qp (K.add_i64 rfl rfl (by omega)) ?_
    refine qa ?_
    refine sn ?_
    refine K.region_lit ?_
    iterate 2 refine qm ?_
    refine K.seq_ix (M := []) (stps r j i) hR.sl sl_22 rfl rfl (by omega) (by omega) rfl ?_
    intro p26 hp26
    refine zN ?_
    refine qp (K.fieldAddr fo_44_1 rfl) ?_
    refine K.seq_sil (K.load1 one_3 rfl ((K.PtrL.fld hp26 (k := 1)).any)) rfl ?_
    refine zN ?_
    refine qa ?_
    refine K.seq_nil ?_
    refine K.norm_block ?_
    have hd : (r.getD (stps r j i) default).dn ≠ -1 := ht16
    have hup := stps_up hd
    have hjl : j < dep r i := by
      rcases Nat.lt_or_ge j (dep r i) with h | h
      · exact h
      · rw [show j = dep r i by omega] at hd; exact absurd hdi.2.1 hd
    have hst : ((stps r (j + 1) i : Nat) : Int) = (r.getD (stps r j i) default).dn := by rw [hup]; omega
    have hdr : DM r i - DM r (stps r j i) + (r.getD (stps r j i) default).ls = DM r i - DM r (stps r (j + 1) i) := by rw [hup]; have := DM_d g hls hd; omega
    exact K.round_endW (L'' := []) [.int .i64 (r.getD (stps r j i) default).dn, .int .i64 (DM r i - DM r (stps r j i) + (r.getD (stps r j i) default).ls)] ⟨j + 1, by rw [hst, hdr], rfl, hjl, K.lt_succ_case hall (fun e => ht10 (by rw [e]))⟩ (by show dep r (r.getD (stps r j i) default).dn.toNat < dep r ((stps r j i : Nat) : Int).toNat; rw [← hup, Int.toNat_natCast, dep_stps g hi, dep_stps g hi]; omega) (List.nil_sublist _) (by kernel_rfl)
  try replace ht10 := of_decide_eq_false ht10
  refine K.exit ?_
  refine K.exit_then ?_
  refine K.exit_then ?_
  refine K.exit_here ?_
  refine K.norm_then ?_
  refine sr ?_
  refine qm ?_
  refine qa ?_
  refine sn ?_
  refine K.ret ?_
  refine K.end_ret (fun w _ => K.res_tmp rfl w) ?_
  have e0 : stps r j i = k := by omega
  exact K.gives_i rfl (by rw [drp_bl g hi ⟨j, e0⟩, e0])

set_option maxRecDepth 100000 in
theorem c55 {r : List RvT} {A : Option Addr} {c : Nat} {H : Option Addr} {d : Nat} {hs : List Int} {w : World} (hR : K.Rd w A 4 eR r) (hH : K.Rd w H 1 K.eI hs) (hl : hs.length = r.length) (g : Good r) (hb : ∀ j, j < r.length → -100000 ≤ hs.getD j default ∧ hs.getD j default ≤ 100000) :
    Calls Tryd.prog 55 [.slice A r.length c, .slice H hs.length d].toArray w (K.RetS 3 1 K.eI (badS r hs) w) := by
  have hgn := g.n
  refine K.enter (args := [.slice A r.length c, .slice H hs.length d]) Tryd.func55 rfl (n := 43) rfl ?_
  simp only [List.replicate, List.cons_append, List.nil_append]
  refine sr ?_
  refine qa ?_
  refine sn ?_
  refine sr ?_
  refine qa ?_
  refine sn ?_
  refine K.seq ?_
  refine sr ?_
  refine K.nil_row (e := 3) (size := 1) ?_
  refine qa ?_
  refine sn ?_
  refine K.block ?_
  refine K.loopW [5, 6] [7, 8, 9, 10, 11, 12, 13, 14, 15, 16, 17, 18, 19, 20, 21, 22, 23, 24, 25, 26, 27, 28, 29, 30, 31, 32, 33, 34, 35, 36, 37, 38, 39, 40, 41, 42, 43] (fun vi L => ∃ (i : Nat) (Q1 : Option Addr) (q1 : Nat), vi = [.slice Q1 (selN (badB r hs) i).length q1, .int .i64 (i : Int)] ∧ L = [K.row (.slice Q1 (selN (badB r hs) i).length q1) 3 1 (selN (badB r hs) i).length ((selN (badB r hs) i).flatMap K.eI)] ∧ i ≤ r.length) (fun vi => r.length - (intOf (K.nth vi 1)).toNat) ?_ ?_
  · exact ⟨0, none, 0, rfl, rfl, Nat.zero_le _⟩
  intro vi vr L hJ
  obtain ⟨i, Q1, q1, rfl, rfl, hin⟩ := hJ
  try dsimp only [setd, setn, ev, nth, over, cl, eI, eP, eT, eR, setM, setF, List.map, List.append, List.drop, List.take]
  refine K.seq ?_
  refine sr ?_
  iterate 2 refine qm ?_
  refine qp (K.len_sl sl_22 rfl) ?_
  refine qp (K.lss rfl rfl) ?_
  refine sn ?_
  refine K.cond rfl (fun ht10 => ?_) (fun ht10 => ?_)
  · try replace ht10 := of_decide_eq_true ht10
    have hi : i < r.length := by omega
    have hsl : (selN (badB r hs) i).length ≤ i := selN_len
    have hpi := g.p i hi
    have hbi := hb i hi
    refine K.skip ?_
    refine K.norm_then ?_
    refine K.seq ?_
    refine K.block ?_
    refine K.seq ?_
    refine K.draw_L [] Tryd_mixed ?_
    refine K.d_pure 0 rfl (K.move) (by kernel_rfl) rfl ?_
    refine zn ?_
    refine K.d_pure 1 rfl (K.move) (by kernel_rfl) rfl ?_
    refine zn ?_
    refine K.d_ix (M := []) 2 _ rfl hR.sl sl_22 rfl rfl rfl (by omega) (by kernel_rfl) rfl ?_
    intro p15 hp15
    refine zN ?_
    refine K.d_pure 3 rfl (K.fieldAddr fo_44_1 rfl) (by kernel_rfl) rfl ?_
    refine zn ?_
    refine K.d_mem 4 rfl (K.load1 one_3 rfl ((K.PtrL.fld hp15 (k := 1)).any)) (fun _ h => h) (by kernel_rfl) (by kernel_rfl) rfl ?_
    refine zN ?_
    refine K.d_pure 5 rfl (K.neq rfl rfl) (by kernel_rfl) rfl ?_
    refine zn ?_
    refine K.d_pure 6 rfl (K.move) (by kernel_rfl) rfl ?_
    refine zn ?_
    refine K.dsplit 19 rfl (fun hg19 => ?_) (fun hg19 => ?_)
    · try replace hg19 := of_decide_eq_true hg19
      have hd : (r.getD i default).dn ≠ -1 := hg19
      have hdl := dn_lt g hi hd
      have hdv : (((r.getD i default).dn.toNat : Nat) : Int) = (r.getD i default).dn := by omega
      have hbd := hb _ hdl
      refine K.d_pure 7 rfl (K.move) (by kernel_rfl) rfl ?_
      refine zn ?_
      refine K.d_pure 8 rfl (K.move) (by kernel_rfl) rfl ?_
      refine zn ?_
      refine K.d_ix (M := []) 9 _ rfl hH.sl sl_26 rfl rfl rfl (by omega) (by kernel_rfl) rfl ?_
      intro p22 hp22
      refine zN ?_
      refine K.d_mem 10 rfl (K.load1 one_3 rfl (hp22.any)) (fun _ h => h) (by kernel_rfl) (by kernel_rfl) rfl ?_
      refine zN ?_
      refine K.d_pure 11 rfl (K.move) (by kernel_rfl) rfl ?_
      refine zn ?_
      refine K.d_pure 12 rfl (K.move) (by kernel_rfl) rfl ?_
      refine zn ?_
      refine K.d_pure 13 rfl (K.move) (by kernel_rfl) rfl ?_
      refine zn ?_
      refine K.d_ix (M := []) 14 _ rfl hR.sl sl_22 rfl rfl rfl (by omega) (by kernel_rfl) rfl ?_
      intro p27 hp27
      refine zN ?_
      refine K.d_pure 15 rfl (K.fieldAddr fo_44_1 rfl) (by kernel_rfl) rfl ?_
      refine zn ?_
      refine K.d_mem 16 rfl (K.load1 one_3 rfl ((K.PtrL.fld hp27 (k := 1)).any)) (fun _ h => h) (by kernel_rfl) (by kernel_rfl) rfl ?_
      refine zN ?_
      refine K.d_ix (M := []) 17 (r.getD i default).dn.toNat rfl hH.sl sl_26 rfl rfl (by omega) (by omega) (by kernel_rfl) rfl ?_
      intro p30 hp30
      refine zN ?_
      refine K.d_mem 18 rfl (K.load1 one_3 rfl (hp30.any)) (fun _ h => h) (by kernel_rfl) (by kernel_rfl) rfl ?_
      refine zN ?_
      refine K.d_pure 19 rfl (K.move) (by kernel_rfl) rfl ?_
      refine zn ?_
      refine K.d_pure 20 rfl (K.move) (by kernel_rfl) rfl ?_
      refine zn ?_
      refine K.d_ix (M := []) 21 _ rfl hR.sl sl_22 rfl rfl rfl (by omega) (by kernel_rfl) rfl ?_
      intro p34 hp34
      refine zN ?_
      refine K.d_pure 22 rfl (K.fieldAddr fo_44_2 rfl) (by kernel_rfl) rfl ?_
      refine zn ?_
      refine K.d_mem 23 rfl (K.load1 one_3 rfl ((K.PtrL.fld hp34 (k := 2)).any)) (fun _ h => h) (by kernel_rfl) (by kernel_rfl) rfl ?_
      refine zN ?_
      refine K.d_pure 24 rfl (K.add_i64 rfl rfl (by omega)) (by kernel_rfl) rfl ?_
      refine zn ?_
      refine K.d_pure 25 rfl (K.lss rfl rfl) (by kernel_rfl) rfl ?_
      refine zn ?_
      refine K.d_pure 26 rfl (K.pick_t rfl) (by kernel_rfl) rfl ?_
      refine zn ?_
      refine K.d_done (by kernel_rfl) ?_
      refine K.norm_then ?_
      refine K.cond rfl (fun ht39 => ?_) (fun ht39 => ?_)
      · try replace ht39 := of_decide_eq_true ht39
        refine K.region_lit ?_
        iterate 2 refine qm ?_
        refine K.seq_new (K.buildSlice (bs1 _)) rfl ?_
        intro b42
        refine zN ?_
        refine K.seq_upd (K.append el_26 rfl rfl (K.PtrL.own' (K.m0)) rfl rfl (by decide) (by omega) (by omega) (fun _ _ => K.rp1)) rfl ?_
        rintro ⟨g43, c43⟩ _
        refine zN ?_
        refine qa ?_
        refine K.seq_nil ?_
        refine K.norm_block ?_
        refine K.norm_then ?_
        refine K.region_lit ?_
        refine qm ?_
        refine qp (K.add_i64 rfl rfl (by omega)) ?_
        refine qa ?_
        refine K.seq_nil ?_
        have hbb : badB r hs i = true := bad_iff.2 ⟨hd, by omega⟩
        have hsn := selN_yes hbb
        exact K.round_endW (L'' := [K.row (.slice (some ⟨g43, 0, none⟩) ((selN (badB r hs) i).length + 1) c43) 3 1 ((selN (badB r hs) i).length + 1) ((selN (badB r hs) i).flatMap K.eI ++ [.int .i64 (i : Int)])]) [.slice (some ⟨g43, 0, none⟩) ((selN (badB r hs) i).length + 1) c43, .int .i64 ((i : Int) + 1)] ⟨i + 1, some ⟨g43, 0, none⟩, c43, by rw [hsn, List.length_append]; rfl, by rw [hsn, List.length_append, List.flatMap_append]; rfl, by omega⟩ (by simp [K.nth, intOf]; omega) (List.Sublist.cons _ (List.Sublist.refl _)) (by kernel_rfl)
      try replace ht39 := of_decide_eq_false ht39
      refine K.skip ?_
      refine K.norm_block ?_
      refine K.norm_then ?_
      refine K.region_lit ?_
      refine qm ?_
      refine qp (K.add_i64 rfl rfl (by omega)) ?_
      refine qa ?_
      refine K.seq_nil ?_
      have hbb : badB r hs i = false := by first | exact bad_no.2 (.inl (Decidable.not_not.1 hd)) | exact bad_no.2 (.inr (by omega))
      have hsn := selN_no hbb
      exact K.round_endW (L'' := [K.row (.slice Q1 (selN (badB r hs) i).length q1) 3 1 (selN (badB r hs) i).length ((selN (badB r hs) i).flatMap K.eI)]) [.slice Q1 (selN (badB r hs) i).length q1, .int .i64 ((i : Int) + 1)] ⟨i + 1, Q1, q1, by rw [hsn]; rfl, by rw [hsn], by omega⟩ (by simp [K.nth, intOf]; omega) (List.Sublist.refl _) (by kernel_rfl)
    try replace hg19 := of_decide_eq_false hg19
    have hd : ¬ (r.getD i default).dn ≠ -1 := hg19
    refine K.d_skip 7 rfl (by kernel_rfl) rfl ?_
    refine zN ?_
    refine K.d_skip 8 rfl (by kernel_rfl) rfl ?_
    refine zN ?_
    refine K.d_skip 9 rfl (by kernel_rfl) rfl ?_
    refine zN ?_
    refine K.d_skip 10 rfl (by kernel_rfl) rfl ?_
    refine zN ?_
    refine K.d_skip 11 rfl (by kernel_rfl) rfl ?_
    refine zN ?_
    refine K.d_skip 12 rfl (by kernel_rfl) rfl ?_
    refine zN ?_
    refine K.d_skip 13 rfl (by kernel_rfl) rfl ?_
    refine zN ?_
    refine K.d_skip 14 rfl (by kernel_rfl) rfl ?_
    refine zN ?_
    refine K.d_skip 15 rfl (by kernel_rfl) rfl ?_
    refine zN ?_
    refine K.d_skip 16 rfl (by kernel_rfl) rfl ?_
    refine zN ?_
    refine K.d_skip 17 rfl (by kernel_rfl) rfl ?_
    refine zN ?_
    refine K.d_skip 18 rfl (by kernel_rfl) rfl ?_
    refine zN ?_
    refine K.d_skip 19 rfl (by kernel_rfl) rfl ?_
    refine zN ?_
    refine K.d_skip 20 rfl (by kernel_rfl) rfl ?_
    refine zN ?_
    refine K.d_skip 21 rfl (by kernel_rfl) rfl ?_
    refine zN ?_
    refine K.d_skip 22 rfl (by kernel_rfl) rfl ?_
    refine zN ?_
    refine K.d_skip 23 rfl (by kernel_rfl) rfl ?_
    refine zN ?_
    refine K.d_skip 24 rfl (by kernel_rfl) rfl ?_
    refine zN ?_
    refine K.d_skip 25 rfl (by kernel_rfl) rfl ?_
    refine zN ?_
    refine K.d_pure 26 rfl (K.pick_f rfl) (by kernel_rfl) rfl ?_
    refine zn ?_
    refine K.d_done (by kernel_rfl) ?_
    refine K.norm_then ?_
    refine K.cond_false rfl ?_
    refine K.skip ?_
    refine K.norm_block ?_
    refine K.norm_then ?_
    refine K.region_lit ?_
    refine qm ?_
    refine qp (K.add_i64 rfl rfl (by omega)) ?_
    refine qa ?_
    refine K.seq_nil ?_
    have hbb : badB r hs i = false := by first | exact bad_no.2 (.inl (Decidable.not_not.1 hd)) | exact bad_no.2 (.inr (by omega))
    have hsn := selN_no hbb
    exact K.round_endW (L'' := [K.row (.slice Q1 (selN (badB r hs) i).length q1) 3 1 (selN (badB r hs) i).length ((selN (badB r hs) i).flatMap K.eI)]) [.slice Q1 (selN (badB r hs) i).length q1, .int .i64 ((i : Int) + 1)] ⟨i + 1, Q1, q1, by rw [hsn]; rfl, by rw [hsn], by omega⟩ (by simp [K.nth, intOf]; omega) (List.Sublist.refl _) (by kernel_rfl)
  try replace ht10 := of_decide_eq_false ht10
  refine K.exit ?_
  refine K.exit_then ?_
  refine K.exit_then ?_
  refine K.exit_here ?_
  refine K.norm_then ?_
  refine sr ?_
  refine qm ?_
  refine qa ?_
  refine sn ?_
  refine K.ret ?_
  refine K.end_ret (fun w _ => K.res_tmp rfl w) ?_
  have e0 : i = r.length := by omega
  subst e0
  exact K.rets_s K.m0 rfl rfl rfl

set_option maxRecDepth 100000 in
theorem c56 {r : List RvT} {A : Option Addr} {c : Nat} {w : World} (hR : K.Rd w A 4 eR r) (hn : r.length ≤ 1000000) :
    Calls Tryd.prog 56 [.slice A r.length c].toArray w (K.RetS 3 1 K.eI (ownS r) w) := by
  refine K.enter (args := [.slice A r.length c]) Tryd.func56 rfl (n := 19) rfl ?_
  simp only [List.replicate, List.cons_append, List.nil_append]
  refine sr ?_
  refine qa ?_
  refine sn ?_
  refine sr ?_
  refine qa ?_
  refine sn ?_
  refine K.seq ?_
  refine sr ?_
  refine K.nil_row (e := 3) (size := 1) ?_
  refine qa ?_
  refine sn ?_
  refine K.block ?_
  refine K.loopW [3, 4] [5, 6, 7, 8, 9, 10, 11, 12, 13, 14, 15, 16, 17, 18] (fun vi L => ∃ (i : Nat) (Q1 : Option Addr) (q1 : Nat), vi = [.slice Q1 ((r.take i).map (·.ht)).length q1, .int .i64 (i : Int)] ∧ L = [K.row (.slice Q1 ((r.take i).map (·.ht)).length q1) 3 1 ((r.take i).map (·.ht)).length (((r.take i).map (·.ht)).flatMap K.eI)] ∧ i ≤ r.length) (fun vi => r.length - (intOf (K.nth vi 1)).toNat) ?_ ?_
  · exact ⟨0, none, 0, rfl, rfl, Nat.zero_le _⟩
  intro vi vr L hJ
  obtain ⟨i, Q1, q1, rfl, rfl, hin⟩ := hJ
  try dsimp only [setd, setn, ev, nth, over, cl, eI, eP, eT, eR, setM, setF, List.map, List.append, List.drop, List.take]
  refine K.seq ?_
  refine sr ?_
  iterate 2 refine qm ?_
  refine qp (K.len_sl sl_22 rfl) ?_
  refine qp (K.lss rfl rfl) ?_
  refine sn ?_
  refine K.cond rfl (fun ht8 => ?_) (fun ht8 => ?_)
  · try replace ht8 := of_decide_eq_true ht8
    have hi : i < r.length := by omega
    have hsl : ((r.take i).map (·.ht)).length = i := by rw [List.length_map, List.length_take]; omega
    refine K.skip ?_
    refine K.norm_then ?_
    refine K.seq ?_
    refine K.block ?_
    refine K.region_lit ?_
    iterate 3 refine qm ?_
    refine K.seq_ix (M := []) _ hR.sl sl_22 rfl rfl rfl (by omega) rfl ?_
    intro p14 hp14
    refine zN ?_
    refine qp (K.fieldAddr fo_44_3 rfl) ?_
    refine K.seq_sil (K.load1 one_3 rfl ((K.PtrL.fld hp14 (k := 3)).any)) rfl ?_
    refine zN ?_
    refine K.seq_new (K.buildSlice (bs1 _)) rfl ?_
    intro b17
    refine zN ?_
    refine K.seq_upd (K.append el_26 rfl rfl (K.PtrL.own' (K.m0)) rfl rfl (by decide) (by omega) (by omega) (fun _ _ => K.rp1)) rfl ?_
    rintro ⟨g18, c18⟩ _
    refine zN ?_
    refine qa ?_
    refine K.seq_nil ?_
    refine K.norm_block ?_
    refine K.norm_then ?_
    refine K.region_lit ?_
    refine qm ?_
    refine qp (K.add_i64 rfl rfl (by omega)) ?_
    refine qa ?_
    refine K.seq_nil ?_
    have hsn := own_s hi
    exact K.round_endW (L'' := [K.row (.slice (some ⟨g18, 0, none⟩) (((r.take i).map (·.ht)).length + 1) c18) 3 1 (((r.take i).map (·.ht)).length + 1) (((r.take i).map (·.ht)).flatMap K.eI ++ [.int .i64 (r.getD i default).ht])]) [.slice (some ⟨g18, 0, none⟩) (((r.take i).map (·.ht)).length + 1) c18, .int .i64 ((i : Int) + 1)] ⟨i + 1, some ⟨g18, 0, none⟩, c18, by rw [hsn, List.length_append]; rfl, by rw [hsn, List.length_append, List.flatMap_append]; rfl, by omega⟩ (by simp [K.nth, intOf]; omega) (List.Sublist.cons _ (List.Sublist.refl _)) (by kernel_rfl)
  try replace ht8 := of_decide_eq_false ht8
  refine K.exit ?_
  refine K.exit_then ?_
  refine K.exit_then ?_
  refine K.exit_here ?_
  refine K.norm_then ?_
  refine sr ?_
  refine qm ?_
  refine qa ?_
  refine sn ?_
  refine K.ret ?_
  refine K.end_ret (fun w _ => K.res_tmp rfl w) ?_
  have e0 : i = r.length := by omega
  subst e0
  have hs : ((r.take r.length).map (·.ht)) = ownS r := by rw [List.take_length]; rfl
  rw [hs]
  exact K.rets_s K.m0 rfl rfl rfl

set_option maxRecDepth 100000 in
theorem c35 {r : List RvT} {A : Option Addr} {c : Nat} {w : World} (hR : K.Rd w A 4 eR r) (hn : r.length ≤ 4611686018427387904) :
    Calls Tryd.prog 35 [.slice A r.length c].toArray w (K.Gives (.bool (decide ((chk r).2.2 = 0))) w) := by
  refine K.enter (args := [.slice A r.length c]) Tryd.func35 rfl (n := 13) rfl ?_
  simp only [List.replicate, List.cons_append, List.nil_append]
  refine sr ?_
  refine qa ?_
  refine sn ?_
  refine sr ?_
  refine qm ?_
  refine K.seq_call (K.call_g cal_15 (fun F w hF hw => c15 (hR.pass hw) hn)) rfl ?_
  refine zN ?_
  refine qm ?_
  refine qx ?_
  refine qx ?_
  refine qx ?_
  iterate 3 refine qa ?_
  refine sn ?_
  refine sr ?_
  refine qm ?_
  refine qp (K.eql rfl rfl) ?_
  refine qa ?_
  refine sn ?_
  refine K.ret ?_
  refine K.end_ret (fun w _ => K.res_tmp rfl w) ?_
  exact K.gives rfl

end Go.Proofs.YtoemnobfnnjopaaDoor
