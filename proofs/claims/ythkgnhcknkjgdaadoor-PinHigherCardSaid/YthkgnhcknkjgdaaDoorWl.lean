/-
  Walks of the program's functions, printed by program: what each returns.
  Conditions stand in each theorem.
-/
import Derived.WalkArith
import Derived.Laws.Closers25b
import Derived.Test.YthkgnhcknkjgdaaDoorWk
set_option linter.unusedSimpArgs false
set_option linter.unusedVariables false
namespace Go.Proofs.YthkgnhcknkjgdaaDoor
open Go.RowKit Go
open Go.K (setd setn ev nth over cl eI eP eT setM setF)
attribute [local irreducible] K.blk K.row

set_option maxRecDepth 100000 in
theorem c95 {gf : Nat} {cap : List Value} {pre : (Nat → Prop) → World → Prop} {XS : List Int} {w : World} (hcal : K.callable Tryd.prog gf = true) (hit : R.IterC Tryd.prog gf [] cap pre (fun n : Int => Value.int .i64 n) XS) (hpre : ∀ f w1, Below w.heap.size w w1 → (∀ i, i < w.heap.size → ¬ f i) → pre f w1) (hX : XS.length ≤ 1000000) :
    Calls Tryd.prog 95 [.slice none 0 0, .func (.func gf) #[] cap.toArray].toArray w (K.RetS 3 1 K.eI XS w) := by
  refine R.enter (args := [.slice none 0 0, .func (.func gf) #[] cap.toArray]) Tryd.func95 rfl (m := 11) rfl ?_
  simp only [List.replicate, List.cons_append, List.nil_append]
  refine R.seq ?_
  refine R.region_lit rfl ?_
  refine K.seq_new (K.box) rfl ?_
  intro b2
  refine zN ?_
  refine qa ?_
  refine K.seq_nil ?_
  refine R.out ?_
  refine R.norm_then ?_
  refine R.seq ?_
  refine R.seq ?_
  refine R.region_lit rfl ?_
  refine K.nil_row (e := 3) (size := 1) ?_
  refine qm ?_
  refine K.seq_nil ?_
  refine R.out ?_
  refine R.norm_then ?_
  refine R.block ?_
  refine R.rangeC (gf := gf) (first := []) (cap := cap) (enc := (fun n : Int => Value.int .i64 n)) (XS := XS) rfl hcal [K.row (.slice none 0 0) 3 1 0 [], K.blk b2 22 [.slice none 0 0]] [] (K.st_perm (show List.Perm [K.row (.slice none 0 0) 3 1 0 [], K.blk b2 22 [.slice none 0 0]] ([K.row (.slice none 0 0) 3 1 0 [], K.blk b2 22 [.slice none 0 0]] ++ []) from (List.Perm.refl _))) R.fixN hit (fun f w1 hf => hpre f w1 hf.1.1 hf.2.2) (fun k L => ∃ (Q1 : Option Addr) (q1 : Nat), L = [K.row (.slice Q1 (XS.take k).length q1) 3 1 (XS.take k).length ((XS.take k).flatMap K.eI), K.blk b2 22 [.slice Q1 (XS.take k).length q1]]) (fun cX L => False) ?_ ?_ ?_ ?_
  · exact ⟨none, 0, rfl⟩
  · intro k s L lr E hs hE hJ
    obtain ⟨Q1, q1, rfl⟩ := hJ
    have hkl : k < XS.length := (List.getElem?_eq_some_iff.1 hs).1
    have htk : (XS.take k).length = k := by rw [List.length_take]; omega
    try dsimp only [List.cons_append, List.nil_append]
    try dsimp only [setd, setn, ev, nth, over, cl, eI, eP, eT, eN, eS, setM, setF, List.map, List.append, List.drop, List.take]
    refine R.region_lit rfl ?_
    refine qa ?_
    refine K.seq_nil ?_
    refine R.out ?_
    refine R.norm_then ?_
    refine R.bodyC' rfl (fun E hE => ?_)
    dsimp only [List.dropLast, List.cons_append, List.nil_append]
    refine zN ?_
    refine R.block ?_
    refine R.region_lit rfl ?_
    refine K.seq_sil (K.load1_own one_22 rfl (K.m1) rfl) rfl ?_
    refine zN ?_
    refine qm ?_
    refine K.seq_new (K.buildSlice (bs1 _)) rfl ?_
    intro b10
    refine zN ?_
    refine K.seq_upd (K.append el_22 rfl rfl (K.PtrL.own' (K.m0)) rfl rfl (by decide) (by omega) (by omega) (fun _ _ => K.rp1)) rfl ?_
    rintro ⟨g11, c11⟩ _
    refine zN ?_
    refine K.seq_st (K.store sz_22 rfl rfl rfl rfl (K.rp2)) rfl ?_
    refine zN ?_
    refine K.seq_nil ?_
    refine R.out ?_
    refine R.norm_block ?_
    have e1 : (XS.take (k + 1)) = (XS.take k) ++ [s] := by rw [List.take_add_one, hs]; rfl
    exact R.rp_normal (L := [K.row (.slice (some ⟨g11, 0, none⟩) ((XS.take k).length + 1) c11) 3 1 ((XS.take k).length + 1) ((XS.take k).flatMap K.eI ++ [.int .i64 s]), K.blk b2 22 [.slice (some ⟨g11, 0, none⟩) ((XS.take k).length + 1) c11]]) ⟨some ⟨g11, 0, none⟩, c11, by rw [e1, List.length_append, List.flatMap_append]; rfl⟩ (by repeat (first | exact List.Sublist.refl _ | apply List.Sublist.cons))
  · intro bD L hJ
    obtain ⟨Q1, q1, rfl⟩ := hJ
    rw [List.take_length]
    try dsimp only [List.cons_append, List.nil_append]
    try dsimp only [setd, setn, ev, nth, over, cl, eI, eP, eT, eN, eS, setM, setF, List.map, List.append, List.drop, List.take]
    refine R.norm_block ?_
    refine R.norm_then ?_
    refine R.seq ?_
    refine R.region_lit rfl ?_
    refine K.seq_sil (K.load1_own one_22 rfl (K.m1) rfl) rfl ?_
    refine zN ?_
    refine qa ?_
    refine K.seq_nil ?_
    refine R.out ?_
    refine R.norm_then ?_
    refine R.ret ?_
    refine R.end_ret1 rfl (by dsimp only [List.dropLast]; exact (fun w _ => K.res_tmp rfl w)) ?_
    dsimp only [List.dropLast]
    exact K.rets_s K.m0 rfl rfl rfl
  · intro bD cX L hJ
    exact hJ.elim
    skip

set_option maxRecDepth 100000 in
theorem c62 {gf : Nat} {cap : List Value} {pre : (Nat → Prop) → World → Prop} {XS : List Int} {w : World} (hcal : K.callable Tryd.prog gf = true) (hit : R.IterC Tryd.prog gf [] cap pre (fun n : Int => Value.int .i64 n) XS) (hpre : ∀ f w1, Below w.heap.size w w1 → (∀ i, i < w.heap.size → ¬ f i) → pre f w1) (hX : XS.length ≤ 1000000) :
    Calls Tryd.prog 62 [.func (.func gf) #[] cap.toArray].toArray w (K.RetS 3 1 K.eI XS w) := by
  refine K.enter (args := [.func (.func gf) #[] cap.toArray]) Tryd.func62 rfl (n := 4) rfl ?_
  simp only [List.replicate, List.cons_append, List.nil_append]
  refine sr ?_
  refine qa ?_
  refine sn ?_
  refine sr ?_
  refine qm ?_
  refine K.seq_loud (K.call_f cal_95 (fun F w hF hw => c95 hcal hit (fun f w1 hb hf => hpre f w1 (hw.1.trans (hb.mono hw.1.size)) (fun i hi => hf i (Nat.lt_of_lt_of_le hi hw.1.size))) hX)) rfl ?_
  rintro ⟨Q1, q1⟩ hq
  refine zN ?_
  refine qa ?_
  refine sn ?_
  refine K.ret ?_
  refine K.end_ret (fun w _ => K.res_tmp rfl w) ?_
  exact K.rets_s K.m0 rfl rfl rfl

set_option maxRecDepth 100000 in
theorem c65 {m : Mod} {A B C : Option Addr} {c d e : Nat} {s p : Int} {w : World} (hH : K.Rd w A 1 K.eI m.hs) (hP : K.Rd w B 5 eN m.ps) (hS : K.Rd w C 4 eS m.ss) (hn : m.hs.length ≤ 4611686018427387904) (hm : m.ps.length ≤ 4611686018427387904) (hk : m.ss.length ≤ 4611686018427387904) (hs : -9223372036854775808 ≤ s ∧ s ≤ 9223372036854775807) :
    Calls Tryd.prog 65 [.agg #[.int .i64 m.W, .int .i64 m.D, .slice A m.hs.length c, .slice B m.ps.length d, .slice C m.ss.length e], .int .i64 s, .int .i64 p].toArray w (K.Gives (.int .i64 (askE m s p)) w) := by
  refine K.enter (args := [.agg #[.int .i64 m.W, .int .i64 m.D, .slice A m.hs.length c, .slice B m.ps.length d, .slice C m.ss.length e], .int .i64 s, .int .i64 p]) Tryd.func65 rfl (n := 34) rfl ?_
  simp only [List.replicate, List.cons_append, List.nil_append]
  refine sr ?_
  refine K.seq_new (K.box) rfl ?_
  intro b3
  refine zN ?_
  refine qa ?_
  refine sn ?_
  refine sr ?_
  refine K.seq_sil (K.loadA_own ag_26 rfl (K.m0) rfl) rfl ?_
  refine zN ?_
  refine K.seq_call (K.call_g cal_17 (fun F w hF hw => c17 (hH.pass hw) (hP.pass hw) (hS.pass hw) hn hm hk)) rfl ?_
  refine zN ?_
  refine qm ?_
  refine qx ?_
  refine qx ?_
  refine qx ?_
  iterate 3 refine qa ?_
  refine sn ?_
  refine K.seq ?_
  refine sr ?_
  refine qm ?_
  refine qp (K.eql rfl rfl) ?_
  refine qm ?_
  refine K.split 18 rfl (fun hg18 => ?_) (fun hg18 => ?_)
  · try replace hg18 := of_decide_eq_true hg18
    refine qm ?_
    refine qp (K.fieldAddr_lit fo_26_4 rfl) ?_
    refine K.seq_sil (K.load1_own one_24 rfl (K.m0) rfl) rfl ?_
    refine zN ?_
    refine qp (K.len_sl sl_24 rfl) ?_
    refine qp (K.sub_i64 rfl rfl (by omega)) ?_
    refine K.seq_call (K.call_g cal_57 (fun F w hF hw => c57 w)) rfl ?_
    refine zN ?_
    first | refine K.seq_pure (K.not_d rfl) rfl ?_ | refine K.seq_pure (K.not_ rfl) rfl ?_
    refine zN ?_
    refine qm ?_
    refine K.split 26 rfl (fun hg26 => ?_) (fun hg26 => ?_)
    · try replace hg26 := of_decide_eq_true hg26
      iterate 7 refine qs ?_
      refine qp (K.pick_t rfl) ?_
      refine qp (K.pick_t rfl) ?_
      refine sn ?_
      refine K.cond_true rfl ?_
      refine K.region_lit ?_
      refine qa ?_
      refine sn ?_
      refine sr ?_
      refine qm ?_
      refine qa ?_
      refine sn ?_
      refine K.ret ?_
      refine K.end_ret (fun w _ => K.res_tmp rfl w) ?_
      exact K.gives_i rfl (by unfold askE asE; rw [if_neg (by omega), if_pos (by omega)])
    try replace hg26 := of_decide_eq_false hg26
    refine qm ?_
    refine qp (K.fieldAddr_lit fo_26_3 rfl) ?_
    refine K.seq_sil (K.load1_own one_23 rfl (K.m0) rfl) rfl ?_
    refine zN ?_
    refine qp (K.len_sl sl_23 rfl) ?_
    refine qp (K.sub_i64 rfl rfl (by omega)) ?_
    refine K.seq_call (K.call_g cal_57 (fun F w hF hw => c57 w)) rfl ?_
    refine zN ?_
    first | refine K.seq_pure (K.not_d rfl) rfl ?_ | refine K.seq_pure (K.not_ rfl) rfl ?_
    refine zN ?_
    refine qp (K.pick_f rfl) ?_
    refine qp (K.pick_t rfl) ?_
    refine sn ?_
    refine K.cond rfl (fun ht35 => ?_) (fun ht35 => ?_)
    · try replace ht35 := of_decide_eq_true ht35
      refine K.region_lit ?_
      refine qa ?_
      refine sn ?_
      refine sr ?_
      refine qm ?_
      refine qa ?_
      refine sn ?_
      refine K.ret ?_
      refine K.end_ret (fun w _ => K.res_tmp rfl w) ?_
      exact K.gives_i rfl (by unfold askE asE; rw [if_neg (by omega), if_pos (by omega)])
    try replace ht35 := of_decide_eq_false ht35
    refine K.skip ?_
    refine K.norm_then ?_
    refine sr ?_
    refine qm ?_
    refine qa ?_
    refine sn ?_
    refine K.ret ?_
    refine K.end_ret (fun w _ => K.res_tmp rfl w) ?_
    exact K.gives_i rfl (by unfold askE asE; rw [if_neg (by omega), if_neg (by omega)]; omega)
  try replace hg18 := of_decide_eq_false hg18
  iterate 16 refine qs ?_
  refine qp (K.pick_f rfl) ?_
  refine sn ?_
  refine K.cond_false rfl ?_
  refine K.skip ?_
  refine K.norm_then ?_
  refine sr ?_
  refine qm ?_
  refine qa ?_
  refine sn ?_
  refine K.ret ?_
  refine K.end_ret (fun w _ => K.res_tmp rfl w) ?_
  exact K.gives_i rfl (by unfold askE; rw [if_pos (by omega)])

set_option maxRecDepth 100000 in
theorem c37 {m : Mod} {A B C : Option Addr} {c d e : Nat} {w : World} (hH : K.Rd w A 1 K.eI m.hs) (hP : K.Rd w B 5 eN m.ps) (hS : K.Rd w C 4 eS m.ss) (hn : m.hs.length ≤ 4611686018427387904) (hm : m.ps.length ≤ 4611686018427387904) (hk : m.ss.length ≤ 4611686018427387904) :
    Calls Tryd.prog 37 [.agg #[.int .i64 m.W, .int .i64 m.D, .slice A m.hs.length c, .slice B m.ps.length d, .slice C m.ss.length e]].toArray w (K.Gives (.bool (decide ((chk m).2.2 = 0))) w) := by
  refine K.enter (args := [.agg #[.int .i64 m.W, .int .i64 m.D, .slice A m.hs.length c, .slice B m.ps.length d, .slice C m.ss.length e]]) Tryd.func37 rfl (n := 13) rfl ?_
  simp only [List.replicate, List.cons_append, List.nil_append]
  refine sr ?_
  refine K.seq_new (K.box) rfl ?_
  intro b1
  refine zN ?_
  refine qa ?_
  refine sn ?_
  refine sr ?_
  refine K.seq_sil (K.loadA_own ag_26 rfl (K.m0) rfl) rfl ?_
  refine zN ?_
  refine K.seq_call (K.call_g cal_17 (fun F w hF hw => c17 (hH.pass hw) (hP.pass hw) (hS.pass hw) hn hm hk)) rfl ?_
  refine zN ?_
  refine qm ?_
  refine qx ?_
  refine qx ?_
  refine qx ?_
  iterate 3 refine qa ?_
  refine sn ?_
  refine sr ?_
  refine qm ?_
  refine qp (K.eql rfl rfl) ?_
  refine qa ?_
  refine sn ?_
  refine K.ret ?_
  refine K.end_ret (fun w _ => K.res_tmp rfl w) ?_
  exact K.gives rfl

set_option maxRecDepth 100000 in
theorem c43 {m : Mod} {A B C : Option Addr} {c d e : Nat} {w : World} (hP : K.Rd w B 5 eN m.ps) (hm : m.ps.length ≤ 1000) :
    Calls Tryd.prog 43 [.agg #[.int .i64 m.W, .int .i64 m.D, .slice A m.hs.length c, .slice B m.ps.length d, .slice C m.ss.length e]].toArray w (K.RetS 3 1 K.eI (ownS m) w) := by
  refine K.enter (args := [.agg #[.int .i64 m.W, .int .i64 m.D, .slice A m.hs.length c, .slice B m.ps.length d, .slice C m.ss.length e]]) Tryd.func43 rfl (n := 21) rfl ?_
  simp only [List.replicate, List.cons_append, List.nil_append]
  refine sr ?_
  refine K.seq_new (K.box) rfl ?_
  intro b1
  refine zN ?_
  refine qa ?_
  refine sn ?_
  refine sr ?_
  refine qa ?_
  refine sn ?_
  refine K.seq ?_
  refine sr ?_
  refine K.nil_row (e := 3) (size := 1) ?_
  refine qa ?_
  refine sn ?_
  refine K.block ?_
  refine K.loopW [3, 4] [5, 6, 7, 8, 9, 10, 11, 12, 13, 14, 15, 16, 17, 18, 19, 20] (fun vi L => ∃ (k : Nat) (Q1 : Option Addr) (q1 : Nat), vi = [.slice Q1 ((m.ps.take k).map (·.len)).length q1, .int .i64 (k : Int)] ∧ L = [K.row (.slice Q1 ((m.ps.take k).map (·.len)).length q1) 3 1 ((m.ps.take k).map (·.len)).length (((m.ps.take k).map (·.len)).flatMap K.eI), K.blk b1 26 [.int .i64 m.W, .int .i64 m.D, .slice A m.hs.length c, .slice B m.ps.length d, .slice C m.ss.length e]] ∧ k ≤ m.ps.length) (fun vi => m.ps.length - (intOf (K.nth vi 1)).toNat) ?_ ?_
  · exact ⟨0, none, 0, rfl, rfl, Nat.zero_le _⟩
  intro vi vr L hJ
  obtain ⟨k, Q1, q1, rfl, rfl, hkn⟩ := hJ
  have htk : ((m.ps.take k).map (·.len)).length = k := by rw [List.length_map, List.length_take]; omega
  try dsimp only [setd, setn, ev, nth, over, cl, eI, eP, eT, eN, eS, setM, setF, List.map, List.append, List.drop, List.take]
  refine K.seq ?_
  refine sr ?_
  refine qm ?_
  refine qp (K.fieldAddr_lit fo_26_3 rfl) ?_
  refine K.seq_sil (K.load1_own one_23 rfl (K.m1) rfl) rfl ?_
  refine zN ?_
  refine qp (K.len_sl sl_23 rfl) ?_
  refine qp (K.lss rfl rfl) ?_
  refine sn ?_
  refine K.cond rfl (fun ht9 => ?_) (fun ht9 => ?_)
  · try replace ht9 := of_decide_eq_true ht9
    have hk : k < m.ps.length := by omega
    refine K.skip ?_
    refine K.norm_then ?_
    refine K.seq ?_
    refine K.block ?_
    refine K.region_lit ?_
    refine qm ?_
    refine qp (K.fieldAddr_lit fo_26_3 rfl) ?_
    refine K.seq_sil (K.load1_own one_23 rfl (K.m1) rfl) rfl ?_
    refine zN ?_
    refine qm ?_
    refine K.seq_ix (M := []) _ hP.sl sl_23 rfl rfl rfl (by omega) rfl ?_
    intro p16 hp16
    refine zN ?_
    refine qp (K.fieldAddr fo_54_3 rfl) ?_
    refine K.seq_sil (K.load1 one_3 rfl ((K.PtrL.fld hp16 (k := 3)).any)) rfl ?_
    refine zN ?_
    refine K.seq_new (K.buildSlice (bs1 _)) rfl ?_
    intro b19
    refine zN ?_
    refine K.seq_upd (K.append el_22 rfl rfl (K.PtrL.own' (K.m0)) rfl rfl (by decide) (by omega) (by omega) (fun _ _ => K.rp1)) rfl ?_
    rintro ⟨g20, c20⟩ _
    refine zN ?_
    refine qa ?_
    refine K.seq_nil ?_
    refine K.norm_block ?_
    refine K.norm_then ?_
    refine K.region_lit ?_
    refine qm ?_
    refine qp (K.add_i64 rfl rfl (by omega)) ?_
    refine qa ?_
    refine K.seq_nil ?_
    exact K.round_endW (L'' := [K.row (.slice (some ⟨g20, 0, none⟩) (((m.ps.take k).map (·.len)).length + 1) c20) 3 1 (((m.ps.take k).map (·.len)).length + 1) (((m.ps.take k).map (·.len)).flatMap K.eI ++ [.int .i64 (m.ps.getD k default).len]), K.blk b1 26 [.int .i64 m.W, .int .i64 m.D, .slice A m.hs.length c, .slice B m.ps.length d, .slice C m.ss.length e]]) [.slice (some ⟨g20, 0, none⟩) (((m.ps.take k).map (·.len)).length + 1) c20, .int .i64 ((k : Int) + 1)] ⟨k + 1, some ⟨g20, 0, none⟩, c20, by rw [take_succ_map _ hk, List.length_append]; rfl, by rw [take_succ_map _ hk, List.length_append, List.flatMap_append]; rfl, by omega⟩ (by simp [K.nth, intOf]; omega) (by repeat (first | exact List.Sublist.refl _ | apply List.Sublist.cons)) (by kernel_rfl)
  try replace ht9 := of_decide_eq_false ht9
  refine K.exit ?_
  refine K.exit_then ?_
  refine K.exit_then ?_
  refine K.exit_here ?_
  refine K.norm_then ?_
  refine sr ?_
  refine qm ?_
  refine qa ?_
  refine sn ?_
  refine K.ret ?_
  refine K.end_ret (fun w _ => K.res_tmp rfl w) ?_
  have e0 : k = m.ps.length := by omega
  exact K.rets_s K.m0 (by rw [e0, List.take_length]; rfl) (by rw [e0, List.take_length]; rfl) rfl

set_option maxRecDepth 100000 in
theorem e61 {m : Mod} {A B C : Option Addr} {c d e : Nat} {s p : Int} {w : World} (hH : K.Rd w A 1 K.eI m.hs) (hP : K.Rd w B 5 eN m.ps) (hS : K.Rd w C 4 eS m.ss) (hn : m.hs.length ≤ 4611686018427387904) (hm : m.ps.length ≤ 4611686018427387904) (hk : m.ss.length ≤ 4611686018427387904) (hcd : m.ps.length ≤ d) (hc : (chk m).2.2 ≠ 0) :
    Calls Tryd.prog 61 [.agg #[.int .i64 m.W, .int .i64 m.D, .slice A m.hs.length c, .slice B m.ps.length d, .slice C m.ss.length e], .int .i64 s, .int .i64 p].toArray w (K.Gives (.tuple #[.pointer none, .int .i64 (chk m).2.2]) w) := by
  refine K.enter (args := [.agg #[.int .i64 m.W, .int .i64 m.D, .slice A m.hs.length c, .slice B m.ps.length d, .slice C m.ss.length e], .int .i64 s, .int .i64 p]) Tryd.func61 rfl (n := 34) rfl ?_
  simp only [List.replicate, List.cons_append, List.nil_append]
  refine sr ?_
  refine K.seq_new (K.box) rfl ?_
  intro b3
  refine zN ?_
  iterate 2 refine qa ?_
  refine sn ?_
  refine sr ?_
  refine K.seq_sil (K.loadA_own ag_26 rfl (K.m0) rfl) rfl ?_
  refine zN ?_
  refine K.seq_call (K.call_g cal_67 (fun F w hF hw => e67 (hH.pass hw) (hP.pass hw) (hS.pass hw) hn hm hk hcd hc)) rfl ?_
  refine zN ?_
  refine qm ?_
  refine qx ?_
  refine qx ?_
  iterate 2 refine qa ?_
  refine sn ?_
  refine K.seq ?_
  refine K.block ?_
  refine sr ?_
  refine qm ?_
  refine qp (K.neq rfl rfl) ?_
  refine qa ?_
  refine sn ?_
  refine K.cond_true (by exact congrArg Value.bool (decide_eq_true hc)) ?_
  refine sr ?_
  refine qm ?_
  iterate 2 refine qa ?_
  refine sn ?_
  refine K.ret ?_
  refine K.ret_block ?_
  refine K.ret_then ?_
  refine K.end_ret (fun w _ => K.res_tmp2 rfl w) ?_
  exact K.gives rfl

set_option maxRecDepth 100000 in
theorem f61 {m : Mod} {A B C : Option Addr} {c d e : Nat} {s p : Int} {w : World} (hH : K.Rd w A 1 K.eI m.hs) (hP : K.Rd w B 5 eN m.ps) (hS : K.Rd w C 4 eS m.ss) (hn : m.hs.length ≤ 4611686018427387904) (hm : m.ps.length ≤ 4611686018427387904) (hk : m.ss.length ≤ 4611686018427387904) (hcd : m.ps.length ≤ d) (hc : (chk m).2.2 = 0) (ha : asE m s p ≠ 0) :
    Calls Tryd.prog 61 [.agg #[.int .i64 m.W, .int .i64 m.D, .slice A m.hs.length c, .slice B m.ps.length d, .slice C m.ss.length e], .int .i64 s, .int .i64 p].toArray w (K.Gives (.tuple #[.pointer none, .int .i64 4]) w) := by
  unfold asE at ha
  refine K.enter (args := [.agg #[.int .i64 m.W, .int .i64 m.D, .slice A m.hs.length c, .slice B m.ps.length d, .slice C m.ss.length e], .int .i64 s, .int .i64 p]) Tryd.func61 rfl (n := 34) rfl ?_
  simp only [List.replicate, List.cons_append, List.nil_append]
  refine sr ?_
  refine K.seq_new (K.box) rfl ?_
  intro b3
  refine zN ?_
  iterate 2 refine qa ?_
  refine sn ?_
  refine sr ?_
  refine K.seq_sil (K.loadA_own ag_26 rfl (K.m0) rfl) rfl ?_
  refine zN ?_
  refine K.seq_loud (K.call_f cal_67 (fun F w hF hw => g67 (hH.pass hw) (hP.pass hw) (hS.pass hw) hn hm hk hcd (chk_e0 hc))) rfl ?_
  rintro q _
  refine zN ?_
  refine qm ?_
  refine qx ?_
  refine qx ?_
  iterate 2 refine qa ?_
  refine sn ?_
  refine K.seq ?_
  refine K.block ?_
  refine sr ?_
  refine qm ?_
  refine qp (K.neq rfl rfl) ?_
  refine qa ?_
  refine sn ?_
  refine K.cond_false (by rfl) ?_
  refine sr ?_
  refine qp (K.fieldAddr_lit fo_26_4 rfl) ?_
  refine K.seq_sil (K.load1_own one_24 rfl (K.m1) rfl) rfl ?_
  refine zN ?_
  refine qp (K.len_sl sl_24 rfl) ?_
  refine qp (K.sub_i64 rfl rfl (by omega)) ?_
  refine qm ?_
  refine K.seq_new (K.buildSlice (bs1 _)) rfl ?_
  intro b25
  refine zN ?_
  refine K.seq_call (K.call_g cal_50 (fun F w hF hw => c50_1 hw (hF _ (K.m0)))) rfl ?_
  refine zN ?_
  refine qm ?_
  refine K.split 27 rfl (fun hg27 => ?_) (fun hg27 => ?_)
  · try replace hg27 := of_decide_eq_true hg27
    iterate 7 refine qs ?_
    refine qp (K.pick_t rfl) ?_
    refine qa ?_
    refine sn ?_
    refine K.cond_true rfl ?_
    refine sr ?_
    iterate 2 refine qa ?_
    refine sn ?_
    refine K.ret ?_
    refine K.ret_block ?_
    refine K.ret_then ?_
    refine K.end_ret (fun w _ => K.res_tmp2 rfl w) ?_
    exact K.gives rfl
  try replace hg27 := of_decide_eq_false hg27
  refine qp (K.fieldAddr_lit fo_26_3 rfl) ?_
  refine K.seq_sil (K.load1_own one_23 rfl (K.m2) rfl) rfl ?_
  refine zN ?_
  refine qp (K.len_sl sl_23 rfl) ?_
  refine qp (K.sub_i64 rfl rfl (by omega)) ?_
  refine qm ?_
  refine K.seq_new (K.buildSlice (bs1 _)) rfl ?_
  intro b33
  refine zN ?_
  refine K.seq_call (K.call_g cal_50 (fun F w hF hw => c50_1 hw (hF _ (K.m0)))) rfl ?_
  refine zN ?_
  refine qp (K.pick_f rfl) ?_
  refine qa ?_
  refine sn ?_
  refine K.cond rfl (fun ht19 => ?_) (fun ht19 => ?_)
  · try replace ht19 := of_decide_eq_true ht19
    refine sr ?_
    iterate 2 refine qa ?_
    refine sn ?_
    refine K.ret ?_
    refine K.ret_block ?_
    refine K.ret_then ?_
    refine K.end_ret (fun w _ => K.res_tmp2 rfl w) ?_
    exact K.gives rfl
  try replace ht19 := of_decide_eq_false ht19
  refine K.skip ?_
  refine K.norm_block ?_
  refine K.norm_then ?_
  refine sr ?_
  refine qm ?_
  iterate 2 refine qa ?_
  refine sn ?_
  refine K.ret ?_
  refine K.end_ret (fun w _ => K.res_tmp2 rfl w) ?_
  exact absurd (by rw [if_neg (by omega)]) ha

set_option maxRecDepth 100000 in
theorem g61 {m : Mod} {A B C : Option Addr} {c d e : Nat} {s p : Int} {w : World} (hH : K.Rd w A 1 K.eI m.hs) (hP : K.Rd w B 5 eN m.ps) (hS : K.Rd w C 4 eS m.ss) (hn : m.hs.length ≤ 4611686018427387904) (hm : m.ps.length ≤ 4611686018427387904) (hk : m.ss.length ≤ 4611686018427387904) (hcd : m.ps.length ≤ d) (hc : (chk m).2.2 = 0) (ha : asE m s p = 0) :
    Calls Tryd.prog 61 [.agg #[.int .i64 m.W, .int .i64 m.D, .slice A m.hs.length c, .slice B m.ps.length d, .slice C m.ss.length e], .int .i64 s, .int .i64 p].toArray w (K.Ret (fun _ : Nat => True) (fun b => .tuple #[.pointer (some ⟨b, 0, none⟩), .int .i64 0]) (fun b => [K.blk b 101 (mdl m A B C c d e)]) w) := by
  unfold asE at ha
  refine K.enter (args := [.agg #[.int .i64 m.W, .int .i64 m.D, .slice A m.hs.length c, .slice B m.ps.length d, .slice C m.ss.length e], .int .i64 s, .int .i64 p]) Tryd.func61 rfl (n := 34) rfl ?_
  simp only [List.replicate, List.cons_append, List.nil_append]
  refine sr ?_
  refine K.seq_new (K.box) rfl ?_
  intro b3
  refine zN ?_
  iterate 2 refine qa ?_
  refine sn ?_
  refine sr ?_
  refine K.seq_sil (K.loadA_own ag_26 rfl (K.m0) rfl) rfl ?_
  refine zN ?_
  refine K.seq_loud (K.call_f cal_67 (fun F w hF hw => g67 (hH.pass hw) (hP.pass hw) (hS.pass hw) hn hm hk hcd (chk_e0 hc))) rfl ?_
  rintro q _
  refine zN ?_
  refine qm ?_
  refine qx ?_
  refine qx ?_
  iterate 2 refine qa ?_
  refine sn ?_
  refine K.seq ?_
  refine K.block ?_
  refine sr ?_
  refine qm ?_
  refine qp (K.neq rfl rfl) ?_
  refine qa ?_
  refine sn ?_
  refine K.cond_false (by rfl) ?_
  refine sr ?_
  refine qp (K.fieldAddr_lit fo_26_4 rfl) ?_
  refine K.seq_sil (K.load1_own one_24 rfl (K.m1) rfl) rfl ?_
  refine zN ?_
  refine qp (K.len_sl sl_24 rfl) ?_
  refine qp (K.sub_i64 rfl rfl (by omega)) ?_
  refine qm ?_
  refine K.seq_new (K.buildSlice (bs1 _)) rfl ?_
  intro b25
  refine zN ?_
  refine K.seq_call (K.call_g cal_50 (fun F w hF hw => c50_1 hw (hF _ (K.m0)))) rfl ?_
  refine zN ?_
  refine qm ?_
  refine K.split 27 rfl (fun hg27 => ?_) (fun hg27 => ?_)
  · try replace hg27 := of_decide_eq_true hg27
    iterate 7 refine qs ?_
    refine qp (K.pick_t rfl) ?_
    refine qa ?_
    refine sn ?_
    refine K.cond_true rfl ?_
    refine sr ?_
    iterate 2 refine qa ?_
    refine sn ?_
    refine K.ret ?_
    refine K.ret_block ?_
    refine K.ret_then ?_
    refine K.end_ret (fun w _ => K.res_tmp2 rfl w) ?_
    exfalso
    rw [if_pos (by omega)] at ha
    cases ha
  try replace hg27 := of_decide_eq_false hg27
  refine qp (K.fieldAddr_lit fo_26_3 rfl) ?_
  refine K.seq_sil (K.load1_own one_23 rfl (K.m2) rfl) rfl ?_
  refine zN ?_
  refine qp (K.len_sl sl_23 rfl) ?_
  refine qp (K.sub_i64 rfl rfl (by omega)) ?_
  refine qm ?_
  refine K.seq_new (K.buildSlice (bs1 _)) rfl ?_
  intro b33
  refine zN ?_
  refine K.seq_call (K.call_g cal_50 (fun F w hF hw => c50_1 hw (hF _ (K.m0)))) rfl ?_
  refine zN ?_
  refine qp (K.pick_f rfl) ?_
  refine qa ?_
  refine sn ?_
  refine K.cond rfl (fun ht19 => ?_) (fun ht19 => ?_)
  · try replace ht19 := of_decide_eq_true ht19
    refine sr ?_
    iterate 2 refine qa ?_
    refine sn ?_
    refine K.ret ?_
    refine K.ret_block ?_
    refine K.ret_then ?_
    refine K.end_ret (fun w _ => K.res_tmp2 rfl w) ?_
    exfalso
    rw [if_pos (by omega)] at ha
    cases ha
  try replace ht19 := of_decide_eq_false ht19
  refine K.skip ?_
  refine K.norm_block ?_
  refine K.norm_then ?_
  refine sr ?_
  refine qm ?_
  iterate 2 refine qa ?_
  refine sn ?_
  refine K.ret ?_
  refine K.end_ret (fun w _ => K.res_tmp2 rfl w) ?_
  exact K.rets_v q trivial rfl rfl (List.singleton_sublist.2 (by simp))

end Go.Proofs.YthkgnhcknkjgdaaDoor
