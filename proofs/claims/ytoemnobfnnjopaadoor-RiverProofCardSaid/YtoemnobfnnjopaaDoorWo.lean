/-
  Walks of the program's functions, printed by program: what each returns.
  Conditions stand in each theorem.
-/
import Derived.WalkArith
import Derived.Laws.Closers25b
import Derived.Test.YtoemnobfnnjopaaDoorWl
import Derived.Test.YtoemnobfnnjopaaDoorWn
set_option linter.unusedSimpArgs false
set_option linter.unusedVariables false
namespace Go.Proofs.YtoemnobfnnjopaaDoor
open Go.RowKit Go
open Go.K (setd setn ev nth over cl eI eP eT setM setF)
attribute [local irreducible] K.blk K.row
theorem bl97 (z : Int) (p : Addr) : K.Bl Tryd.prog 97 [(0, .pointer (some p)), (4, .int .i64 z)] (.agg #[.pointer (some p), .slice none 0 0, .map none, .slice none 0 0, .int .i64 z]) := fun w => by kernel_rfl
theorem bs3 (x y z : Int) : K.Bs Tryd.prog 26 3 [(0, .int .i64 x), (1, .int .i64 y), (2, .int .i64 z)] 3 [.int .i64 x, .int .i64 y, .int .i64 z] := fun w => by kernel_rfl
def RetI (z : Int) (xs : List Int) (e : Int) (w : World) : Ending → World → Prop :=
  K.Ret (fun r : Option Addr × Nat => xs.length = 0 ∨ ∃ b, r.1 = some ⟨b, 0, none⟩) (fun r => .tuple #[.int .i64 z, .slice r.1 xs.length r.2, .int .i64 e]) (fun r => [K.row (.slice r.1 xs.length r.2) 3 1 xs.length (xs.flatMap K.eI)]) w
theorem reti {w0 w : World} {L : List K.Chunk} {A : Option Addr} {n c : Nat} {ys : List Value} {xs : List Int} {z z' e e' : Int} {v : Value} (hm : K.row (.slice A n c) 3 1 n ys ∈ L) (hn : n = xs.length) (hys : ys = xs.flatMap K.eI) (hz : z = z') (he : e = e') (hv : v = .tuple #[.int .i64 z, .slice A n c, .int .i64 e]) : K.Hold w L (RetI z' xs e' w (.returned v)) := by
  subst hn hys hz he hv
  exact K.use_row hm fun h => K.rets (A, c) h rfl (by simpa using hm)
theorem reti_0 {w : World} {L : List K.Chunk} {xs : List Int} {z z' e e' : Int} {v : Value} (hx : xs = []) (hz : z = z') (he : e = e') (hv : v = .tuple #[.int .i64 z, .slice none 0 0, .int .i64 e]) : K.Hold w L (RetI z' xs e' w (.returned v)) := by
  subst hx
  exact K.nil_row (e := 3) (size := 1) (reti (w0 := w) (List.Mem.head _) rfl rfl hz he hv)

set_option maxRecDepth 100000 in
theorem c76 {r : List RvT} {A : Option Addr} {c q : Nat} {w0 : World} (hR : K.Rd w0 A 4 eR r) (g : Good r) {lv fx : List Int} {QL QF : Option Addr} {cL cF bc nl nf : Nat} {vl vf : List Value} {mv : Value} {T : List K.Chunk} {w : World} (hst : K.St w0 (K.blk bc 97 [.pointer (some ⟨q, 0, none⟩), .slice QL nl cL, mv, .slice QF nf cF, .int .i64 ((mthS r : Nat) : Int)] :: K.row (.slice QL nl cL) 3 1 nl vl :: K.row (.slice QF nf cF) 3 1 nf vf :: K.blk q 79 (.slice A r.length c :: dcell (drT r)) :: T) w) (hnl : nl = lv.length) (hvl : vl = lv.flatMap K.eI) (hnf : nf = fx.length) (hvf : vf = fx.flatMap K.eI) (hlv : ∀ x ∈ lv, -4500 ≤ x ∧ x ≤ 9000) (hll : lv.length ≤ 27) (hfl : fx.length ≤ 9) :
    Calls Tryd.prog 76 [.pointer (some ⟨bc, 0, none⟩)].toArray w (K.RetU (fun _ : Nat => True) (fun _ => .int .i64 (askS r lv fx)) w0 (fun z => K.blk bc 97 [.pointer (some ⟨q, 0, none⟩), .slice QL nl cL, .map (some z), .slice QF nf cF, .int .i64 ((mthS r : Nat) : Int)] :: K.row (.slice QL nl cL) 3 1 nl vl :: K.row (.slice QF nf cF) 3 1 nf vf :: K.blk q 79 (.slice A r.length c :: dcell (drT r)) :: T)) := by
  subst hnl hvl hnf hvf
  have hgn := g.n
  have hmt := mth_is g
  have hd0 : dep r (mthS r) = 0 := (dep_m g hmt.1).2 hmt.2.1
  refine K.enterU (args := [.pointer (some ⟨bc, 0, none⟩)]) Tryd.func76 rfl (n := 7) rfl hst ?_
  simp only [List.replicate, List.cons_append, List.nil_append]
  refine sr ?_
  refine qa ?_
  refine sn ?_
  refine sr ?_
  refine K.seq_new (K.mkMap_q) rfl ?_
  intro b2
  refine zN ?_
  refine qp (K.fieldAddr_lit fo_97_2 rfl) ?_
  refine K.seq_st (K.store sz_95 rfl rfl rfl rfl (K.rp1)) rfl ?_
  refine zN ?_
  refine sn ?_
  refine K.seq ?_
  refine K.use_row (A := QL) K.m2 (fun hqL => ?_)
  refine K.use_row (A := QF) K.m3 (fun hqF => ?_)
  refine K.region_lit ?_
  refine qp (K.fieldAddr_lit fo_97_4 rfl) ?_
  refine K.seq_sil (K.load1_own one_3 rfl (K.m1) rfl) rfl ?_
  refine zN ?_
  refine K.seq_pure (K.build (bl101 _ _)) rfl ?_
  refine zN ?_
  refine K.seq_upd (K.callU_f cal_77 (fun w hw => c77 hR g hlv hll hfl hqL hqF (r.length + 1) (a := mthS r) (low := -9000) (T := T) hw kn_nil hmt.1 (by omega) (by rw [hd0]; rfl))) rfl ?_
  rintro ⟨n7, kv7⟩ hz7
  refine zN ?_
  refine qa ?_
  refine sn ?_
  refine K.ret ?_
  refine K.end_ret (fun w _ => K.res_tmp rfl w) ?_
  have hv7 : n7 = askS r lv fx := hz7.1
  exact K.retsU b2 trivial (by rw [← hv7]; rfl) ((List.Sublist.cons _ (List.Sublist.refl _)))

set_option maxRecDepth 100000 in
theorem e32 {r : List RvT} {A : Option Addr} {c : Nat} {w : World} (hR : K.Rd w A 4 eR r) (hn : r.length ≤ 4611686018427387904) (hc : (chk r).2.2 ≠ 0) :
    Calls Tryd.prog 32 [.slice A r.length c].toArray w (RetI (lstC r) (lstL r) (chk r).2.2 w) := by
  refine K.enter (args := [.slice A r.length c]) Tryd.func32 rfl (n := 101) rfl ?_
  simp only [List.replicate, List.cons_append, List.nil_append]
  refine sr ?_
  iterate 3 refine qa ?_
  refine sn ?_
  refine sr ?_
  refine qm ?_
  refine K.seq_call (K.call_g cal_52 (fun F w hF hw => e52 (hR.pass hw) hn hc)) rfl ?_
  refine zN ?_
  refine qm ?_
  refine qx ?_
  refine qx ?_
  iterate 2 refine qa ?_
  refine sn ?_
  refine K.seq ?_
  refine sr ?_
  refine qm ?_
  refine qp (K.neq rfl rfl) ?_
  refine sn ?_
  refine K.cond_true (by exact congrArg Value.bool (decide_eq_true hc)) ?_
  refine sr ?_
  refine qm ?_
  iterate 3 refine qa ?_
  refine sn ?_
  refine K.ret ?_
  refine K.ret_then ?_
  refine K.end_ret (fun w _ => K.res_ttt rfl w) ?_
  exact reti_0 (by unfold lstL; rw [if_pos hc]) (by unfold lstC; rw [if_pos hc]) rfl rfl

set_option maxRecDepth 100000 in
set_option maxHeartbeats 4000000 in
theorem g32 {r : List RvT} {A : Option Addr} {c : Nat} {w : World} (hR : K.Rd w A 4 eR r) (hn : r.length ≤ 4611686018427387904) (hc : (chk r).2.2 = 0) :
    Calls Tryd.prog 32 [.slice A r.length c].toArray w (RetI (lstC r) (lstL r) (chk r).2.2 w) := by
  have g : Good r := chk_good hc
  have hgn := g.n
  have hmt := mth_is g
  have hll := @levS_len r
  have hNL : (levU r r.length).length = (levS r).length := by rw [levS_len, levU_len]
  have hix : K.idx (fun p : RvT => decide (p.dn = -1)) r = ((mthS r : Nat) : Int) := K.idx_found hmt.1 (fun j hj => decide_eq_false (fun h => by have := hmt.2.2 j (by omega) h; omega)) (decide_eq_true hmt.2.1)
  refine K.enter (args := [.slice A r.length c]) Tryd.func32 rfl (n := 101) rfl ?_
  simp only [List.replicate, List.cons_append, List.nil_append]
  refine sr ?_
  iterate 3 refine qa ?_
  refine sn ?_
  refine sr ?_
  refine qm ?_
  refine K.seq_loud (K.call_f cal_52 (fun F w hF hw => g52 (hR.pass hw) hn hc)) rfl ?_
  rintro q _
  refine zN ?_
  refine qm ?_
  refine qx ?_
  refine qx ?_
  iterate 2 refine qa ?_
  refine sn ?_
  refine K.seq ?_
  refine sr ?_
  refine qm ?_
  refine qp (K.neq rfl rfl) ?_
  refine sn ?_
  refine K.cond_false (by rfl) ?_
  refine K.skip ?_
  refine K.norm_then ?_
  refine sr ?_
  iterate 2 refine qm ?_
  refine K.seq_call (K.call_g cal_73 (fun F w hF hw => (by have hg := c73 (c := c) (f := 74) (cap := []) (p := fun p : RvT => decide (p.dn = -1)) (hR.pass hw) hn cal_74 (fun x _ w1 _ => c74); rw [hix] at hg; exact hg))) rfl ?_
  refine zN ?_
  refine K.seq_pure (K.build (bl97 _ _)) rfl ?_
  refine zN ?_
  refine K.seq_new (K.alloc zr_97) rfl ?_
  intro b6
  refine zN ?_
  refine K.seq_st (K.store_all sz_97 rfl rfl rfl rfl (K.rp0)) rfl ?_
  refine zN ?_
  refine sn ?_
  refine K.seq ?_
  refine sr ?_
  refine K.nil_row (e := 3) (size := 1) ?_
  refine qm ?_
  refine qp (K.len_sl sl_22 rfl) ?_
  refine qm ?_
  refine sn ?_
  refine K.block ?_
  refine K.loopW [28] [7, 8, 9, 29, 30, 31, 32, 33, 34, 35, 36, 37, 38, 39, 40, 41, 42, 43, 44, 45, 46, 47, 48, 49, 50, 51, 52, 53] (fun vi L => ∃ (i : Nat) (QL : Option Addr) (cL : Nat), vi = [.int .i64 (i : Int)] ∧ L = [K.row (.slice QL (levU r i).length cL) 3 1 (levU r i).length ((levU r i).flatMap K.eI), K.blk b6 97 [.pointer (some ⟨q, 0, none⟩), .slice QL (levU r i).length cL, .map none, .slice none 0 0, .int .i64 ((mthS r : Nat) : Int)], K.blk q 79 (.slice A r.length c :: dcell (drT r))] ∧ i ≤ r.length) (fun vi => r.length - (intOf (K.nth vi 0)).toNat) ?_ ?_
  · exact ⟨0, none, 0, rfl, rfl, Nat.zero_le _⟩
  intro vi vr L hJ
  obtain ⟨i, QL, cL, rfl, rfl, hin⟩ := hJ
  try dsimp only [setd, setn, ev, nth, over, cl, eI, eP, eT, eR, setM, setF, List.map, List.append, List.drop, List.take]
  refine sr ?_
  refine qp (K.lss rfl rfl) ?_
  refine sn ?_
  refine K.seq ?_
  refine K.cond rfl (fun ht29 => ?_) (fun ht29 => ?_)
  · try replace ht29 := of_decide_eq_true ht29
    have hi : i < r.length := by omega
    have hpi := g.p i hi
    have hdr := riv_at (f := drT r) (S := .slice A r.length c) (i := i) (k := mthS r) (by omega) (by omega)
    rw [drT_in hi hmt.1, drp_mth g hi] at hdr
    have hdl := DM_le g hi
    refine K.skip ?_
    refine K.norm_then ?_
    refine K.seq ?_
    refine K.block ?_
    refine sr ?_
    refine qm ?_
    refine K.seq_ix (M := []) _ hR.sl sl_22 rfl rfl rfl (by omega) rfl ?_
    intro p31 hp31
    refine zN ?_
    refine K.seq_sil (K.loadA_p ag_44 rfl (hp31.any) rfl) rfl ?_
    refine zN ?_
    refine K.seq_new (K.alloc zr_44) rfl ?_
    intro b8
    refine zN ?_
    refine qa ?_
    refine K.seq_st (K.store_all sz_44 rfl rfl rfl rfl (K.rp0)) rfl ?_
    refine zN ?_
    refine sn ?_
    refine K.seq ?_
    refine K.draw_L [] Tryd_mixed ?_
    refine K.d_pure 0 rfl (K.move) (by kernel_rfl) rfl ?_
    refine zn ?_
    refine K.d_pure 1 rfl (K.move) (by kernel_rfl) rfl ?_
    refine zn ?_
    refine K.d_pure 2 rfl (K.fieldAddr_lit fo_97_4 rfl) (by kernel_rfl) rfl ?_
    refine zn ?_
    refine K.d_mem 3 rfl (K.load1_own one_3 rfl (K.m2) rfl) (fun _ h => h) (by kernel_rfl) (by kernel_rfl) rfl ?_
    refine zN ?_
    refine K.d_pure 4 rfl (K.nilCheck rfl) (by kernel_rfl) rfl ?_
    refine zn ?_
    refine K.d_pure 5 rfl (K.fieldAddr_lit fo_79_1 rfl) (by kernel_rfl) rfl ?_
    refine zn ?_
    refine K.d_pure 6 rfl (K.indexAddr_ar ar_77 rfl rfl (by omega) (by omega)) (by kernel_rfl) rfl ?_
    refine zN ?_
    refine K.d_pure 7 rfl (K.indexAddr_ar ar_76 rfl rfl (by omega) (by omega)) (by kernel_rfl) rfl ?_
    refine zN ?_
    refine K.d_mem 8 rfl (K.load_at one_3 rfl (K.PtrL.own' ((K.m3))) hdr) (fun _ h => h) (by kernel_rfl) (by kernel_rfl) rfl ?_
    refine zN ?_
    refine K.d_pure 9 rfl (K.assign) (by kernel_rfl) rfl ?_
    refine zn ?_
    refine K.d_done (by kernel_rfl) ?_
    refine K.norm_then ?_
    refine K.region_lit ?_
    refine qp (K.fieldAddr_lit fo_97_1 rfl) ?_
    refine K.seq_sil (K.load1_own one_26 rfl (K.m2) rfl) rfl ?_
    refine zN ?_
    refine qp (K.fieldAddr_lit fo_44_3 rfl) ?_
    refine K.seq_sil (K.load1_own one_3 rfl (K.m0) rfl) rfl ?_
    refine zN ?_
    refine qm ?_
    refine qp (K.sub_i64 rfl rfl (by omega)) ?_
    refine qm ?_
    refine qp (K.sub_i64 rfl rfl (by omega)) ?_
    refine K.seq_new (K.buildSlice (bs3 _ _ _)) rfl ?_
    intro b50
    refine zN ?_
    refine K.seq_upd (K.append el_26 rfl rfl (K.PtrL.own' (K.m0)) rfl rfl (by decide) (by rw [levU_len]; omega) (by rw [levU_len]; omega) (fun _ _ => K.rp2)) rfl ?_
    rintro ⟨g51, c51⟩ _
    refine zN ?_
    refine qp (K.fieldAddr_lit fo_97_1 rfl) ?_
    refine K.seq_st (K.store sz_26 rfl rfl rfl rfl (K.rp3)) rfl ?_
    refine zN ?_
    refine K.seq_nil ?_
    refine K.norm_block ?_
    refine K.norm_then ?_
    refine K.region_lit ?_
    refine qp (K.add_i64 rfl rfl (by omega)) ?_
    refine qm ?_
    refine K.seq_nil ?_
    have el : (levU r (i + 1)).length = (levU r i).length + 3 := by rw [levU, List.length_append]; rfl
    have ef : (levU r (i + 1)).flatMap K.eI = (levU r i).flatMap K.eI ++ [.int .i64 ((r.getD i default).ht - DM r i), .int .i64 (9000 - DM r i), .int .i64 0] := by rw [levU, List.flatMap_append]; rfl
    exact K.round_endW (L'' := [K.row (.slice (some ⟨g51, 0, none⟩) ((levU r i).length + 3) c51) 3 1 ((levU r i).length + 3) ((levU r i).flatMap K.eI ++ [.int .i64 ((r.getD i default).ht - DM r i), .int .i64 (9000 - DM r i), .int .i64 0]), K.blk b6 97 [.pointer (some ⟨q, 0, none⟩), .slice (some ⟨g51, 0, none⟩) ((levU r i).length + 3) c51, .map none, .slice none 0 0, .int .i64 ((mthS r : Nat) : Int)], K.blk q 79 (.slice A r.length c :: dcell (drT r))]) [.int .i64 ((i : Int) + 1)] ⟨i + 1, some ⟨g51, 0, none⟩, c51, rfl, by rw [el, ef], by omega⟩ (by simp [K.nth, intOf]; omega) (List.Sublist.cons _ (List.Sublist.cons _ (List.Sublist.refl _))) (by kernel_rfl)
  try replace ht29 := of_decide_eq_false ht29
  refine K.exit ?_
  refine K.exit_then ?_
  refine K.exit_then ?_
  refine K.exit_here ?_
  refine K.norm_then ?_
  refine K.seq ?_
  have e0 : i = r.length := by omega
  subst e0
  refine K.use_row (A := QL) K.m0 (fun hqL => ?_)
  obtain ⟨gb, rfl⟩ : ∃ gb, QL = some ⟨gb, 0, none⟩ := by
    rcases hqL with h | h
    · rw [levU_len] at h; omega
    · exact h
  refine K.region_lit ?_
  refine qp (K.fieldAddr_lit fo_97_1 rfl) ?_
  refine K.seq_sil (K.load1_own one_26 rfl (K.m1) rfl) rfl ?_
  refine zN ?_
  refine K.seq_upd (K.callU_f cal_75 (fun w hw => c75 (T := [_, _]) hw rfl (by rw [levU_len]; omega))) rfl ?_
  rintro ⟨⟩ _
  refine zN ?_
  rw [hNL]
  refine zN ?_
  refine sn ?_
  refine sr ?_
  refine K.seq_pure (K.mkFunc) rfl ?_
  refine zN ?_
  refine qa ?_
  refine sn ?_
  refine sr ?_
  refine K.nil_row (e := 3) (size := 1) ?_
  refine K.permH (L' := [_, _, _, _]) (List.Perm.trans (List.perm_middle (l₁ := [_, _])) (List.Perm.cons _ (List.Perm.trans (List.perm_middle (l₁ := [_])) (List.Perm.cons _ (List.Perm.refl _))))) ?_
  refine qm ?_
  refine K.seq_upd (K.callU (first := []) (cap := [.pointer (some ⟨b6, 0, none⟩)]) rfl cal_76 (fun w hw => c76 (T := []) (lv := (levS r)) (fx := []) hR g hw rfl rfl rfl rfl (fun x hx => levS_mem g hx) (by omega) (Nat.zero_le _))) rfl ?_
  rintro bm1 _
  refine zN ?_
  refine qa ?_
  refine sn ?_
  refine K.seq ?_
  refine sr ?_
  refine qm ?_
  refine qp (K.len_sl sl_22 rfl) ?_
  refine qm ?_
  refine sn ?_
  refine K.block ?_
  refine K.loopW [3, 62] [11, 13, 63, 64, 65, 66, 67, 68, 69, 70, 71, 72, 73, 74, 75, 76, 77, 78, 79, 80, 81, 82, 83, 84, 85, 86, 87, 88, 89, 90, 91, 92, 93, 94, 95, 96, 97, 98, 99] (fun vi L => ∃ (i : Nat) (QH : Option Addr) (cH bx : Nat), vi = [.slice QH (hgtF r (chgS r) i).length cH, .int .i64 (i : Int)] ∧ L = [K.blk b6 97 [.pointer (some ⟨q, 0, none⟩), .slice (some ⟨gb, 0, none⟩) (levS r).length cL, .map (some bx), .slice QH (hgtF r (chgS r) i).length cH, .int .i64 ((mthS r : Nat) : Int)], K.row (.slice (some ⟨gb, 0, none⟩) (levS r).length cL) 3 1 (levS r).length ((levS r).flatMap K.eI), K.row (.slice QH (hgtF r (chgS r) i).length cH) 3 1 (hgtF r (chgS r) i).length ((hgtF r (chgS r) i).flatMap K.eI), K.blk q 79 (.slice A r.length c :: dcell (drT r))] ∧ i ≤ r.length) (fun vi => r.length - (intOf (K.nth vi 1)).toNat) ?_ ?_
  · exact ⟨0, none, 0, bm1, rfl, rfl, Nat.zero_le _⟩
  intro vi vr L hJ
  obtain ⟨i, QH, cH, bx, rfl, rfl, hin⟩ := hJ
  try dsimp only [setd, setn, ev, nth, over, cl, eI, eP, eT, eR, setM, setF, List.map, List.append, List.drop, List.take]
  refine sr ?_
  refine qp (K.lss rfl rfl) ?_
  refine sn ?_
  refine K.seq ?_
  refine K.cond rfl (fun ht63 => ?_) (fun ht63 => ?_)
  · try replace ht63 := of_decide_eq_true ht63
    have hi : i < r.length := by omega
    have hdr := riv_at (f := drT r) (S := .slice A r.length c) (i := i) (k := mthS r) (by omega) (by omega)
    rw [drT_in hi hmt.1, drp_mth g hi] at hdr
    have hdl := DM_le g hi
    refine K.skip ?_
    refine K.norm_then ?_
    refine K.seq ?_
    refine K.block ?_
    refine sr ?_
    refine qm ?_
    refine qa ?_
    refine sn ?_
    refine K.seq ?_
    refine sr ?_
    refine K.nil_row (e := 3) (size := 1) ?_
    refine K.permH (L' := [_, _, _, _, _]) (List.Perm.trans (List.perm_middle (l₁ := [_])) (List.Perm.cons _ (List.Perm.trans (List.perm_middle (l₁ := [_])) (List.Perm.cons _ (List.Perm.trans (List.perm_middle (l₁ := [_])) (List.Perm.cons _ (List.Perm.refl _))))))) ?_
    refine qp (K.fieldAddr_lit fo_97_1 rfl) ?_
    refine K.seq_sil (K.load1_own one_26 rfl (K.m0) rfl) rfl ?_
    refine zN ?_
    refine qp (K.len_sl sl_26 rfl) ?_
    refine qm ?_
    refine sn ?_
    refine K.block ?_
    refine K.loopW [68] [13, 69, 70, 71, 72, 73, 74, 75, 76, 77, 78, 79, 80, 81, 82, 83, 84, 85, 86, 87, 88, 89, 90, 91, 92, 93, 94, 95, 96] (fun vi L => ∃ (j : Nat) (QX : Option Addr) (cX nX : Nat) (xX : List Int) (FV : Value) (bmy : Nat), vi = [.int .i64 (j : Int)] ∧ L = [K.blk b6 97 [.pointer (some ⟨q, 0, none⟩), .slice (some ⟨gb, 0, none⟩) (levS r).length cL, .map (some bmy), FV, .int .i64 ((mthS r : Nat) : Int)], K.row (.slice (some ⟨gb, 0, none⟩) (levS r).length cL) 3 1 (levS r).length ((levS r).flatMap K.eI), K.row (.slice QH (hgtF r (chgS r) i).length cH) 3 1 (hgtF r (chgS r) i).length ((hgtF r (chgS r) i).flatMap K.eI), K.row (.slice QX nX cX) 3 1 nX (xX.flatMap K.eI), K.blk q 79 (.slice A r.length c :: dcell (drT r))] ∧ j ≤ (levS r).length ∧ (∀ k, k < j → askS r (levS r) (tryL r (chgS r) i k) ≠ (chgS r)) ∧ (0 < j → FV = .slice QX nX cX ∧ nX = i + 1 ∧ xX = (tryL r (chgS r) i (j - 1)))) (fun vi => (levS r).length - (intOf (K.nth vi 0)).toNat) ?_ ?_
    · exact ⟨0, none, 0, 0, [], .slice QH (hgtF r (chgS r) i).length cH, bx, rfl, rfl, Nat.zero_le _, fun k hk => absurd hk (Nat.not_lt_zero k), fun h => absurd h (Nat.lt_irrefl 0)⟩
    intro vi vr L hJ
    obtain ⟨j, QX, cX, nX, xX, FV, bmy, rfl, rfl, hjn, hall, hX⟩ := hJ
    try dsimp only [setd, setn, ev, nth, over, cl, eI, eP, eT, eR, setM, setF, List.map, List.append, List.drop, List.take]
    refine sr ?_
    refine qp (K.lss rfl rfl) ?_
    refine sn ?_
    refine K.seq ?_
    refine K.cond rfl (fun ht69 => ?_) (fun ht69 => ?_)
    · try replace ht69 := of_decide_eq_true ht69
      have hj : j < (levS r).length := by omega
      have hlj := levS_at g hj
      refine K.skip ?_
      refine K.norm_then ?_
      refine K.seq ?_
      refine K.block ?_
      refine K.seq ?_
      refine K.use_rowc (A := QH) K.m2 (fun hqH hcH => ?_)
      refine K.region_lit ?_
      refine K.seq_ix (M := [K.row (.slice (some ⟨gb, 0, none⟩) (levS r).length cL) 3 1 (levS r).length ((levS r).flatMap K.eI)]) _ (K.Sl.own (w0 := w) (t := 3) (c := cL) (e := K.eI) (.inr ⟨gb, rfl⟩) (fun _ => rfl)) sl_26 rfl rfl rfl (by omega) rfl ?_
      intro p70 hp70
      refine zN ?_
      refine K.seq_sil (K.load1 one_3 rfl (hp70.at1 (K.m1))) rfl ?_
      refine zN ?_
      refine qa ?_
      refine sn ?_
      refine K.seq ?_
      refine K.draw_L [20] Tryd_mixed ?_
      refine K.d_pure 0 rfl (K.move) (by kernel_rfl) rfl ?_
      refine zn ?_
      refine K.d_pure 1 rfl (K.move) (by kernel_rfl) rfl ?_
      refine zn ?_
      refine K.d_pure 2 rfl (K.len_sl sl_26 rfl) (by kernel_rfl) rfl ?_
      refine zn ?_
      refine K.d_pure 3 rfl (K.move) (by kernel_rfl) rfl ?_
      refine zn ?_
      refine K.d_pure 4 rfl (K.len_sl sl_26 rfl) (by kernel_rfl) rfl ?_
      refine zn ?_
      refine K.d_pure 5 rfl (K.slice_hm sl_26 rfl rfl rfl hcH) (by kernel_rfl) rfl ?_
      refine zN ?_
      refine K.d_pure 6 rfl (K.move) (by kernel_rfl) rfl ?_
      refine zn ?_
      refine K.d_pure 7 rfl (K.move) (by kernel_rfl) rfl ?_
      refine zn ?_
      refine K.d_pure 8 rfl (K.move) (by kernel_rfl) rfl ?_
      refine zn ?_
      refine K.d_pure 9 rfl (K.fieldAddr_lit fo_97_4 rfl) (by kernel_rfl) rfl ?_
      refine zn ?_
      refine K.d_mem 10 rfl (K.load1_own one_3 rfl (K.m0) rfl) (fun _ h => h) (by kernel_rfl) (by kernel_rfl) rfl ?_
      refine zN ?_
      refine K.d_pure 11 rfl (K.nilCheck rfl) (by kernel_rfl) rfl ?_
      refine zn ?_
      refine K.d_pure 12 rfl (K.fieldAddr_lit fo_79_1 rfl) (by kernel_rfl) rfl ?_
      refine zn ?_
      refine K.d_pure 13 rfl (K.indexAddr_ar ar_77 rfl rfl (by omega) (by omega)) (by kernel_rfl) rfl ?_
      refine zN ?_
      refine K.d_pure 14 rfl (K.indexAddr_ar ar_76 rfl rfl (by omega) (by omega)) (by kernel_rfl) rfl ?_
      refine zN ?_
      refine K.d_mem 15 rfl (K.load_at one_3 rfl (K.PtrL.own' ((K.m4))) hdr) (fun _ h => h) (by kernel_rfl) (by kernel_rfl) rfl ?_
      refine zN ?_
      refine K.d_pure 16 rfl (K.add_i64 rfl rfl (by omega)) (by kernel_rfl) rfl ?_
      refine zn ?_
      refine K.d_new 17 rfl (K.buildSlice (bs1 _)) (fun _ h => h) (by kernel_rfl) rfl ?_
      intro b89
      refine zN ?_
      refine K.d_loud 18 rfl (K.appendN el_26 rfl rfl (K.Sl.own (w0 := w) (t := 3) (c := cH) (e := K.eI) hqH (fun _ => rfl)) (fun _ h => by simp only [List.mem_singleton] at h; subst h; exact (K.m3)) hqH rfl (fun _ => rfl) (K.PtrL.own' (K.m0)) rfl (by decide) (by rw [hgt_len]; omega) (by rw [hgt_len]; omega)) (fun _ h => K.tl h) (by kernel_rfl) rfl ?_
      rintro ⟨g90, c90⟩ _
      refine zN ?_
      refine K.d_pure 19 rfl (K.fieldAddr_lit fo_97_3 rfl) (by kernel_rfl) rfl ?_
      refine zn ?_
      refine K.d_last 20 rfl (K.store sz_26 rfl rfl rfl rfl (K.rp2)) rfl (by kernel_rfl) rfl ?_
      intro _ _
      refine zN ?_
      refine K.d_done (by kernel_rfl) ?_
      refine K.norm_then ?_
      refine K.seq ?_
      refine K.weak (List.Sublist.cons_cons _ (List.Sublist.cons _ (List.Sublist.cons_cons _ (List.Sublist.cons_cons _ (List.Sublist.cons_cons _ (List.Sublist.cons _ (List.Sublist.cons_cons _ (List.Sublist.slnil)))))))) ?_
      refine K.region_lit ?_
      refine K.permH (L' := [_, _, _, _, _]) (List.Perm.trans (List.perm_middle (l₁ := [_])) (List.Perm.cons _ (List.Perm.trans (List.perm_middle (l₁ := [_])) (List.Perm.cons _ (List.Perm.cons _ (List.Perm.trans (List.perm_middle (l₁ := [_])) (List.Perm.cons _ (List.Perm.refl _)))))))) ?_
      refine qm ?_
      refine K.seq_upd (K.callU (first := []) (cap := [.pointer (some ⟨b6, 0, none⟩)]) rfl cal_76 (fun w hw => c76 (T := [_]) (lv := (levS r)) (fx := (tryL r (chgS r) i j)) hR g hw rfl rfl (by rw [try_len, hgt_len]) (by unfold tryL; exact eI_snoc) (fun x hx => levS_mem g hx) (by omega) (by rw [try_len]; omega))) rfl ?_
      rintro bm2 _
      refine zN ?_
      refine qm ?_
      refine qp (K.eql rfl rfl) ?_
      refine sn ?_
      refine K.cond rfl (fun ht95 => ?_) (fun ht95 => ?_)
      · try replace ht95 := of_decide_eq_true ht95
        refine K.exit ?_
        refine K.exit_out rfl ?_
        refine K.exit_then ?_
        refine K.exit_then ?_
        refine K.exit_here ?_
        refine K.norm_then ?_
        refine K.region_lit ?_
        refine qp (K.fieldAddr_lit fo_97_3 rfl) ?_
        refine K.seq_sil (K.load1_own one_26 rfl (K.m0) rfl) rfl ?_
        refine zN ?_
        refine qa ?_
        refine K.seq_nil ?_
        refine K.norm_block ?_
        refine K.norm_then ?_
        refine K.region_lit ?_
        refine qp (K.add_i64 rfl rfl (by omega)) ?_
        refine qm ?_
        refine K.seq_nil ?_
        have ef : (hgtF r (chgS r) i).flatMap K.eI ++ [.int .i64 ((levS r).getD j default + DM r i)] = (tryL r (chgS r) i j).flatMap K.eI := by unfold tryL; exact eI_snoc
        have hh : (hgtF r (chgS r) (i + 1)) = (tryL r (chgS r) i j) := hgt_found hj hall ht95
        have hl : (hgtF r (chgS r) (i + 1)).length = (hgtF r (chgS r) i).length + 1 := by rw [hgt_len, hgt_len]
        exact K.round_endW (L'' := [K.blk b6 97 [.pointer (some ⟨q, 0, none⟩), .slice (some ⟨gb, 0, none⟩) (levS r).length cL, .map (some bm2), .slice (some ⟨g90, 0, none⟩) ((hgtF r (chgS r) i).length + 1) c90, .int .i64 ((mthS r : Nat) : Int)], K.row (.slice (some ⟨gb, 0, none⟩) (levS r).length cL) 3 1 (levS r).length ((levS r).flatMap K.eI), K.row (.slice (some ⟨g90, 0, none⟩) ((hgtF r (chgS r) i).length + 1) c90) 3 1 ((hgtF r (chgS r) i).length + 1) ((hgtF r (chgS r) i).flatMap K.eI ++ [.int .i64 ((levS r).getD j default + DM r i)]), K.blk q 79 (.slice A r.length c :: dcell (drT r))]) [.slice (some ⟨g90, 0, none⟩) ((hgtF r (chgS r) i).length + 1) c90, .int .i64 ((i : Int) + 1)] ⟨i + 1, some ⟨g90, 0, none⟩, c90, bm2, by rw [hl]; rfl, by rw [hl, hh, ← ef], by omega⟩ (by simp [K.nth, intOf]; omega) (List.Sublist.cons_cons _ (List.Sublist.cons_cons _ (List.Sublist.cons_cons _ (List.Sublist.cons_cons _ (List.nil_sublist _))))) (by kernel_rfl)
      try replace ht95 := of_decide_eq_false ht95
      refine K.skip ?_
      refine K.norm_block ?_
      refine K.norm_then ?_
      refine K.region_lit ?_
      refine K.permH (L' := [_, _, _, _, _]) (List.Perm.cons _ (List.Perm.cons _ (List.Perm.trans (List.perm_middle (l₁ := [_, _])) (List.Perm.cons _ (List.Perm.refl _))))) ?_
      refine qp (K.add_i64 rfl rfl (by omega)) ?_
      refine qm ?_
      refine K.seq_nil ?_
      have ef : (hgtF r (chgS r) i).flatMap K.eI ++ [.int .i64 ((levS r).getD j default + DM r i)] = (tryL r (chgS r) i j).flatMap K.eI := by unfold tryL; exact eI_snoc
      exact K.round_endW (L'' := [K.blk b6 97 [.pointer (some ⟨q, 0, none⟩), .slice (some ⟨gb, 0, none⟩) (levS r).length cL, .map (some bm2), .slice (some ⟨g90, 0, none⟩) ((hgtF r (chgS r) i).length + 1) c90, .int .i64 ((mthS r : Nat) : Int)], K.row (.slice (some ⟨gb, 0, none⟩) (levS r).length cL) 3 1 (levS r).length ((levS r).flatMap K.eI), K.row (.slice QH (hgtF r (chgS r) i).length cH) 3 1 (hgtF r (chgS r) i).length ((hgtF r (chgS r) i).flatMap K.eI), K.row (.slice (some ⟨g90, 0, none⟩) ((hgtF r (chgS r) i).length + 1) c90) 3 1 ((hgtF r (chgS r) i).length + 1) ((hgtF r (chgS r) i).flatMap K.eI ++ [.int .i64 ((levS r).getD j default + DM r i)]), K.blk q 79 (.slice A r.length c :: dcell (drT r))]) [.int .i64 ((j : Int) + 1)] ⟨j + 1, some ⟨g90, 0, none⟩, c90, (hgtF r (chgS r) i).length + 1, (tryL r (chgS r) i j), .slice (some ⟨g90, 0, none⟩) ((hgtF r (chgS r) i).length + 1) c90, bm2, rfl, by rw [← ef], by omega, K.lt_succ_case hall ht95, fun _ => ⟨rfl, by rw [hgt_len], rfl⟩⟩ (by simp [K.nth, intOf]; omega) (List.Sublist.refl _) (by kernel_rfl)
    try replace ht69 := of_decide_eq_false ht69
    refine K.exit ?_
    refine K.exit_then ?_
    refine K.exit_then ?_
    refine K.exit_here ?_
    refine K.norm_then ?_
    refine K.region_lit ?_
    refine qp (K.fieldAddr_lit fo_97_3 rfl) ?_
    refine K.seq_sil (K.load1_own one_26 rfl (K.m0) rfl) rfl ?_
    refine zN ?_
    refine qa ?_
    refine K.seq_nil ?_
    refine K.norm_block ?_
    refine K.norm_then ?_
    refine K.region_lit ?_
    refine qp (K.add_i64 rfl rfl (by omega)) ?_
    refine qm ?_
    refine K.seq_nil ?_
    have e0 : j = (levS r).length := by omega
    subst e0
    obtain ⟨rfl, rfl, rfl⟩ := hX (by omega)
    have hh : (hgtF r (chgS r) (i + 1)) = (tryL r (chgS r) i ((levS r).length - 1)) := hgt_last (by omega) hall
    have hl : (hgtF r (chgS r) (i + 1)).length = i + 1 := hgt_len _
    exact K.round_endW (L'' := [K.blk b6 97 [.pointer (some ⟨q, 0, none⟩), .slice (some ⟨gb, 0, none⟩) (levS r).length cL, .map (some bmy), .slice QX (i + 1) cX, .int .i64 ((mthS r : Nat) : Int)], K.row (.slice (some ⟨gb, 0, none⟩) (levS r).length cL) 3 1 (levS r).length ((levS r).flatMap K.eI), K.row (.slice QX (i + 1) cX) 3 1 (i + 1) ((tryL r (chgS r) i ((levS r).length - 1)).flatMap K.eI), K.blk q 79 (.slice A r.length c :: dcell (drT r))]) [.slice QX (i + 1) cX, .int .i64 ((i : Int) + 1)] ⟨i + 1, QX, cX, bmy, by rw [hl]; rfl, by rw [hl, hh], by omega⟩ (by simp [K.nth, intOf]; omega) (List.Sublist.cons_cons _ (List.Sublist.cons_cons _ (List.Sublist.cons _ (List.Sublist.refl _)))) (by kernel_rfl)
  try replace ht63 := of_decide_eq_false ht63
  refine K.exit ?_
  refine K.exit_then ?_
  refine K.exit_then ?_
  refine K.exit_here ?_
  refine K.norm_then ?_
  refine sr ?_
  iterate 2 refine qm ?_
  iterate 3 refine qa ?_
  refine sn ?_
  refine K.ret ?_
  refine K.end_ret (fun w _ => K.res_ttt rfl w) ?_
  have e0 : i = r.length := by omega
  subst e0
  have h1 : lstC r = chgS r := by unfold lstC; rw [if_neg (by omega)]
  have h2 : lstL r = (hgtF r (chgS r) r.length) := by unfold lstL; rw [if_neg (by omega)]
  rw [h1, h2, hc]
  exact reti (w0 := w) K.m2 rfl rfl rfl rfl rfl

theorem c32 {r : List RvT} {A : Option Addr} {c : Nat} {w : World} (hR : K.Rd w A 4 eR r) (hn : r.length ≤ 4611686018427387904) : Calls Tryd.prog 32 [.slice A r.length c].toArray w (RetI (lstC r) (lstL r) (chk r).2.2 w) := by
  by_cases hc : (chk r).2.2 = 0
  · exact g32 hR hn hc
  · exact e32 hR hn hc


end Go.Proofs.YtoemnobfnnjopaaDoor
