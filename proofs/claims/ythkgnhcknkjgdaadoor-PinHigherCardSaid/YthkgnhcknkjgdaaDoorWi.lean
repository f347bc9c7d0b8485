/-
  Walks of the program's functions, printed by program: what each returns.
  Conditions stand in each theorem.
-/
import Derived.WalkArith
import Derived.Laws.Closers25b
import Derived.Test.YthkgnhcknkjgdaaDoorWh
set_option linter.unusedSimpArgs false
set_option linter.unusedVariables false
namespace Go.Proofs.YthkgnhcknkjgdaaDoor
open Go.RowKit Go
open Go.K (setd setn ev nth over cl eI eP eT setM setF)
attribute [local irreducible] K.blk K.row

set_option maxRecDepth 100000 in
set_option maxHeartbeats 1000000 in
theorem c96 {m : Mod} {A B C : Option Addr} {c d e b i : Nat} {l : List Int} {x y eye : Int} {p1 p2 p3 p4 p5 : Addr} (hW : Way m x y i) (hl : LB l) (he : 0 ≤ eye ∧ eye ≤ 3000) :
    R.IterC Tryd.prog 96 [] [.pointer (some p1), .pointer (some p2), .pointer (some p3), .pointer (some p4), .pointer (some p5)] (fun f w => R.Own1 f w p1 [.pointer (some ⟨b, 0, none⟩)] ∧ R.Own1 f w p2 (ln l) ∧ R.Own1 f w p3 [.int .i64 (i : Int)] ∧ R.Own1 f w p4 [.int .i64 x, .int .i64 y] ∧ R.Own1 f w p5 [.int .i64 eye] ∧ R.Own1 f w ⟨b, 0, none⟩ (mdl m A B C c d e) ∧ K.Rd w B 5 eN m.ps) (fun n : Int => Value.int .i64 n) (hidesS m l x y eye i) := by
  intro lr B0 J Jx f w hB hJa hJxa hf hR hJ0 hpre
  obtain ⟨h1, h2, h3, h4, h5, hMo, hP⟩ := hpre
  refine R.enter (args := [.func (.yield lr) #[] #[], .pointer (some p1), .pointer (some p2), .pointer (some p3), .pointer (some p4), .pointer (some p5)]) Tryd.func96 rfl (m := 40) rfl ?_
  simp only [List.replicate, List.cons_append, List.nil_append]
  refine R.seq ?_
  refine R.region_lit rfl ?_
  refine K.seq_new (K.box) rfl ?_
  intro b6
  refine zN ?_
  refine K.seq_nil ?_
  refine R.out ?_
  refine R.norm_then ?_
  refine R.seq ?_
  refine R.region_lit rfl ?_
  refine K.seq_sil (K.load1 one_90 rfl (h1.ptr.any)) rfl ?_
  refine zN ?_
  refine K.seq_sil (K.loadA_p ag_98 rfl (h2.ptr.any) rfl) rfl ?_
  refine zN ?_
  refine K.seq_sil (K.load1 one_3 rfl (h3.ptr.any)) rfl ?_
  refine zN ?_
  refine K.seq_call (K.call_g cal_74 (fun F w hF hw => c74 (hMo.into hw) (hP.pass hw) hW.g hl hW.i)) rfl ?_
  refine zN ?_
  refine K.seq_new (K.alloc zr_3) rfl ?_
  intro b7
  refine zN ?_
  refine K.seq_st (K.store sz_3 rfl rfl rfl rfl (K.rp0)) rfl ?_
  refine zN ?_
  refine K.seq_nil ?_
  refine R.out ?_
  refine R.norm_then ?_
  refine R.seq ?_
  refine R.region_lit rfl ?_
  refine K.seq_sil (K.load1 one_90 rfl (h1.ptr.any)) rfl ?_
  refine zN ?_
  refine K.seq_sil (K.loadA_p ag_80 rfl (h4.ptr.any) rfl) rfl ?_
  refine zN ?_
  refine K.seq_sil (K.load1 one_3 rfl (h3.ptr.any)) rfl ?_
  refine zN ?_
  refine K.seq_loud (K.call_f cal_72 (fun F w hF hw => c72 w)) rfl ?_
  rintro ⟨q1, q2, q3⟩ _
  refine zN ?_
  refine K.seq_nil ?_
  refine R.out ?_
  refine R.norm_then ?_
  refine R.block ?_
  intro w1 hw1
  have hf1 : ∀ i, f i → i < w1.heap.size := fun i hi => Nat.lt_of_lt_of_le (hf i hi) hw1.1.size
  have ek := R.Keep.below (f := f) hw1.1
  have k1 := h1.keep ek
  have k2 := h2.keep ek
  have k5 := h5.keep ek
  have kM := hMo.keep ek
  have k6 := R.Own1.blk (f := f) hw1 (t := 77) (b := b6) (cs := [.func (.yield lr) #[] #[]]) (K.m4) hf
  have k7 := R.Own1.blk (f := f) hw1 (t := 3) (b := b7) (cs := [.int .i64 (headS m l i)]) (K.m3) hf
  have q1o := R.Own1.blk (f := f) hw1 (b := q1) (K.m2) hf
  have q2o := R.Own1.blk (f := f) hw1 (b := q2) (K.m1) hf
  have q3o := R.Own1.blk (f := f) hw1 (b := q3) (K.m0) hf
  have hB7 : B0 ≤ b7 := Nat.le_trans hB (K.blk_own hw1 (K.m3))
  have hJ1 := hJa.below hJ0 hf hB hw1.1
  have hStay : R.Stays w1.heap.size (fun k f W => J (hdK m l eye x y i k).length f W ∧ R.Own1 f W p1 [.pointer (some ⟨b, 0, none⟩)] ∧ R.Own1 f W p2 (ln l) ∧ R.Own1 f W p5 [.int .i64 eye] ∧ R.Own1 f W ⟨b, 0, none⟩ (mdl m A B C c d e) ∧ R.Own1 f W ⟨b6, 0, none⟩ [.func (.yield lr) #[] #[]] ∧ R.Own1 f W ⟨b7, 0, none⟩ [.int .i64 (headS m l i)]) := (hJa.mono (Nat.le_trans hB hw1.1.size) (fun k => (hdK m l eye x y i k).length)).and ((R.Stays.own1 k1.1).and ((R.Stays.own1 k2.1).and ((R.Stays.own1 k5.1).and ((R.Stays.own1 kM.1).and ((R.Stays.own1 k6.1).and (R.Stays.own1 k7.1))))))
  have hStayX : ∀ cc : Code, R.Stays w1.heap.size (fun _ f W => cc = Code.ret ∧ ∃ k, k ≤ (hidesS m l x y eye i).length ∧ Jx k f W) := fun cc k f w w' hJ hb hs => ⟨hJ.1, let ⟨k2, h1, h2⟩ := hJ.2; ⟨k2, h1, hJxa k2 f w w' h2 (hb.mono (Nat.le_trans hB hw1.1.size)) hs⟩⟩
  refine R.rangeW (gf := 100) (first := []) (cap := [.pointer (some ⟨q1, 0, none⟩), .pointer (some ⟨q3, 0, none⟩), .pointer (some ⟨q2, 0, none⟩)]) (enc := (fun s : Int × Int × Int => Value.agg #[.int .i64 s.1, .int .i64 s.2.1, .int .i64 s.2.2])) (XS := stepsS m x y i) rfl cal_100 (c100 (c := c) (d := d) (e := e) (A := A) (B := B) (C := C) (b := b) hW) w1.heap.size (Nat.le_refl _) (fun k f W => J (hdK m l eye x y i k).length f W ∧ R.Own1 f W p1 [.pointer (some ⟨b, 0, none⟩)] ∧ R.Own1 f W p2 (ln l) ∧ R.Own1 f W p5 [.int .i64 eye] ∧ R.Own1 f W ⟨b, 0, none⟩ (mdl m A B C c d e) ∧ R.Own1 f W ⟨b6, 0, none⟩ [.func (.yield lr) #[] #[]] ∧ R.Own1 f W ⟨b7, 0, none⟩ [.int .i64 (headS m l i)]) (fun cc f W => cc = Code.ret ∧ ∃ k, k ≤ (hidesS m l x y eye i).length ∧ Jx k f W) hStay hStayX f hf1 ⟨hJ1, k1, k2, k5, kM, k6, k7⟩ (fun f2 w2 hs hb => ⟨q1o.sub hs hb, q3o.sub hs hb, q2o.sub hs hb, kM.sub hs hb, (hP.pass hw1).later hb⟩) ?_ ?_ ?_
  · intro k s f1 W lr1 hs hJ hfb hBW
    obtain ⟨hJ1, h1, h2, h5, hMo, h6, h7⟩ := hJ
    have hst := hW.step hs
    have hbd := hide_bd hW hl he hs
    have htb := top_bd hW.g hl s.1
    have hhb := head_bd hW.g hl i
    try dsimp only [List.cons_append, List.nil_append]
    try dsimp only [setd, setn, ev, nth, over, cl, eI, eP, eT, eN, eS, setM, setF, List.map, List.append, List.drop, List.take]
    refine R.region_lit rfl ?_
    refine K.seq_new (K.alloc zr_114) rfl ?_
    intro b8
    refine zN ?_
    refine K.seq_st (K.store_all sz_114 rfl rfl rfl rfl (K.rp0)) rfl ?_
    refine zN ?_
    refine K.seq_nil ?_
    refine R.out ?_
    refine R.norm_then ?_
    refine R.bodyW (fun w2 hw2 W2 hJ2 hfb2 hs2 hz2 => ?_)
    obtain ⟨hJ1, h1, h2, h5, hMo, h6, h7⟩ := hJ2
    have h8 := R.Own1.round hw2 (K.m0) hfb hs2 hz2
    refine zN ?_
    refine R.block ?_
    refine R.seq ?_
    refine R.zdraw 25 Tryd_mixed rfl ?_
    refine R.z_mem 0 [0, 4, 7, 20, 21, 22, 23, 24, 25, 26, 27] rfl (K.load1 one_90 rfl (h1.ptr.any)) (fun _ h => h) (by kernel_rfl) (by kernel_rfl) rfl ?_
    refine zN ?_
    refine R.z_mem 1 [1, 4, 7, 20, 21, 22, 23, 24, 25, 26, 27] rfl (K.loadA_p ag_98 rfl (h2.ptr.any) rfl) (fun _ h => h) (by kernel_rfl) (by kernel_rfl) rfl ?_
    refine zN ?_
    refine R.z_pure 2 [2, 3, 4, 7, 20, 21, 22, 23, 24, 25, 26, 27] rfl (K.fieldAddr_lit fo_114_0 rfl) (fun _ h => h) (by kernel_rfl) (by kernel_rfl) rfl ?_
    refine zn ?_
    refine R.z_mem 3 [3, 4, 7, 20, 21, 22, 23, 24, 25, 26, 27] rfl (K.load_at one_3 rfl (h8.ptr.any) rfl) (fun _ h => h) (by kernel_rfl) (by kernel_rfl) rfl ?_
    refine zN ?_
    refine R.z_pure 5 [5, 6, 7, 20, 21, 22, 23, 24, 25, 26, 27] rfl (K.fieldAddr_lit fo_114_2 rfl) (fun _ h => h) (by kernel_rfl) (by kernel_rfl) rfl ?_
    refine zn ?_
    refine R.z_mem 6 [6, 7, 20, 21, 22, 23, 24, 25, 26, 27] rfl (K.load_at one_3 rfl (h8.ptr.any) rfl) (fun _ h => h) (by kernel_rfl) (by kernel_rfl) rfl ?_
    refine zN ?_
    refine R.z_mem 8 [8, 14, 19, 20, 21, 22, 23, 24, 25, 26, 27] rfl (K.load1 one_3 rfl (h5.ptr.any)) (fun _ h => h) (by kernel_rfl) (by kernel_rfl) rfl ?_
    refine zN ?_
    refine R.z_pure 9 [9, 10, 13, 14, 19, 20, 21, 22, 23, 24, 25, 26, 27] rfl (K.fieldAddr_lit fo_114_2 rfl) (fun _ h => h) (by kernel_rfl) (by kernel_rfl) rfl ?_
    refine zn ?_
    refine R.z_mem 10 [10, 13, 14, 19, 20, 21, 22, 23, 24, 25, 26, 27] rfl (K.load_at one_3 rfl (h8.ptr.any) rfl) (fun _ h => h) (by kernel_rfl) (by kernel_rfl) rfl ?_
    refine zN ?_
    refine R.z_pure 11 [11, 12, 13, 14, 19, 20, 21, 22, 23, 24, 25, 26, 27] rfl (K.fieldAddr_lit fo_114_1 rfl) (fun _ h => h) (by kernel_rfl) (by kernel_rfl) rfl ?_
    refine zn ?_
    refine R.z_mem 12 [12, 13, 14, 19, 20, 21, 22, 23, 24, 25, 26, 27] rfl (K.load_at one_3 rfl (h8.ptr.any) rfl) (fun _ h => h) (by kernel_rfl) (by kernel_rfl) rfl ?_
    refine zN ?_
    refine R.z_pure 13 [13, 14, 19, 20, 21, 22, 23, 24, 25, 26, 27] rfl (K.sub_i64 rfl rfl (by omega)) (fun _ h => h) (by kernel_rfl) (by kernel_rfl) rfl ?_
    refine zn ?_
    refine R.z_pure 14 [14, 19, 20, 21, 22, 23, 24, 25, 26, 27] rfl (K.mul_i64 rfl rfl (by omega)) (fun _ h => h) (by kernel_rfl) (by kernel_rfl) rfl ?_
    refine zn ?_
    refine R.z_mem 15 [15, 18, 19, 20, 21, 22, 23, 24, 25, 26, 27] rfl (K.load_at one_3 rfl (h7.ptr.any) rfl) (fun _ h => h) (by kernel_rfl) (by kernel_rfl) rfl ?_
    refine zN ?_
    refine R.z_pure 16 [16, 17, 18, 19, 20, 21, 22, 23, 24, 25, 26, 27] rfl (K.fieldAddr_lit fo_114_1 rfl) (fun _ h => h) (by kernel_rfl) (by kernel_rfl) rfl ?_
    refine zn ?_
    refine R.z_mem 17 [17, 18, 19, 20, 21, 22, 23, 24, 25, 26, 27] rfl (K.load_at one_3 rfl (h8.ptr.any) rfl) (fun _ h => h) (by kernel_rfl) (by kernel_rfl) rfl ?_
    refine zN ?_
    refine R.z_pure 18 [18, 19, 20, 21, 22, 23, 24, 25, 26, 27] rfl (K.mul_i64 rfl rfl (by omega)) (fun _ h => h) (by kernel_rfl) (by kernel_rfl) rfl ?_
    refine zn ?_
    refine R.z_pure 19 [19, 20, 21, 22, 23, 24, 25, 26, 27] rfl (K.add_i64 rfl rfl (by omega)) (fun _ h => h) (by kernel_rfl) (by kernel_rfl) rfl ?_
    refine zn ?_
    refine R.z_call 4 rfl rfl (K.call_g cal_73 (fun F w hF hw => c73 (hMo.into hw) hW.g hl (by omega))) (fun _ h => h) (by kernel_rfl) rfl ?_
    refine zN ?_
    refine R.z_pure 7 [7, 20, 21, 22, 23, 24, 25, 26, 27] rfl (K.mul_i64 rfl rfl (by omega)) (fun _ h => h) (by kernel_rfl) (by kernel_rfl) rfl ?_
    refine zn ?_
    refine R.z_pure 20 [20, 21, 22, 23, 24, 25, 26, 27] rfl (K.geq rfl rfl) (fun _ h => h) (by kernel_rfl) (by kernel_rfl) rfl ?_
    refine zn ?_
    refine R.z_pure 21 [21, 22, 23, 24, 25, 26, 27] rfl (K.move) (fun _ h => h) (by kernel_rfl) (by kernel_rfl) rfl ?_
    refine zn ?_
    refine R.zsplit 39 rfl (fun hg39 => ?_) (fun hg39 => ?_)
    · try replace hg39 := of_decide_eq_true hg39
      have hb : hideB m l eye i s = true := decide_eq_true hg39
      refine R.z_mem 22 [22, 25, 26, 27] rfl (K.load_at one_77 rfl (h6.ptr.any) rfl) (fun _ h => h) (by kernel_rfl) (by kernel_rfl) rfl ?_
      refine zN ?_
      refine R.z_pure 23 [23, 24, 25, 26, 27] rfl (K.fieldAddr_lit fo_114_0 rfl) (fun _ h => h) (by kernel_rfl) (by kernel_rfl) rfl ?_
      refine zn ?_
      refine R.z_mem 24 [24, 25, 26, 27] rfl (K.load_at one_3 rfl (h8.ptr.any) rfl) (fun _ h => h) (by kernel_rfl) (by kernel_rfl) rfl ?_
      refine zN ?_
      refine R.z_yield rfl rfl rfl (by kernel_rfl) rfl (fun w3 hw3 => R.yield_step2 hR (hd_at hs hb) (hJa.below hJ1 hfb2 (Nat.le_trans (Nat.le_trans hB hw1.1.size) (Nat.le_trans hBW (Nat.le_trans hw2.1.size hz2))) hw3.1)) ?_
      intro w3 hw3 bb w3' hst
      refine zN ?_
      first | refine R.y_pure 26 rfl (by kernel_rfl) (K.not_d rfl) rfl rfl ?_ | refine R.y_pure 26 rfl (by kernel_rfl) (K.not_ rfl) rfl rfl ?_
      refine zN ?_
      refine R.y_pure 27 rfl (by kernel_rfl) (K.pick_t rfl) rfl rfl ?_
      refine zn ?_
      refine R.y_done (by kernel_rfl) ?_
      refine R.norm_then ?_
      refine R.cond rfl (fun ht45 => ?_) (fun ht45 => ?_)
      · try replace ht45 := of_decide_eq_true ht45
        refine R.ret ?_
        refine R.ret_block ?_
        have hbf : bb = false := by simpa using ht45
        subst hbf
        rcases hst with ⟨h, _⟩ | ⟨_, k2, f2, hk2, hJn, hkp, hg2, hf2⟩
        case inl => cases h
        refine R.rpw_ret hw3 hkp hg2 hf2 (fun w4 hw4 => ?_)
        have h7n := h7.keep ((R.Keep.below (f := f1) hw3.1).trans hkp)
        have hB3 : B0 ≤ w3'.heap.size := Nat.le_of_lt (Nat.lt_of_le_of_lt hB7 h7n.1)
        exact ⟨rfl, k2, hk2, hJxa.below hJn hf2 hB3 hw4.1⟩
      try replace ht45 := of_decide_eq_false ht45
      refine R.skip ?_
      refine R.norm_block ?_
      have hbt : bb = true := by simpa using ht45
      subst hbt
      rcases hst with ⟨_, f2, hJn, hk2, hg2, hf2⟩ | ⟨h, _⟩
      case inr => cases h
      refine R.rpw_next hw3 hk2 hg2 hf2 (fun w4 hw4 => ?_)
      have ek := ((R.Keep.below (f := f1) hw3.1).trans hk2).trans (R.Keep.below (f := f2) hw4.1)
      have h7n := h7.keep ((R.Keep.below (f := f1) hw3.1).trans hk2)
      have hB3 : B0 ≤ w3'.heap.size := Nat.le_of_lt (Nat.lt_of_le_of_lt hB7 h7n.1)
      refine ⟨?_, h1.keep ek, h2.keep ek, h5.keep ek, hMo.keep ek, h6.keep ek, h7.keep ek⟩
      rw [hd_next hs, if_pos hb, List.length_append]
      exact hJa.below hJn hf2 hB3 hw4.1
    try replace hg39 := of_decide_eq_false hg39
    refine R.z_skip 22 [22, 25, 26, 27] rfl (fun _ h => h) (by kernel_rfl) (by kernel_rfl) rfl ?_
    refine zN ?_
    refine R.z_skip 23 [23, 24, 25, 26, 27] rfl (fun _ h => h) (by kernel_rfl) (by kernel_rfl) rfl ?_
    refine zN ?_
    refine R.z_skip 24 [24, 25, 26, 27] rfl (fun _ h => h) (by kernel_rfl) (by kernel_rfl) rfl ?_
    refine zN ?_
    refine R.z_none rfl (by kernel_rfl) rfl ?_
    refine zN ?_
    refine R.y_skip 26 rfl (by kernel_rfl) rfl ?_
    refine zN ?_
    refine R.y_pure 27 rfl (by kernel_rfl) (K.pick_f rfl) rfl rfl ?_
    refine zn ?_
    refine R.y_done (by kernel_rfl) ?_
    refine R.norm_then ?_
    refine R.cond_false rfl ?_
    refine R.skip ?_
    refine R.norm_block ?_
    refine R.rpw_same hStay (Nat.le_trans hBW (Nat.le_trans hw2.1.size hz2)) hfb2 ⟨?_, h1, h2, h5, hMo, h6, h7⟩
    rw [hd_next hs, if_neg (by simpa [hideB] using hg39), List.append_nil]
    exact hJ1
  · intro b2 f2 W hJ hm
    obtain ⟨hJ1, _, _, _, _, _, h7⟩ := hJ
    rw [hd_all] at hJ1
    refine R.leaveW hm (fun w => K.res_none rfl w) (fun W2 hb hs => ⟨⟨_, rfl⟩, .inl ⟨f2, hJa _ _ _ _ hJ1 (hb.mono (Nat.le_trans hB hw1.1.size)) hs⟩⟩)
  · intro b2 cc f2 W hJ hm
    obtain ⟨rfl, k2, hk2, hJ1⟩ := hJ
    refine wpIn_ret ?_
    refine R.leaveW hm (fun w => K.res_none rfl w) (fun W2 hb hs => ⟨⟨_, rfl⟩, .inr ⟨k2, f2, hk2, hJxa _ _ _ _ hJ1 (hb.mono (Nat.le_trans hB hw1.1.size)) hs⟩⟩)

end Go.Proofs.YthkgnhcknkjgdaaDoor
