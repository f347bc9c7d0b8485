/-
  Walks of the program's functions, printed by program: what each returns.
  Conditions stand in each theorem.
-/
import Derived.WalkArith
import Derived.Laws.Closers25b
import Derived.Test.YthkgnhcknkjgdaaDoorXp
set_option linter.unusedSimpArgs false
set_option linter.unusedVariables false
namespace Go.Proofs.YthkgnhcknkjgdaaDoor
open Go.RowKit Go
open Go.K (setd setn ev nth over cl eI eP eT setM setF)
attribute [local irreducible] K.blk K.row

set_option maxRecDepth 100000 in
theorem e14 {m : Mod} {A B C : Option Addr} {c d e : Nat} {t : Bool} {x0 x1 : Int} {w : World} (hH : K.Rd w A 1 K.eI m.hs) (hP : K.Rd w B 5 eN m.ps) (hS : K.Rd w C 4 eS m.ss) (hn : m.hs.length ≤ 4611686018427387904) (hm : m.ps.length ≤ 4611686018427387904) (hk : m.ss.length ≤ 4611686018427387904) (hcd : m.ps.length ≤ d) (hT : Tab w) (hc : (chk m).2.2 ≠ 0) :
    Calls Tryd.prog 14 [.agg #[.int .i64 m.W, .int .i64 m.D, .slice A m.hs.length c, .slice B m.ps.length d, .slice C m.ss.length e], .bool t, .agg #[.int .u16 x0, .int .u16 x1]].toArray w (K.Gives (.bool true) w) := by
  refine K.enter (args := [.agg #[.int .i64 m.W, .int .i64 m.D, .slice A m.hs.length c, .slice B m.ps.length d, .slice C m.ss.length e], .bool t, .agg #[.int .u16 x0, .int .u16 x1]]) Tryd.func14 rfl (n := 189) rfl ?_
  simp only [List.replicate, List.cons_append, List.nil_append]
  refine sr ?_
  refine K.seq_new (K.box) rfl ?_
  intro b3
  refine zN ?_
  refine K.seq_new (K.box) rfl ?_
  intro b5
  refine zN ?_
  refine qa ?_
  refine sn ?_
  refine K.seq ?_
  refine sr ?_
  refine K.seq_sil (K.loadA_own ag_26 rfl (K.m1) rfl) rfl ?_
  refine zN ?_
  refine K.seq_call (K.call_g cal_37 (fun F w hF hw => c37 (hH.pass hw) (hP.pass hw) (hS.pass hw) hn hm hk)) rfl ?_
  refine zN ?_
  first | refine K.seq_pure (K.Pure.eq (K.not_d rfl) (show _ = Value.bool true from congrArg Value.bool (by simp [hc]))) rfl ?_ | refine K.seq_pure (K.Pure.eq (K.not_ rfl) (show _ = Value.bool true from congrArg Value.bool (by simp [hc]))) rfl ?_
  refine zN ?_
  refine sn ?_
  refine K.cond_true rfl ?_
  refine sr ?_
  refine K.seq_call (K.call_g cal_25 (fun F w hF hw => c25 (hT.pass hw))) rfl ?_
  refine zN ?_
  refine qa ?_
  refine sn ?_
  refine K.ret ?_
  refine K.ret_then ?_
  refine K.end_ret (fun w _ => K.res_tmp rfl w) ?_
  exact K.gives rfl

set_option maxRecDepth 100000 in
theorem f14 {m : Mod} {A B C : Option Addr} {c d e : Nat} {t : Bool} {x0 x1 : Int} {w : World} (hH : K.Rd w A 1 K.eI m.hs) (hP : K.Rd w B 5 eN m.ps) (hS : K.Rd w C 4 eS m.ss) (hn : m.hs.length ≤ 4611686018427387904) (hm : m.ps.length ≤ 4611686018427387904) (hk : m.ss.length ≤ 4611686018427387904) (hcd : m.ps.length ≤ d) (hT : Tab w) (hc : (chk m).2.2 = 0) (hcb : (chk (mirM m t)).2.2 ≠ 0) :
    Calls Tryd.prog 14 [.agg #[.int .i64 m.W, .int .i64 m.D, .slice A m.hs.length c, .slice B m.ps.length d, .slice C m.ss.length e], .bool t, .agg #[.int .u16 x0, .int .u16 x1]].toArray w (K.Gives (.bool true) w) := by
  have g := chk_good hc
  have hgw := g.w
  have hgd := g.d
  have hgn := g.n
  have hgk := g.k
  obtain ⟨hmw, hmd⟩ := mir_w (t := t) g
  have hnB : (mirM m t).hs.length ≤ 4611686018427387904 := by
    rw [mir_l]
    have := Nat.mul_le_mul (show (mD m t).toNat ≤ 8 by omega) (show (mW m t).toNat ≤ 8 by omega)
    omega
  have hmB : (mirM m t).ps.length ≤ 4611686018427387904 := by rw [mir_n]; omega
  have hkB : (mirM m t).ss.length ≤ 4611686018427387904 := by rw [mir_k]; omega
  
  refine K.enter (args := [.agg #[.int .i64 m.W, .int .i64 m.D, .slice A m.hs.length c, .slice B m.ps.length d, .slice C m.ss.length e], .bool t, .agg #[.int .u16 x0, .int .u16 x1]]) Tryd.func14 rfl (n := 189) rfl ?_
  simp only [List.replicate, List.cons_append, List.nil_append]
  refine sr ?_
  refine K.seq_new (K.box) rfl ?_
  intro b3
  refine zN ?_
  refine K.seq_new (K.box) rfl ?_
  intro b5
  refine zN ?_
  refine qa ?_
  refine sn ?_
  refine K.seq ?_
  refine sr ?_
  refine K.seq_sil (K.loadA_own ag_26 rfl (K.m1) rfl) rfl ?_
  refine zN ?_
  refine K.seq_call (K.call_g cal_37 (fun F w hF hw => c37 (hH.pass hw) (hP.pass hw) (hS.pass hw) hn hm hk)) rfl ?_
  refine zN ?_
  first | refine K.seq_pure (K.Pure.eq (K.not_d rfl) (show _ = Value.bool false from congrArg Value.bool (by simp [hc]))) rfl ?_ | refine K.seq_pure (K.Pure.eq (K.not_ rfl) (show _ = Value.bool false from congrArg Value.bool (by simp [hc]))) rfl ?_
  refine zN ?_
  refine sn ?_
  refine K.cond_false rfl ?_
  refine K.skip ?_
  refine K.norm_then ?_
  refine sr ?_
  refine K.seq_sil (K.loadA_own ag_26 rfl (K.m1) rfl) rfl ?_
  refine zN ?_
  refine qm ?_
  refine K.seq_loud (K.call_f cal_49 (fun F w hF hw => c49 (hH.pass hw) (hP.pass hw) (hS.pass hw) g)) rfl ?_
  rintro ⟨⟨AH, aH⟩, ⟨AQ, aQ⟩, ⟨AS, aS⟩⟩ ⟨hq1, hq2, hq3, hcB⟩
  refine zN ?_
  refine K.seq_new (K.alloc zr_26) rfl ?_
  intro b7
  refine zN ?_
  refine K.seq_st (K.store_all sz_26 rfl rfl rfl rfl (K.rp0)) rfl ?_
  refine zN ?_
  refine sn ?_
  refine K.seq ?_
  refine sr ?_
  refine K.seq_sil (K.loadA_own ag_26 rfl (K.m0) rfl) rfl ?_
  refine zN ?_
  refine K.seq_call (K.call_g cal_37 (fun F w hF hw => c37 (m := (mirM m t)) (A := AH) (B := AQ) (C := AS) (c := aH) (d := aQ) (e := aS) (K.Rd.own (e := K.eI) (xs := (mirM m t).hs) hw (hF _ (K.m3)) hq1 (fun _ => rfl) (by decide)) (K.Rd.own (e := eN) (xs := (mirM m t).ps) hw (hF _ (K.m2)) hq2 (fun _ => rfl) (by decide)) (K.Rd.own (e := eS) (xs := (mirM m t).ss) hw (hF _ (K.m1)) hq3 (fun _ => rfl) (by decide)) hnB hmB hkB)) rfl ?_
  refine zN ?_
  first | refine K.seq_pure (K.Pure.eq (K.not_d rfl) (show _ = Value.bool true from congrArg Value.bool (by simp [hcb]))) rfl ?_ | refine K.seq_pure (K.Pure.eq (K.not_ rfl) (show _ = Value.bool true from congrArg Value.bool (by simp [hcb]))) rfl ?_
  refine zN ?_
  refine sn ?_
  refine K.cond_true rfl ?_
  refine sr ?_
  refine K.seq_call (K.call_g cal_25 (fun F w hF hw => c25 (hT.pass hw))) rfl ?_
  refine zN ?_
  refine qa ?_
  refine sn ?_
  refine K.ret ?_
  refine K.ret_then ?_
  refine K.end_ret (fun w _ => K.res_tmp rfl w) ?_
  exact K.gives rfl

set_option maxRecDepth 100000 in
set_option maxHeartbeats 2000000 in
theorem g14 {m : Mod} {A B C : Option Addr} {c d e : Nat} {n : Int} {t : Bool} {x0 x1 : Int} {w : World} (hH : K.Rd w A 1 K.eI m.hs) (hP : K.Rd w B 5 eN m.ps) (hS : K.Rd w C 4 eS m.ss) (hn : m.hs.length ≤ 4611686018427387904) (hm : m.ps.length ≤ 4611686018427387904) (hk : m.ss.length ≤ 4611686018427387904) (hcd : m.ps.length ≤ d) (hT : Tab w) (hc : (chk m).2.2 = 0) (hcb : (chk (mirM m t)).2.2 = 0) (h0 : 0 ≤ x0 ∧ x0 ≤ 65535) (h1 : 0 ≤ x1 ∧ x1 ≤ 65535) (hne : x1 % 2001 = n) :
    Calls Tryd.prog 14 [.agg #[.int .i64 m.W, .int .i64 m.D, .slice A m.hs.length c, .slice B m.ps.length d, .slice C m.ss.length e], .bool t, .agg #[.int .u16 x0, .int .u16 x1]].toArray w (K.Gives (.bool true) w) := by
  have g := chk_good hc
  have hgw := g.w
  have hgd := g.d
  have hgn := g.n
  have hgk := g.k
  obtain ⟨hmw, hmd⟩ := mir_w (t := t) g
  have hnB : (mirM m t).hs.length ≤ 4611686018427387904 := by
    rw [mir_l]
    have := Nat.mul_le_mul (show (mD m t).toNat ≤ 8 by omega) (show (mW m t).toNat ≤ 8 by omega)
    omega
  have hmB : (mirM m t).ps.length ≤ 4611686018427387904 := by rw [mir_n]; omega
  have hkB : (mirM m t).ss.length ≤ 4611686018427387904 := by rw [mir_k]; omega
  have hl1 := @lng_len6 m
  have hl2 : (fewL m).length ≤ 1000000 := by
    rcases few_law hc with ⟨_, _, ⟨s, h⟩, _⟩ | ⟨_, h, _⟩
    · rw [h]; have := @pts_len m.ss.length s; omega
    · rw [h]; exact Nat.zero_le _
  have hl3 : (offL m).length ≤ 1000000 := by
    obtain ⟨_, ⟨s, h⟩, _⟩ := off_law hc
    rw [h]; have := @pts_len m.ps.length s; omega
  have hn2 : 0 ≤ n ∧ n ≤ 2000 := by omega
  obtain ⟨⟨hle, hll⟩, hof, ⟨hfe, hfl⟩, hbs, hsv⟩ := mir_law hc hcb
  obtain ⟨hbl, hbe2, hbe⟩ := hbs n hn2
  refine K.enter (args := [.agg #[.int .i64 m.W, .int .i64 m.D, .slice A m.hs.length c, .slice B m.ps.length d, .slice C m.ss.length e], .bool t, .agg #[.int .u16 x0, .int .u16 x1]]) Tryd.func14 rfl (n := 189) rfl ?_
  simp only [List.replicate, List.cons_append, List.nil_append]
  refine sr ?_
  refine K.seq_new (K.box) rfl ?_
  intro b3
  refine zN ?_
  refine K.seq_new (K.box) rfl ?_
  intro b5
  refine zN ?_
  refine qa ?_
  refine sn ?_
  refine K.seq ?_
  refine sr ?_
  refine K.seq_sil (K.loadA_own ag_26 rfl (K.m1) rfl) rfl ?_
  refine zN ?_
  refine K.seq_call (K.call_g cal_37 (fun F w hF hw => c37 (hH.pass hw) (hP.pass hw) (hS.pass hw) hn hm hk)) rfl ?_
  refine zN ?_
  first | refine K.seq_pure (K.Pure.eq (K.not_d rfl) (show _ = Value.bool false from congrArg Value.bool (by simp [hc]))) rfl ?_ | refine K.seq_pure (K.Pure.eq (K.not_ rfl) (show _ = Value.bool false from congrArg Value.bool (by simp [hc]))) rfl ?_
  refine zN ?_
  refine sn ?_
  refine K.cond_false rfl ?_
  refine K.skip ?_
  refine K.norm_then ?_
  refine sr ?_
  refine K.seq_sil (K.loadA_own ag_26 rfl (K.m1) rfl) rfl ?_
  refine zN ?_
  refine qm ?_
  refine K.seq_loud (K.call_f cal_49 (fun F w hF hw => c49 (hH.pass hw) (hP.pass hw) (hS.pass hw) g)) rfl ?_
  rintro ⟨⟨AH, aH⟩, ⟨AQ, aQ⟩, ⟨AS, aS⟩⟩ ⟨hq1, hq2, hq3, hcB⟩
  refine zN ?_
  refine K.seq_new (K.alloc zr_26) rfl ?_
  intro b7
  refine zN ?_
  refine K.seq_st (K.store_all sz_26 rfl rfl rfl rfl (K.rp0)) rfl ?_
  refine zN ?_
  refine sn ?_
  refine K.seq ?_
  refine sr ?_
  refine K.seq_sil (K.loadA_own ag_26 rfl (K.m0) rfl) rfl ?_
  refine zN ?_
  refine K.seq_call (K.call_g cal_37 (fun F w hF hw => c37 (m := (mirM m t)) (A := AH) (B := AQ) (C := AS) (c := aH) (d := aQ) (e := aS) (K.Rd.own (e := K.eI) (xs := (mirM m t).hs) hw (hF _ (K.m3)) hq1 (fun _ => rfl) (by decide)) (K.Rd.own (e := eN) (xs := (mirM m t).ps) hw (hF _ (K.m2)) hq2 (fun _ => rfl) (by decide)) (K.Rd.own (e := eS) (xs := (mirM m t).ss) hw (hF _ (K.m1)) hq3 (fun _ => rfl) (by decide)) hnB hmB hkB)) rfl ?_
  refine zN ?_
  first | refine K.seq_pure (K.Pure.eq (K.not_d rfl) (show _ = Value.bool false from congrArg Value.bool (by simp [hcb]))) rfl ?_ | refine K.seq_pure (K.Pure.eq (K.not_ rfl) (show _ = Value.bool false from congrArg Value.bool (by simp [hcb]))) rfl ?_
  refine zN ?_
  refine sn ?_
  refine K.cond_false rfl ?_
  refine K.skip ?_
  refine K.norm_then ?_
  refine sr ?_
  refine K.seq_sil (K.loadA_own ag_26 rfl (K.m5) rfl) rfl ?_
  refine zN ?_
  refine K.seq_loud (K.call_f cal_26 (fun F w hF hw => c26 (hH.pass hw) (hP.pass hw) (hS.pass hw) hn hm hk hcd)) rfl ?_
  rintro ⟨A1, a1⟩ hqa
  refine zN ?_
  refine qm ?_
  refine qx ?_
  refine qx ?_
  iterate 2 refine qa ?_
  refine sn ?_
  refine sr ?_
  refine K.seq_sil (K.loadA_own ag_26 rfl (K.m1) rfl) rfl ?_
  refine zN ?_
  refine K.seq_loud (K.call_f cal_26 (fun F w hF hw => (by have hg := c26 (m := (mirM m t)) (A := AH) (B := AQ) (C := AS) (c := aH) (d := aQ) (e := aS) (K.Rd.own (e := K.eI) (xs := (mirM m t).hs) hw (hF _ (K.m4)) hq1 (fun _ => rfl) (by decide)) (K.Rd.own (e := eN) (xs := (mirM m t).ps) hw (hF _ (K.m3)) hq2 (fun _ => rfl) (by decide)) (K.Rd.own (e := eS) (xs := (mirM m t).ss) hw (hF _ (K.m2)) hq3 (fun _ => rfl) (by decide)) hnB hmB hkB hcB; rw [hle, hll] at hg; exact hg))) rfl ?_
  rintro ⟨A2, a2⟩ hqb
  refine zN ?_
  refine qm ?_
  refine qx ?_
  refine qx ?_
  iterate 2 refine qa ?_
  refine sn ?_
  refine sr ?_
  refine K.seq_sil (K.loadA_own ag_26 rfl (K.m7) rfl) rfl ?_
  refine zN ?_
  refine K.seq_loud (K.call_f cal_34 (fun F w hF hw => c34 (hH.pass hw) (hP.pass hw) (hS.pass hw) hn hm hk hcd (hT.pass hw))) rfl ?_
  rintro ⟨A3, a3⟩ hqc
  refine zN ?_
  refine qm ?_
  refine qx ?_
  refine qx ?_
  iterate 2 refine qa ?_
  refine sn ?_
  refine sr ?_
  refine K.seq_sil (K.loadA_own ag_26 rfl (K.m3) rfl) rfl ?_
  refine zN ?_
  refine K.seq_loud (K.call_f cal_34 (fun F w hF hw => (by have hg := c34 (m := (mirM m t)) (A := AH) (B := AQ) (C := AS) (c := aH) (d := aQ) (e := aS) (K.Rd.own (e := K.eI) (xs := (mirM m t).hs) hw (hF _ (K.m6)) hq1 (fun _ => rfl) (by decide)) (K.Rd.own (e := eN) (xs := (mirM m t).ps) hw (hF _ (K.m5)) hq2 (fun _ => rfl) (by decide)) (K.Rd.own (e := eS) (xs := (mirM m t).ss) hw (hF _ (K.m4)) hq3 (fun _ => rfl) (by decide)) hnB hmB hkB hcB (hT.pass hw); rw [hof] at hg; exact hg))) rfl ?_
  rintro ⟨A4, a4⟩ hqd
  refine zN ?_
  refine qm ?_
  refine qx ?_
  refine qx ?_
  iterate 2 refine qa ?_
  refine sn ?_
  refine sr ?_
  refine K.seq_sil (K.loadA_own ag_26 rfl (K.m9) rfl) rfl ?_
  refine zN ?_
  refine K.seq_loud (K.call_f cal_32 (fun F w hF hw => c32 (hH.pass hw) (hP.pass hw) (hS.pass hw) hn hm hk hcd (hT.pass hw))) rfl ?_
  rintro ⟨A5, a5⟩ hqe
  refine zN ?_
  refine qm ?_
  refine qx ?_
  refine qx ?_
  iterate 2 refine qa ?_
  refine sn ?_
  refine sr ?_
  refine K.seq_sil (K.loadA_own ag_26 rfl (K.m5) rfl) rfl ?_
  refine zN ?_
  refine K.seq_loud (K.call_f cal_32 (fun F w hF hw => (by have hg := c32 (m := (mirM m t)) (A := AH) (B := AQ) (C := AS) (c := aH) (d := aQ) (e := aS) (K.Rd.own (e := K.eI) (xs := (mirM m t).hs) hw (hF _ (K.m8)) hq1 (fun _ => rfl) (by decide)) (K.Rd.own (e := eN) (xs := (mirM m t).ps) hw (hF _ (K.m7)) hq2 (fun _ => rfl) (by decide)) (K.Rd.own (e := eS) (xs := (mirM m t).ss) hw (hF _ (K.m6)) hq3 (fun _ => rfl) (by decide)) hnB hmB hkB hcB (hT.pass hw); rw [hfe, hfl] at hg; exact hg))) rfl ?_
  rintro ⟨A6, a6⟩ hqf
  refine zN ?_
  refine qm ?_
  refine qx ?_
  refine qx ?_
  iterate 2 refine qa ?_
  refine sn ?_
  refine K.seq ?_
  refine sr ?_
  iterate 2 refine qm ?_
  refine K.seq_call (K.call_g cal_20 (fun F w hF hw => (by have hA := (K.Rd.own (e := K.eI) (xs := (lngL m)) hw (hF _ (K.m5)) hqa (fun _ => rfl) (by decide)); have hB := (K.Rd.own (e := K.eI) (xs := (lngL m)) hw (hF _ (K.m4)) hqb (fun _ => rfl) (by decide)); exact c20t (xs := (lngL m)) hA hB hl1))) rfl ?_
  refine zN ?_
  first | refine K.seq_pure (K.Pure.eq (K.not_d rfl) (show _ = Value.bool false from rfl)) rfl ?_ | refine K.seq_pure (K.Pure.eq (K.not_ rfl) (show _ = Value.bool false from rfl)) rfl ?_
  refine zN ?_
  iterate 3 refine qm ?_
  refine qp (K.Pure.eq (K.neq rfl rfl) (show _ = Value.bool false from congrArg Value.bool (by simp))) ?_
  refine qp (K.pick_f rfl) ?_
  iterate 3 refine qm ?_
  refine K.seq_call (K.call_g cal_20 (fun F w hF hw => (by have hA := (K.Rd.own (e := K.eI) (xs := (offL m)) hw (hF _ (K.m3)) hqc (fun _ => rfl) (by decide)); have hB := (K.Rd.own (e := K.eI) (xs := (offL m)) hw (hF _ (K.m2)) hqd (fun _ => rfl) (by decide)); exact c20t (xs := (offL m)) hA hB hl3))) rfl ?_
  refine zN ?_
  first | refine K.seq_pure (K.Pure.eq (K.not_d rfl) (show _ = Value.bool false from rfl)) rfl ?_ | refine K.seq_pure (K.Pure.eq (K.not_ rfl) (show _ = Value.bool false from rfl)) rfl ?_
  refine zN ?_
  refine qp (K.pick_f rfl) ?_
  iterate 2 refine qm ?_
  refine qp (K.Pure.eq (K.neq rfl rfl) (show _ = Value.bool false from congrArg Value.bool (by simp [hc]))) ?_
  refine qp (K.pick_f rfl) ?_
  iterate 3 refine qm ?_
  refine qp (K.Pure.eq (K.neq rfl rfl) (show _ = Value.bool false from congrArg Value.bool (by simp [hc, hcb]))) ?_
  refine qp (K.pick_f rfl) ?_
  iterate 3 refine qm ?_
  refine K.seq_call (K.call_g cal_20 (fun F w hF hw => (by have hA := (K.Rd.own (e := K.eI) (xs := (fewL m)) hw (hF _ (K.m1)) hqe (fun _ => rfl) (by decide)); have hB := (K.Rd.own (e := K.eI) (xs := (fewL m)) hw (hF _ (K.m0)) hqf (fun _ => rfl) (by decide)); exact c20t (xs := (fewL m)) hA hB hl2))) rfl ?_
  refine zN ?_
  first | refine K.seq_pure (K.Pure.eq (K.not_d rfl) (show _ = Value.bool false from rfl)) rfl ?_ | refine K.seq_pure (K.Pure.eq (K.not_ rfl) (show _ = Value.bool false from rfl)) rfl ?_
  refine zN ?_
  refine qp (K.pick_f rfl) ?_
  iterate 3 refine qm ?_
  refine qp (K.Pure.eq (K.neq rfl rfl) (show _ = Value.bool false from congrArg Value.bool (by simp))) ?_
  refine qp (K.pick_f rfl) ?_
  refine sn ?_
  refine K.cond_false rfl ?_
  refine K.skip ?_
  refine K.norm_then ?_
  refine K.seq ?_
  refine K.weak (List.Sublist.cons _ (List.Sublist.cons _ (List.Sublist.cons _ (List.Sublist.cons _ (List.Sublist.cons _ (List.Sublist.cons _ (List.Sublist.cons_cons _ (List.Sublist.cons_cons _ (List.Sublist.cons_cons _ (List.Sublist.cons_cons _ (List.Sublist.cons_cons _ (List.Sublist.cons_cons _ (List.Sublist.slnil))))))))))))) ?_
  refine K.region_lit ?_
  refine K.seq_pure (K.indexAddr_ar ar_58 rfl rfl (by omega) (by omega)) rfl ?_
  refine zN ?_
  refine K.seq_sil (K.load1_own one_57 rfl (K.m4) rfl) rfl ?_
  refine zN ?_
  refine K.seq_pure (K.Pure.eq (K.conv_int ik_57 ik_3 rfl) (show _ = Value.int .i64 x1 from by rw [IntWalk.i64_in _ (by omega)])) rfl ?_
  refine zN ?_
  refine qp (K.Pure.eq (K.rem_i64 rfl rfl (by omega) (by omega)) (show _ = Value.int .i64 n from by rw [hne])) ?_
  refine qa ?_
  refine sn ?_
  refine sr ?_
  refine K.seq_sil (K.loadA_own ag_26 rfl (K.m5) rfl) rfl ?_
  refine zN ?_
  refine qm ?_
  refine K.seq_loud (K.call_f cal_30 (fun F w hF hw => c30 (hH.pass hw) (hP.pass hw) (hS.pass hw) hn hm hk hcd (hT.pass hw))) rfl ?_
  rintro ⟨A7, a7⟩ hqg
  refine zN ?_
  refine qm ?_
  refine qx ?_
  refine qx ?_
  refine qx ?_
  refine qx ?_
  iterate 4 refine qa ?_
  refine sn ?_
  refine sr ?_
  refine K.seq_sil (K.loadA_own ag_26 rfl (K.m1) rfl) rfl ?_
  refine zN ?_
  refine qm ?_
  refine K.seq_loud (K.call_f cal_30 (fun F w hF hw => c30 (m := (mirM m t)) (A := AH) (B := AQ) (C := AS) (c := aH) (d := aQ) (e := aS) (K.Rd.own (e := K.eI) (xs := (mirM m t).hs) hw (hF _ (K.m4)) hq1 (fun _ => rfl) (by decide)) (K.Rd.own (e := eN) (xs := (mirM m t).ps) hw (hF _ (K.m3)) hq2 (fun _ => rfl) (by decide)) (K.Rd.own (e := eS) (xs := (mirM m t).ss) hw (hF _ (K.m2)) hq3 (fun _ => rfl) (by decide)) hnB hmB hkB hcB (hT.pass hw))) rfl ?_
  rintro ⟨A8, a8⟩ hqh
  refine zN ?_
  refine qm ?_
  refine qx ?_
  refine qx ?_
  refine qx ?_
  refine qx ?_
  iterate 4 refine qa ?_
  refine sn ?_
  refine K.seq ?_
  refine sr ?_
  refine qm ?_
  refine qp (K.len_sl sl_22 rfl) ?_
  refine qm ?_
  refine qp (K.len_sl sl_22 rfl) ?_
  refine qp (K.Pure.eq (K.neq rfl rfl) (show _ = Value.bool false from congrArg Value.bool (by simp [hbl]))) ?_
  iterate 2 refine qm ?_
  refine qp (K.Pure.eq (K.neq rfl rfl) (show _ = Value.bool false from congrArg Value.bool (by simp [hbe]))) ?_
  refine qp (K.pick_f rfl) ?_
  iterate 3 refine qm ?_
  refine qp (K.Pure.eq (K.neq rfl rfl) (show _ = Value.bool false from congrArg Value.bool (by simp [hbe, hbe2]))) ?_
  refine qp (K.pick_f rfl) ?_
  refine sn ?_
  refine K.cond_false rfl ?_
  refine K.skip ?_
  refine K.norm_then ?_
  refine K.seq ?_
  refine sr ?_
  refine qp (K.fieldAddr_lit fo_26_4 rfl) ?_
  refine K.seq_sil (K.load1_own one_24 rfl (K.m7) rfl) rfl ?_
  refine zN ?_
  refine qp (K.len_sl sl_24 rfl) ?_
  refine qp (K.eql rfl rfl) ?_
  refine sn ?_
  refine K.cond rfl (fun ht149 => ?_) (fun ht149 => ?_)
  · try replace ht149 := of_decide_eq_true ht149
    refine sr ?_
    refine K.seq_call (K.call_g cal_25 (fun F w hF hw => c25 (hT.pass hw))) rfl ?_
    refine zN ?_
    refine qa ?_
    refine sn ?_
    refine K.ret ?_
    refine K.ret_then ?_
    refine K.end_ret (fun w _ => K.res_tmp rfl w) ?_
    exact K.gives rfl
  try replace ht149 := of_decide_eq_false ht149
  obtain ⟨s, hse⟩ := Int.eq_ofNat_of_zero_le (Int.emod_nonneg x0 (b := (m.ss.length : Int)) (by omega))
  have hsl := Int.emod_lt_of_pos x0 (b := (m.ss.length : Int)) (by omega)
  have hs : s < m.ss.length := by omega
  have hse0 := seen_0 hc hs
  have hse1 : seenE (mirM m t) s = 0 := seen_0 (m := mirM m t) hcb (by rw [mir_k]; exact hs)
  have hl4 := sure_len6 (m := m) (s := s)
  have hl5 := may_len6 (m := m) (s := s)
  refine K.skip ?_
  refine K.norm_then ?_
  refine sr ?_
  refine K.seq_pure (K.indexAddr_ar ar_58 rfl rfl (by omega) (by omega)) rfl ?_
  refine zN ?_
  refine K.seq_sil (K.load1_own one_57 rfl (K.m6) rfl) rfl ?_
  refine zN ?_
  refine K.seq_pure (K.Pure.eq (K.conv_int ik_57 ik_3 rfl) (show _ = Value.int .i64 x0 from by rw [IntWalk.i64_in _ (by omega)])) rfl ?_
  refine zN ?_
  refine qp (K.fieldAddr_lit fo_26_4 rfl) ?_
  refine K.seq_sil (K.load1_own one_24 rfl (K.m7) rfl) rfl ?_
  refine zN ?_
  refine qp (K.len_sl sl_24 rfl) ?_
  refine qp (K.Pure.eq (K.rem_i64 rfl rfl (by omega) (by omega)) (show _ = Value.int .i64 (s : Int) from by rw [hse])) ?_
  refine qa ?_
  refine sn ?_
  refine sr ?_
  refine K.seq_sil (K.loadA_own ag_26 rfl (K.m7) rfl) rfl ?_
  refine zN ?_
  refine qm ?_
  refine K.seq_loud (K.call_f cal_21 (fun F w hF hw => c21 (hH.pass hw) (hP.pass hw) (hS.pass hw) hn hm hk hcd (hT.pass hw))) rfl ?_
  rintro ⟨⟨A9, a9⟩, ⟨A10, a10⟩⟩ ⟨hqi, hqj⟩
  refine zN ?_
  refine qm ?_
  refine qx ?_
  refine qx ?_
  refine qx ?_
  iterate 3 refine qa ?_
  refine sn ?_
  refine sr ?_
  refine K.seq_sil (K.loadA_own ag_26 rfl (K.m4) rfl) rfl ?_
  refine zN ?_
  refine qm ?_
  refine K.seq_loud (K.call_f cal_21 (fun F w hF hw => (by have hg := c21 (s := (s : Int)) (m := (mirM m t)) (A := AH) (B := AQ) (C := AS) (c := aH) (d := aQ) (e := aS) (K.Rd.own (e := K.eI) (xs := (mirM m t).hs) hw (hF _ (K.m7)) hq1 (fun _ => rfl) (by decide)) (K.Rd.own (e := eN) (xs := (mirM m t).ps) hw (hF _ (K.m6)) hq2 (fun _ => rfl) (by decide)) (K.Rd.own (e := eS) (xs := (mirM m t).ss) hw (hF _ (K.m5)) hq3 (fun _ => rfl) (by decide)) hnB hmB hkB hcB (hT.pass hw); rw [(hsv s hs).1, (hsv s hs).2] at hg; exact hg))) rfl ?_
  rintro ⟨⟨A11, a11⟩, ⟨A12, a12⟩⟩ ⟨hqk, hql⟩
  refine zN ?_
  refine qm ?_
  refine qx ?_
  refine qx ?_
  refine qx ?_
  iterate 3 refine qa ?_
  refine sn ?_
  refine sr ?_
  iterate 2 refine qm ?_
  refine K.seq_call (K.call_g cal_20 (fun F w hF hw => (by have hA := (K.Rd.own (e := K.eI) (xs := (sureL m s)) hw (hF _ (K.m3)) hqi (fun _ => rfl) (by decide)); have hB := (K.Rd.own (e := K.eI) (xs := (sureL m s)) hw (hF _ (K.m1)) hqk (fun _ => rfl) (by decide)); exact c20t (xs := (sureL m s)) hA hB hl4))) rfl ?_
  refine zN ?_
  iterate 3 refine qm ?_
  refine K.seq_call (K.call_g cal_20 (fun F w hF hw => (by have hA := (K.Rd.own (e := K.eI) (xs := (mayL m s)) hw (hF _ (K.m2)) hqj (fun _ => rfl) (by decide)); have hB := (K.Rd.own (e := K.eI) (xs := (mayL m s)) hw (hF _ (K.m0)) hql (fun _ => rfl) (by decide)); exact c20t (xs := (mayL m s)) hA hB hl5))) rfl ?_
  refine zN ?_
  refine qp (K.pick_t rfl) ?_
  iterate 2 refine qm ?_
  refine qp (K.Pure.eq (K.eql rfl rfl) (show _ = Value.bool true from congrArg Value.bool (by simp [hse0]))) ?_
  refine qp (K.pick_t rfl) ?_
  iterate 3 refine qm ?_
  refine qp (K.Pure.eq (K.eql rfl rfl) (show _ = Value.bool true from congrArg Value.bool (by simp [hse0, hse1]))) ?_
  refine qp (K.pick_t rfl) ?_
  refine qm ?_
  refine K.seq_call (K.call_g cal_25 (fun F w hF hw => c25 (hT.pass hw))) rfl ?_
  refine zN ?_
  refine qp (K.pick_t rfl) ?_
  refine qa ?_
  refine sn ?_
  refine K.ret ?_
  refine K.end_ret (fun w _ => K.res_tmp rfl w) ?_
  exact K.gives rfl

theorem c14 {m : Mod} {A B C : Option Addr} {c d e : Nat} {t : Bool} {x0 x1 : Int} {w : World} (hH : K.Rd w A 1 K.eI m.hs) (hP : K.Rd w B 5 eN m.ps) (hS : K.Rd w C 4 eS m.ss) (hn : m.hs.length ≤ 4611686018427387904) (hm : m.ps.length ≤ 4611686018427387904) (hk : m.ss.length ≤ 4611686018427387904) (hcd : m.ps.length ≤ d) (hT : Tab w) (h0 : 0 ≤ x0 ∧ x0 ≤ 65535) (h1 : 0 ≤ x1 ∧ x1 ≤ 65535) : Calls Tryd.prog 14 [.agg #[.int .i64 m.W, .int .i64 m.D, .slice A m.hs.length c, .slice B m.ps.length d, .slice C m.ss.length e], .bool t, .agg #[.int .u16 x0, .int .u16 x1]].toArray w (K.Gives (.bool true) w) := by
  by_cases hc : (chk m).2.2 = 0
  · by_cases hcb : (chk (mirM m t)).2.2 = 0
    · exact g14 hH hP hS hn hm hk hcd hT hc hcb h0 h1 rfl
    · exact f14 hH hP hS hn hm hk hcd hT hc hcb
  · exact e14 hH hP hS hn hm hk hcd hT hc


end Go.Proofs.YthkgnhcknkjgdaaDoor
