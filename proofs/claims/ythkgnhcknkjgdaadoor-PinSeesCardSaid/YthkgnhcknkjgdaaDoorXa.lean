/-
  Walks of the program's functions, printed by program: what each returns.
  Conditions stand in each theorem.
-/
import Derived.Test.YthkgnhcknkjgdaaDoorKf
import Derived.Test.YthkgnhcknkjgdaaDoorK2
import Derived.WalkArith
import Derived.Laws.Closers25b
import Derived.Test.YthkgnhcknkjgdaaDoorS1
import Derived.Test.YthkgnhcknkjgdaaDoorS2
import Derived.Test.YthkgnhcknkjgdaaDoorS3
import Derived.Test.YthkgnhcknkjgdaaDoorS7
import Derived.Test.YthkgnhcknkjgdaaDoorK7
import Derived.Test.YthkgnhcknkjgdaaDoorK8
import Derived.Test.YthkgnhcknkjgdaaDoorWa
import Derived.Test.YthkgnhcknkjgdaaDoorWd
import Derived.Test.YthkgnhcknkjgdaaDoorWe
import Derived.Test.YthkgnhcknkjgdaaDoorWk
import Derived.Test.YthkgnhcknkjgdaaDoorWl
import Derived.Test.YthkgnhcknkjgdaaDoorWm
import Derived.Test.YthkgnhcknkjgdaaDoorWn
import Derived.Test.YthkgnhcknkjgdaaDoorWo
import Derived.Test.YthkgnhcknkjgdaaDoorWw
import Derived.Test.YthkgnhcknkjgdaaDoorWx
import Derived.Test.YthkgnhcknkjgdaaDoorWz
import Derived.Test.YthkgnhcknkjgdaaDoorK3
import Derived.Test.YthkgnhcknkjgdaaDoorK4
set_option linter.unusedSimpArgs false
set_option linter.unusedVariables false
namespace Go.Proofs.YthkgnhcknkjgdaaDoor
open Go.RowKit Go
open Go.K (setd setn ev nth over cl eI eP eT setM setF)
attribute [local irreducible] K.blk K.row

set_option maxRecDepth 100000 in
set_option maxHeartbeats 2000000 in
theorem c3 {m : Mod} {A B C : Option Addr} {c d e : Nat} {s eye p : Int} {w : World} (hH : K.Rd w A 1 K.eI m.hs) (hP : K.Rd w B 5 eN m.ps) (hS : K.Rd w C 4 eS m.ss) (hn : m.hs.length ≤ 4611686018427387904) (hm : m.ps.length ≤ 4611686018427387904) (hk : m.ss.length ≤ 4611686018427387904) (hcd : m.ps.length ≤ d) (hT : Tab w) (hsb : -9223372036854775808 ≤ s ∧ s ≤ 9223372036854775807) :
    Calls Tryd.prog 3 [.agg #[.int .i64 m.W, .int .i64 m.D, .slice A m.hs.length c, .slice B m.ps.length d, .slice C m.ss.length e], .agg #[.int .i64 s, .int .i64 eye, .int .i64 p]].toArray w (K.Gives (.bool true) w) := by
  have hl1 := hid_len6 (m := m) (s := s) (eye := eye) (p := p)
  have hl2 := sure_len6 (m := m) (s := s)
  have hl3 := may_len6 (m := m) (s := s)
  refine K.enter (args := [.agg #[.int .i64 m.W, .int .i64 m.D, .slice A m.hs.length c, .slice B m.ps.length d, .slice C m.ss.length e], .agg #[.int .i64 s, .int .i64 eye, .int .i64 p]]) Tryd.func3 rfl (n := 129) rfl ?_
  simp only [List.replicate, List.cons_append, List.nil_append]
  refine K.seq ?_
  refine K.region_lit ?_
  refine K.seq_new (K.box) rfl ?_
  intro b2
  try dsimp only [setd, setn, ev, nth, over, cl, eI, eP, eT, eN, eS, List.map, List.append, List.drop, List.take]
  refine K.seq_new (K.box) rfl ?_
  intro b3
  try dsimp only [setd, setn, ev, nth, over, cl, eI, eP, eT, eN, eS, List.map, List.append, List.drop, List.take]
  refine K.seq_pure (K.assign) rfl ?_
  dsimp only [setd, setn, ev, nth]
  refine K.seq_nil ?_
  refine K.norm_then ?_
  refine K.seq ?_
  refine K.region_lit ?_
  refine K.seq_sil (K.loadA_own ag_26 rfl (K.m1) rfl) rfl ?_
  try dsimp only [setd, setn, ev, nth, over, cl, eI, eP, eT, eN, eS, List.map, List.append, List.drop, List.take]
  refine K.seq_call (K.call_g cal_16 (fun F w hF hw => c16 (hH.pass hw) (hP.pass hw) (hS.pass hw) hn hm hk hcd)) rfl ?_
  try dsimp only [setd, setn, ev, nth, over, cl, eI, eP, eT, eN, eS, List.map, List.append, List.drop, List.take]
  refine K.seq_pure (K.move) rfl ?_
  dsimp only [setd, setn, ev, nth]
  refine K.seq_pure (K.extract rfl rfl) rfl ?_
  dsimp only [setd, setn, ev, nth]
  refine K.seq_pure (K.extract rfl rfl) rfl ?_
  dsimp only [setd, setn, ev, nth]
  refine K.seq_pure (K.extract rfl rfl) rfl ?_
  dsimp only [setd, setn, ev, nth]
  refine K.seq_pure (K.assign) rfl ?_
  dsimp only [setd, setn, ev, nth]
  refine K.seq_pure (K.assign) rfl ?_
  dsimp only [setd, setn, ev, nth]
  refine K.seq_pure (K.assign) rfl ?_
  dsimp only [setd, setn, ev, nth]
  refine K.seq_nil ?_
  refine K.norm_then ?_
  refine K.seq ?_
  refine K.region_lit ?_
  refine K.seq_sil (K.loadA_own ag_26 rfl (K.m1) rfl) rfl ?_
  try dsimp only [setd, setn, ev, nth, over, cl, eI, eP, eT, eN, eS, List.map, List.append, List.drop, List.take]
  refine K.seq_call (K.call_g cal_17 (fun F w hF hw => c17 (hH.pass hw) (hP.pass hw) (hS.pass hw) hn hm hk)) rfl ?_
  try dsimp only [setd, setn, ev, nth, over, cl, eI, eP, eT, eN, eS, List.map, List.append, List.drop, List.take]
  refine K.seq_pure (K.move) rfl ?_
  dsimp only [setd, setn, ev, nth]
  refine K.seq_pure (K.extract rfl rfl) rfl ?_
  dsimp only [setd, setn, ev, nth]
  refine K.seq_pure (K.extract rfl rfl) rfl ?_
  dsimp only [setd, setn, ev, nth]
  refine K.seq_pure (K.extract rfl rfl) rfl ?_
  dsimp only [setd, setn, ev, nth]
  refine K.seq_pure (K.assign) rfl ?_
  dsimp only [setd, setn, ev, nth]
  refine K.seq_pure (K.assign) rfl ?_
  dsimp only [setd, setn, ev, nth]
  refine K.seq_pure (K.assign) rfl ?_
  dsimp only [setd, setn, ev, nth]
  refine K.seq_nil ?_
  refine K.norm_then ?_
  refine K.seq ?_
  refine K.seq ?_
  refine K.region_lit ?_
  refine K.seq_pure (K.move) rfl ?_
  dsimp only [setd, setn, ev, nth]
  refine K.seq_pure (K.move) rfl ?_
  dsimp only [setd, setn, ev, nth]
  refine K.seq_pure (K.Pure.eq (K.neq rfl rfl) (show _ = Value.bool false from congrArg Value.bool (by simp))) rfl ?_
  dsimp only [setd, setn, ev, nth]
  refine K.seq_pure (K.move) rfl ?_
  dsimp only [setd, setn, ev, nth]
  refine K.seq_pure (K.move) rfl ?_
  dsimp only [setd, setn, ev, nth]
  refine K.seq_pure (K.move) rfl ?_
  dsimp only [setd, setn, ev, nth]
  refine K.seq_pure (K.Pure.eq (K.neq rfl rfl) (show _ = Value.bool false from congrArg Value.bool (by simp))) rfl ?_
  dsimp only [setd, setn, ev, nth]
  refine K.seq_pure (K.pick_f rfl) rfl ?_
  dsimp only [setd, setn, ev, nth]
  refine K.seq_pure (K.move) rfl ?_
  dsimp only [setd, setn, ev, nth]
  refine K.seq_pure (K.move) rfl ?_
  dsimp only [setd, setn, ev, nth]
  refine K.seq_pure (K.move) rfl ?_
  dsimp only [setd, setn, ev, nth]
  refine K.seq_pure (K.Pure.eq (K.neq rfl rfl) (show _ = Value.bool false from congrArg Value.bool (by simp))) rfl ?_
  dsimp only [setd, setn, ev, nth]
  refine K.seq_pure (K.pick_f rfl) rfl ?_
  dsimp only [setd, setn, ev, nth]
  refine K.seq_nil ?_
  refine K.norm_then ?_
  refine K.cond_false rfl ?_
  refine K.skip ?_
  refine K.norm_then ?_
  refine K.seq ?_
  refine K.region_lit ?_
  refine K.seq_sil (K.loadA_own ag_26 rfl (K.m1) rfl) rfl ?_
  try dsimp only [setd, setn, ev, nth, over, cl, eI, eP, eT, eN, eS, List.map, List.append, List.drop, List.take]
  refine K.seq_pure (K.fieldAddr_lit fo_28_0 rfl) rfl ?_
  dsimp only [setd, setn, ev, nth]
  refine K.seq_sil (K.load1_own one_3 rfl (K.m0) rfl) rfl ?_
  try dsimp only [setd, setn, ev, nth, over, cl, eI, eP, eT, eN, eS, List.map, List.append, List.drop, List.take]
  refine K.seq_pure (K.fieldAddr_lit fo_28_1 rfl) rfl ?_
  dsimp only [setd, setn, ev, nth]
  refine K.seq_sil (K.load1_own one_3 rfl (K.m0) rfl) rfl ?_
  try dsimp only [setd, setn, ev, nth, over, cl, eI, eP, eT, eN, eS, List.map, List.append, List.drop, List.take]
  refine K.seq_pure (K.fieldAddr_lit fo_28_2 rfl) rfl ?_
  dsimp only [setd, setn, ev, nth]
  refine K.seq_sil (K.load1_own one_3 rfl (K.m0) rfl) rfl ?_
  try dsimp only [setd, setn, ev, nth, over, cl, eI, eP, eT, eN, eS, List.map, List.append, List.drop, List.take]
  refine K.seq_loud (K.call_f cal_18 (fun F w hF hw => c18 (hH.pass hw) (hP.pass hw) (hS.pass hw) hn hm hk hcd)) rfl ?_
  rintro ⟨A1, a1⟩ hq1
  try dsimp only [setd, setn, ev, nth, over, cl, eI, eP, eT, eN, eS, List.map, List.append, List.drop, List.take]
  refine K.seq_pure (K.move) rfl ?_
  dsimp only [setd, setn, ev, nth]
  refine K.seq_pure (K.extract rfl rfl) rfl ?_
  dsimp only [setd, setn, ev, nth]
  refine K.seq_pure (K.extract rfl rfl) rfl ?_
  dsimp only [setd, setn, ev, nth]
  refine K.seq_pure (K.assign) rfl ?_
  dsimp only [setd, setn, ev, nth]
  refine K.seq_pure (K.assign) rfl ?_
  dsimp only [setd, setn, ev, nth]
  refine K.seq_nil ?_
  refine K.norm_then ?_
  refine K.seq ?_
  refine K.region_lit ?_
  refine K.seq_sil (K.loadA_own ag_26 rfl (K.m2) rfl) rfl ?_
  try dsimp only [setd, setn, ev, nth, over, cl, eI, eP, eT, eN, eS, List.map, List.append, List.drop, List.take]
  refine K.seq_pure (K.fieldAddr_lit fo_28_0 rfl) rfl ?_
  dsimp only [setd, setn, ev, nth]
  refine K.seq_sil (K.load1_own one_3 rfl (K.m1) rfl) rfl ?_
  try dsimp only [setd, setn, ev, nth, over, cl, eI, eP, eT, eN, eS, List.map, List.append, List.drop, List.take]
  refine K.seq_pure (K.fieldAddr_lit fo_28_1 rfl) rfl ?_
  dsimp only [setd, setn, ev, nth]
  refine K.seq_sil (K.load1_own one_3 rfl (K.m1) rfl) rfl ?_
  try dsimp only [setd, setn, ev, nth, over, cl, eI, eP, eT, eN, eS, List.map, List.append, List.drop, List.take]
  refine K.seq_pure (K.fieldAddr_lit fo_28_2 rfl) rfl ?_
  dsimp only [setd, setn, ev, nth]
  refine K.seq_sil (K.load1_own one_3 rfl (K.m1) rfl) rfl ?_
  try dsimp only [setd, setn, ev, nth, over, cl, eI, eP, eT, eN, eS, List.map, List.append, List.drop, List.take]
  refine K.seq_loud (K.call_f cal_19 (fun F w hF hw => c19 (hH.pass hw) (hP.pass hw) (hS.pass hw) hn hm hk hsb)) rfl ?_
  rintro ⟨A2, a2⟩ hq2
  try dsimp only [setd, setn, ev, nth, over, cl, eI, eP, eT, eN, eS, List.map, List.append, List.drop, List.take]
  refine K.seq_pure (K.move) rfl ?_
  dsimp only [setd, setn, ev, nth]
  refine K.seq_pure (K.extract rfl rfl) rfl ?_
  dsimp only [setd, setn, ev, nth]
  refine K.seq_pure (K.extract rfl rfl) rfl ?_
  dsimp only [setd, setn, ev, nth]
  refine K.seq_pure (K.assign) rfl ?_
  dsimp only [setd, setn, ev, nth]
  refine K.seq_pure (K.assign) rfl ?_
  dsimp only [setd, setn, ev, nth]
  refine K.seq_nil ?_
  refine K.norm_then ?_
  refine K.seq ?_
  refine K.seq ?_
  refine K.region_lit ?_
  refine K.seq_pure (K.move) rfl ?_
  dsimp only [setd, setn, ev, nth]
  refine K.seq_pure (K.move) rfl ?_
  dsimp only [setd, setn, ev, nth]
  refine K.seq_call (K.call_g cal_20 (fun F w hF hw => (by have hA := (K.Rd.own (e := K.eI) hw (hF _ (K.m1)) hq1 (fun _ => rfl) (by decide)); have hB := (K.Rd.own (e := K.eI) hw (hF _ (K.m0)) hq2 (fun _ => rfl) (by decide)); exact c20t (xs := (hidL m s eye p)) hA hB hl1))) rfl ?_
  try dsimp only [setd, setn, ev, nth, over, cl, eI, eP, eT, eN, eS, List.map, List.append, List.drop, List.take]
  first | refine K.seq_pure (K.Pure.eq (K.not_d rfl) (show _ = Value.bool false from rfl)) rfl ?_ | refine K.seq_pure (K.Pure.eq (K.not_ rfl) (show _ = Value.bool false from rfl)) rfl ?_
  try dsimp only [setd, setn, ev, nth, over, cl, eI, eP, eT, eN, eS, List.map, List.append, List.drop, List.take]
  refine K.seq_pure (K.move) rfl ?_
  dsimp only [setd, setn, ev, nth]
  refine K.seq_pure (K.move) rfl ?_
  dsimp only [setd, setn, ev, nth]
  refine K.seq_pure (K.move) rfl ?_
  dsimp only [setd, setn, ev, nth]
  refine K.seq_pure (K.Pure.eq (K.neq rfl rfl) (show _ = Value.bool false from congrArg Value.bool (by simp))) rfl ?_
  dsimp only [setd, setn, ev, nth]
  refine K.seq_pure (K.pick_f rfl) rfl ?_
  dsimp only [setd, setn, ev, nth]
  refine K.seq_nil ?_
  refine K.norm_then ?_
  refine K.cond_false rfl ?_
  refine K.skip ?_
  refine K.norm_then ?_
  refine K.seq ?_
  refine K.region_lit ?_
  refine K.seq_sil (K.loadA_own ag_26 rfl (K.m3) rfl) rfl ?_
  try dsimp only [setd, setn, ev, nth, over, cl, eI, eP, eT, eN, eS, List.map, List.append, List.drop, List.take]
  refine K.seq_pure (K.fieldAddr_lit fo_28_0 rfl) rfl ?_
  dsimp only [setd, setn, ev, nth]
  refine K.seq_sil (K.load1_own one_3 rfl (K.m2) rfl) rfl ?_
  try dsimp only [setd, setn, ev, nth, over, cl, eI, eP, eT, eN, eS, List.map, List.append, List.drop, List.take]
  refine K.seq_loud (K.call_f cal_21 (fun F w hF hw => c21 (hH.pass hw) (hP.pass hw) (hS.pass hw) hn hm hk hcd (hT.pass hw))) rfl ?_
  rintro ⟨⟨A3, a3⟩, ⟨A4, a4⟩⟩ ⟨hq3, hq4⟩
  try dsimp only [setd, setn, ev, nth, over, cl, eI, eP, eT, eN, eS, List.map, List.append, List.drop, List.take]
  refine K.seq_pure (K.move) rfl ?_
  dsimp only [setd, setn, ev, nth]
  refine K.seq_pure (K.extract rfl rfl) rfl ?_
  dsimp only [setd, setn, ev, nth]
  refine K.seq_pure (K.extract rfl rfl) rfl ?_
  dsimp only [setd, setn, ev, nth]
  refine K.seq_pure (K.extract rfl rfl) rfl ?_
  dsimp only [setd, setn, ev, nth]
  refine K.seq_pure (K.assign) rfl ?_
  dsimp only [setd, setn, ev, nth]
  refine K.seq_pure (K.assign) rfl ?_
  dsimp only [setd, setn, ev, nth]
  refine K.seq_pure (K.assign) rfl ?_
  dsimp only [setd, setn, ev, nth]
  refine K.seq_nil ?_
  refine K.norm_then ?_
  refine K.seq ?_
  refine K.region_lit ?_
  refine K.seq_sil (K.loadA_own ag_26 rfl (K.m5) rfl) rfl ?_
  try dsimp only [setd, setn, ev, nth, over, cl, eI, eP, eT, eN, eS, List.map, List.append, List.drop, List.take]
  refine K.seq_pure (K.fieldAddr_lit fo_28_0 rfl) rfl ?_
  dsimp only [setd, setn, ev, nth]
  refine K.seq_sil (K.load1_own one_3 rfl (K.m4) rfl) rfl ?_
  try dsimp only [setd, setn, ev, nth, over, cl, eI, eP, eT, eN, eS, List.map, List.append, List.drop, List.take]
  refine K.seq_loud (K.call_f cal_22 (fun F w hF hw => c22 (hH.pass hw) (hP.pass hw) (hS.pass hw) hn hm hk)) rfl ?_
  rintro ⟨⟨A5, a5⟩, ⟨A6, a6⟩⟩ ⟨hq5, hq6⟩
  try dsimp only [setd, setn, ev, nth, over, cl, eI, eP, eT, eN, eS, List.map, List.append, List.drop, List.take]
  refine K.seq_pure (K.move) rfl ?_
  dsimp only [setd, setn, ev, nth]
  refine K.seq_pure (K.extract rfl rfl) rfl ?_
  dsimp only [setd, setn, ev, nth]
  refine K.seq_pure (K.extract rfl rfl) rfl ?_
  dsimp only [setd, setn, ev, nth]
  refine K.seq_pure (K.extract rfl rfl) rfl ?_
  dsimp only [setd, setn, ev, nth]
  refine K.seq_pure (K.assign) rfl ?_
  dsimp only [setd, setn, ev, nth]
  refine K.seq_pure (K.assign) rfl ?_
  dsimp only [setd, setn, ev, nth]
  refine K.seq_pure (K.assign) rfl ?_
  dsimp only [setd, setn, ev, nth]
  refine K.seq_nil ?_
  refine K.norm_then ?_
  refine K.seq ?_
  refine K.seq ?_
  refine K.region_lit ?_
  refine K.seq_pure (K.move) rfl ?_
  dsimp only [setd, setn, ev, nth]
  refine K.seq_pure (K.move) rfl ?_
  dsimp only [setd, setn, ev, nth]
  refine K.seq_call (K.call_g cal_20 (fun F w hF hw => (by have hA := (K.Rd.own (e := K.eI) hw (hF _ (K.m3)) hq3 (fun _ => rfl) (by decide)); have hB := (K.Rd.own (e := K.eI) hw (hF _ (K.m1)) hq5 (fun _ => rfl) (by decide)); exact c20t (xs := (sureL m s)) hA hB hl2))) rfl ?_
  try dsimp only [setd, setn, ev, nth, over, cl, eI, eP, eT, eN, eS, List.map, List.append, List.drop, List.take]
  first | refine K.seq_pure (K.Pure.eq (K.not_d rfl) (show _ = Value.bool false from rfl)) rfl ?_ | refine K.seq_pure (K.Pure.eq (K.not_ rfl) (show _ = Value.bool false from rfl)) rfl ?_
  try dsimp only [setd, setn, ev, nth, over, cl, eI, eP, eT, eN, eS, List.map, List.append, List.drop, List.take]
  refine K.seq_pure (K.move) rfl ?_
  dsimp only [setd, setn, ev, nth]
  refine K.seq_pure (K.move) rfl ?_
  dsimp only [setd, setn, ev, nth]
  refine K.seq_pure (K.move) rfl ?_
  dsimp only [setd, setn, ev, nth]
  refine K.seq_call (K.call_g cal_20 (fun F w hF hw => (by have hA := (K.Rd.own (e := K.eI) hw (hF _ (K.m2)) hq4 (fun _ => rfl) (by decide)); have hB := (K.Rd.own (e := K.eI) hw (hF _ (K.m0)) hq6 (fun _ => rfl) (by decide)); exact c20t (xs := (mayL m s)) hA hB hl3))) rfl ?_
  try dsimp only [setd, setn, ev, nth, over, cl, eI, eP, eT, eN, eS, List.map, List.append, List.drop, List.take]
  first | refine K.seq_pure (K.Pure.eq (K.not_d rfl) (show _ = Value.bool false from rfl)) rfl ?_ | refine K.seq_pure (K.Pure.eq (K.not_ rfl) (show _ = Value.bool false from rfl)) rfl ?_
  try dsimp only [setd, setn, ev, nth, over, cl, eI, eP, eT, eN, eS, List.map, List.append, List.drop, List.take]
  refine K.seq_pure (K.pick_f rfl) rfl ?_
  dsimp only [setd, setn, ev, nth]
  refine K.seq_pure (K.move) rfl ?_
  dsimp only [setd, setn, ev, nth]
  refine K.seq_pure (K.move) rfl ?_
  dsimp only [setd, setn, ev, nth]
  refine K.seq_pure (K.move) rfl ?_
  dsimp only [setd, setn, ev, nth]
  refine K.seq_pure (K.Pure.eq (K.neq rfl rfl) (show _ = Value.bool false from congrArg Value.bool (by simp))) rfl ?_
  dsimp only [setd, setn, ev, nth]
  refine K.seq_pure (K.pick_f rfl) rfl ?_
  dsimp only [setd, setn, ev, nth]
  refine K.seq_nil ?_
  refine K.norm_then ?_
  refine K.cond_false rfl ?_
  refine K.skip ?_
  refine K.norm_then ?_
  refine K.seq ?_
  refine K.region_lit ?_
  refine K.seq_sil (K.loadA_own ag_26 rfl (K.m7) rfl) rfl ?_
  try dsimp only [setd, setn, ev, nth, over, cl, eI, eP, eT, eN, eS, List.map, List.append, List.drop, List.take]
  refine K.seq_pure (K.fieldAddr_lit fo_28_0 rfl) rfl ?_
  dsimp only [setd, setn, ev, nth]
  refine K.seq_sil (K.load1_own one_3 rfl (K.m6) rfl) rfl ?_
  try dsimp only [setd, setn, ev, nth, over, cl, eI, eP, eT, eN, eS, List.map, List.append, List.drop, List.take]
  refine K.seq_pure (K.fieldAddr_lit fo_28_2 rfl) rfl ?_
  dsimp only [setd, setn, ev, nth]
  refine K.seq_sil (K.load1_own one_3 rfl (K.m6) rfl) rfl ?_
  try dsimp only [setd, setn, ev, nth, over, cl, eI, eP, eT, eN, eS, List.map, List.append, List.drop, List.take]
  refine K.seq_call (K.call_g cal_23 (fun F w hF hw => c23 (hH.pass hw) (hP.pass hw) (hS.pass hw) hn hm hk hcd)) rfl ?_
  try dsimp only [setd, setn, ev, nth, over, cl, eI, eP, eT, eN, eS, List.map, List.append, List.drop, List.take]
  refine K.seq_pure (K.move) rfl ?_
  dsimp only [setd, setn, ev, nth]
  refine K.seq_pure (K.extract rfl rfl) rfl ?_
  dsimp only [setd, setn, ev, nth]
  refine K.seq_pure (K.extract rfl rfl) rfl ?_
  dsimp only [setd, setn, ev, nth]
  refine K.seq_pure (K.assign) rfl ?_
  dsimp only [setd, setn, ev, nth]
  refine K.seq_pure (K.assign) rfl ?_
  dsimp only [setd, setn, ev, nth]
  refine K.seq_nil ?_
  refine K.norm_then ?_
  refine K.seq ?_
  refine K.region_lit ?_
  refine K.seq_sil (K.loadA_own ag_26 rfl (K.m7) rfl) rfl ?_
  try dsimp only [setd, setn, ev, nth, over, cl, eI, eP, eT, eN, eS, List.map, List.append, List.drop, List.take]
  refine K.seq_pure (K.fieldAddr_lit fo_28_0 rfl) rfl ?_
  dsimp only [setd, setn, ev, nth]
  refine K.seq_sil (K.load1_own one_3 rfl (K.m6) rfl) rfl ?_
  try dsimp only [setd, setn, ev, nth, over, cl, eI, eP, eT, eN, eS, List.map, List.append, List.drop, List.take]
  refine K.seq_pure (K.fieldAddr_lit fo_28_2 rfl) rfl ?_
  dsimp only [setd, setn, ev, nth]
  refine K.seq_sil (K.load1_own one_3 rfl (K.m6) rfl) rfl ?_
  try dsimp only [setd, setn, ev, nth, over, cl, eI, eP, eT, eN, eS, List.map, List.append, List.drop, List.take]
  refine K.seq_call (K.call_g cal_24 (fun F w hF hw => c24 (hH.pass hw) (hP.pass hw) (hS.pass hw) hn hm hk hsb)) rfl ?_
  try dsimp only [setd, setn, ev, nth, over, cl, eI, eP, eT, eN, eS, List.map, List.append, List.drop, List.take]
  refine K.seq_pure (K.move) rfl ?_
  dsimp only [setd, setn, ev, nth]
  refine K.seq_pure (K.extract rfl rfl) rfl ?_
  dsimp only [setd, setn, ev, nth]
  refine K.seq_pure (K.extract rfl rfl) rfl ?_
  dsimp only [setd, setn, ev, nth]
  refine K.seq_pure (K.assign) rfl ?_
  dsimp only [setd, setn, ev, nth]
  refine K.seq_pure (K.assign) rfl ?_
  dsimp only [setd, setn, ev, nth]
  refine K.seq_nil ?_
  refine K.norm_then ?_
  refine K.seq ?_
  refine K.region_lit ?_
  refine K.seq_pure (K.move) rfl ?_
  dsimp only [setd, setn, ev, nth]
  refine K.seq_pure (K.move) rfl ?_
  dsimp only [setd, setn, ev, nth]
  refine K.seq_pure (K.Pure.eq (K.eql rfl rfl) (show _ = Value.bool true from congrArg Value.bool (by simp))) rfl ?_
  dsimp only [setd, setn, ev, nth]
  refine K.seq_pure (K.move) rfl ?_
  dsimp only [setd, setn, ev, nth]
  refine K.seq_pure (K.move) rfl ?_
  dsimp only [setd, setn, ev, nth]
  refine K.seq_pure (K.move) rfl ?_
  dsimp only [setd, setn, ev, nth]
  refine K.seq_pure (K.Pure.eq (K.eql rfl rfl) (show _ = Value.bool true from congrArg Value.bool (by simp))) rfl ?_
  dsimp only [setd, setn, ev, nth]
  refine K.seq_pure (K.pick_t rfl) rfl ?_
  dsimp only [setd, setn, ev, nth]
  refine K.seq_pure (K.move) rfl ?_
  dsimp only [setd, setn, ev, nth]
  refine K.seq_call (K.call_g cal_25 (fun F w hF hw => c25 (hT.pass hw))) rfl ?_
  try dsimp only [setd, setn, ev, nth, over, cl, eI, eP, eT, eN, eS, List.map, List.append, List.drop, List.take]
  refine K.seq_pure (K.pick_t rfl) rfl ?_
  dsimp only [setd, setn, ev, nth]
  refine K.seq_pure (K.assign) rfl ?_
  dsimp only [setd, setn, ev, nth]
  refine K.seq_nil ?_
  refine K.norm_then ?_
  refine K.ret ?_
  refine K.end_ret (fun w _ => K.res_tmp rfl w) ?_
  exact K.gives rfl

end Go.Proofs.YthkgnhcknkjgdaaDoor
