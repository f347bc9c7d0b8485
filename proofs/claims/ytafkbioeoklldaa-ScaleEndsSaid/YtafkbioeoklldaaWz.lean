/-
  Walks of the program's functions, printed by program: what each returns.
  Conditions stand in each theorem.
-/
import Derived.Test.YtafkbioeoklldaaKf
import Derived.Test.YtafkbioeoklldaaKh
import Derived.Test.YtafkbioeoklldaaKl
import Derived.Test.YtafkbioeoklldaaKi
import Derived.WalkArith
import Derived.Test.YtafkbioeoklldaaWy
namespace Go.Proofs.Ytafkbioeoklldaa
open Go.RowKit Go
attribute [local irreducible] K.blk K.row

theorem flatsR_len {kind base most u v : Int} {hs : List Int} {rs : List (Int × Int)} : (flatsR kind base most hs rs u v).length ≤ rs.length := by
  unfold flatsR; split
  · exact selN_len
  · simp
theorem apartR_len {kind base most u v u2 v2 : Int} {hs : List Int} {rs : List (Int × Int)} : (apartR kind base most hs rs u v u2 v2).length ≤ hs.length := by
  unfold apartR; split
  · have := @selN_len (fun i => decide ((cuts kind base u v hs).getD i default ≠ (cuts kind base u2 v2 hs).getD i default)) (cuts kind base u v hs).length
    rw [cuts_len] at this
    unfold diffs; rw [cuts_len]; exact this
  · simp


set_option maxRecDepth 100000 in
theorem c3 {kind base most : Int} {A B : Option Addr} {c d : Nat} {hs : List Int} {rs : List (Int × Int)} {u v u2 v2 : Int} {w : World} (hH : K.Rd w A 1 K.eI hs) (hR : K.Rd w B 2 K.eP rs) (hn : hs.length ≤ 4611686018427387904) (hm : rs.length ≤ 4611686018427387904) :
    Calls Try.prog 3 [.agg #[.int .i64 kind, .int .i64 base, .int .i64 most, .slice A hs.length c, .slice B rs.length d], .agg #[.int .i64 u, .int .i64 v], .agg #[.int .i64 u2, .int .i64 v2]].toArray w (K.Gives (.bool true) w) := by
  refine K.enter (args := [.agg #[.int .i64 kind, .int .i64 base, .int .i64 most, .slice A hs.length c, .slice B rs.length d], .agg #[.int .i64 u, .int .i64 v], .agg #[.int .i64 u2, .int .i64 v2]]) Try.func3 rfl (n := 125) rfl ?_
  simp only [List.replicate, List.cons_append, List.nil_append]
  refine K.seq ?_
  refine K.region_lit ?_
  refine K.seq_new (K.box) rfl ?_
  intro b3
  try dsimp only [K.setd, K.setn, K.ev, K.nth, K.over, K.cl, K.eI, K.eP, K.eT, List.map, List.append, List.drop, List.take]
  refine K.seq_new (K.box) rfl ?_
  intro b4
  try dsimp only [K.setd, K.setn, K.ev, K.nth, K.over, K.cl, K.eI, K.eP, K.eT, List.map, List.append, List.drop, List.take]
  refine K.seq_new (K.box) rfl ?_
  intro b5
  try dsimp only [K.setd, K.setn, K.ev, K.nth, K.over, K.cl, K.eI, K.eP, K.eT, List.map, List.append, List.drop, List.take]
  refine K.seq_pure (K.assign) rfl ?_
  dsimp only [K.setd, K.setn, K.ev, K.nth]
  refine K.seq_nil ?_
  refine K.norm_then ?_
  refine K.seq ?_
  refine K.region_lit ?_
  refine K.seq_sil (K.loadA_own ag_25 rfl (List.Mem.tail _ (List.Mem.tail _ (List.Mem.head _))) rfl) rfl ?_
  try dsimp only [K.setd, K.setn, K.ev, K.nth, K.over, K.cl, K.eI, K.eP, K.eT, List.map, List.append, List.drop, List.take]
  refine K.seq_call (K.call_g cal_15 (fun F w hF hw => c15 (hH.pass hw) (hR.pass hw) hn hm)) rfl ?_
  try dsimp only [K.setd, K.setn, K.ev, K.nth, K.over, K.cl, K.eI, K.eP, K.eT, List.map, List.append, List.drop, List.take]
  refine K.seq_pure (K.move) rfl ?_
  dsimp only [K.setd, K.setn, K.ev, K.nth]
  refine K.seq_pure (K.extract rfl rfl) rfl ?_
  dsimp only [K.setd, K.setn, K.ev, K.nth]
  refine K.seq_pure (K.extract rfl rfl) rfl ?_
  dsimp only [K.setd, K.setn, K.ev, K.nth]
  refine K.seq_pure (K.extract rfl rfl) rfl ?_
  dsimp only [K.setd, K.setn, K.ev, K.nth]
  refine K.seq_pure (K.assign) rfl ?_
  dsimp only [K.setd, K.setn, K.ev, K.nth]
  refine K.seq_pure (K.assign) rfl ?_
  dsimp only [K.setd, K.setn, K.ev, K.nth]
  refine K.seq_pure (K.assign) rfl ?_
  dsimp only [K.setd, K.setn, K.ev, K.nth]
  refine K.seq_nil ?_
  refine K.norm_then ?_
  refine K.seq ?_
  refine K.region_lit ?_
  refine K.seq_sil (K.loadA_own ag_25 rfl (List.Mem.tail _ (List.Mem.tail _ (List.Mem.head _))) rfl) rfl ?_
  try dsimp only [K.setd, K.setn, K.ev, K.nth, K.over, K.cl, K.eI, K.eP, K.eT, List.map, List.append, List.drop, List.take]
  refine K.seq_call (K.call_g cal_16 (fun F w hF hw => c16 (hH.pass hw) (hR.pass hw) hn hm)) rfl ?_
  try dsimp only [K.setd, K.setn, K.ev, K.nth, K.over, K.cl, K.eI, K.eP, K.eT, List.map, List.append, List.drop, List.take]
  refine K.seq_pure (K.move) rfl ?_
  dsimp only [K.setd, K.setn, K.ev, K.nth]
  refine K.seq_pure (K.extract rfl rfl) rfl ?_
  dsimp only [K.setd, K.setn, K.ev, K.nth]
  refine K.seq_pure (K.extract rfl rfl) rfl ?_
  dsimp only [K.setd, K.setn, K.ev, K.nth]
  refine K.seq_pure (K.extract rfl rfl) rfl ?_
  dsimp only [K.setd, K.setn, K.ev, K.nth]
  refine K.seq_pure (K.assign) rfl ?_
  dsimp only [K.setd, K.setn, K.ev, K.nth]
  refine K.seq_pure (K.assign) rfl ?_
  dsimp only [K.setd, K.setn, K.ev, K.nth]
  refine K.seq_pure (K.assign) rfl ?_
  dsimp only [K.setd, K.setn, K.ev, K.nth]
  refine K.seq_nil ?_
  refine K.norm_then ?_
  refine K.seq ?_
  refine K.seq ?_
  refine K.region_lit ?_
  refine K.seq_pure (K.move) rfl ?_
  dsimp only [K.setd, K.setn, K.ev, K.nth]
  refine K.seq_pure (K.move) rfl ?_
  dsimp only [K.setd, K.setn, K.ev, K.nth]
  refine K.seq_pure (K.Pure.eq (K.neq rfl rfl) (show _ = Value.bool false from congrArg Value.bool (decide_eq_false (fun h => h rfl)))) rfl ?_
  dsimp only [K.setd, K.setn, K.ev, K.nth]
  refine K.seq_pure (K.move) rfl ?_
  dsimp only [K.setd, K.setn, K.ev, K.nth]
  refine K.seq_pure (K.move) rfl ?_
  dsimp only [K.setd, K.setn, K.ev, K.nth]
  refine K.seq_pure (K.move) rfl ?_
  dsimp only [K.setd, K.setn, K.ev, K.nth]
  refine K.seq_pure (K.Pure.eq (K.neq rfl rfl) (show _ = Value.bool false from congrArg Value.bool (decide_eq_false (fun h => h rfl)))) rfl ?_
  dsimp only [K.setd, K.setn, K.ev, K.nth]
  refine K.seq_pure (K.pick_f rfl) rfl ?_
  dsimp only [K.setd, K.setn, K.ev, K.nth]
  refine K.seq_pure (K.move) rfl ?_
  dsimp only [K.setd, K.setn, K.ev, K.nth]
  refine K.seq_pure (K.move) rfl ?_
  dsimp only [K.setd, K.setn, K.ev, K.nth]
  refine K.seq_pure (K.move) rfl ?_
  dsimp only [K.setd, K.setn, K.ev, K.nth]
  refine K.seq_pure (K.Pure.eq (K.neq rfl rfl) (show _ = Value.bool false from congrArg Value.bool (decide_eq_false (fun h => h rfl)))) rfl ?_
  dsimp only [K.setd, K.setn, K.ev, K.nth]
  refine K.seq_pure (K.pick_f rfl) rfl ?_
  dsimp only [K.setd, K.setn, K.ev, K.nth]
  refine K.seq_nil ?_
  refine K.norm_then ?_
  refine K.cond_false rfl ?_
  refine K.skip ?_
  refine K.norm_then ?_
  refine K.seq ?_
  refine K.region_lit ?_
  refine K.seq_sil (K.loadA_own ag_25 rfl (List.Mem.tail _ (List.Mem.tail _ (List.Mem.head _))) rfl) rfl ?_
  try dsimp only [K.setd, K.setn, K.ev, K.nth, K.over, K.cl, K.eI, K.eP, K.eT, List.map, List.append, List.drop, List.take]
  refine K.seq_sil (K.loadA_own ag_27 rfl (List.Mem.tail _ (List.Mem.head _)) rfl) rfl ?_
  try dsimp only [K.setd, K.setn, K.ev, K.nth, K.over, K.cl, K.eI, K.eP, K.eT, List.map, List.append, List.drop, List.take]
  refine K.seq_loud (K.call_f cal_17 (fun F w hF hw => c17 (u := u) (v := v) (hH.pass hw) (hR.pass hw) hn hm)) rfl ?_
  rintro ⟨A1, c1⟩ hA1
  try dsimp only [K.setd, K.setn, K.ev, K.nth, K.over, K.cl, K.eI, K.eP, K.eT, List.map, List.append, List.drop, List.take]
  refine K.seq_pure (K.move) rfl ?_
  dsimp only [K.setd, K.setn, K.ev, K.nth]
  refine K.seq_pure (K.extract rfl rfl) rfl ?_
  dsimp only [K.setd, K.setn, K.ev, K.nth]
  refine K.seq_pure (K.extract rfl rfl) rfl ?_
  dsimp only [K.setd, K.setn, K.ev, K.nth]
  refine K.seq_pure (K.assign) rfl ?_
  dsimp only [K.setd, K.setn, K.ev, K.nth]
  refine K.seq_pure (K.assign) rfl ?_
  dsimp only [K.setd, K.setn, K.ev, K.nth]
  refine K.seq_nil ?_
  refine K.norm_then ?_
  refine K.seq ?_
  refine K.region_lit ?_
  refine K.seq_sil (K.loadA_own ag_25 rfl (List.Mem.tail _ (List.Mem.tail _ (List.Mem.tail _ (List.Mem.head _)))) rfl) rfl ?_
  try dsimp only [K.setd, K.setn, K.ev, K.nth, K.over, K.cl, K.eI, K.eP, K.eT, List.map, List.append, List.drop, List.take]
  refine K.seq_sil (K.loadA_own ag_27 rfl (List.Mem.tail _ (List.Mem.tail _ (List.Mem.head _))) rfl) rfl ?_
  try dsimp only [K.setd, K.setn, K.ev, K.nth, K.over, K.cl, K.eI, K.eP, K.eT, List.map, List.append, List.drop, List.take]
  refine K.seq_loud (K.call_f cal_18 (fun F w hF hw => c18 (u := u) (v := v) (hH.pass hw) (hR.pass hw) hn hm)) rfl ?_
  rintro ⟨A2, c2⟩ hA2
  try dsimp only [K.setd, K.setn, K.ev, K.nth, K.over, K.cl, K.eI, K.eP, K.eT, List.map, List.append, List.drop, List.take]
  refine K.seq_pure (K.move) rfl ?_
  dsimp only [K.setd, K.setn, K.ev, K.nth]
  refine K.seq_pure (K.extract rfl rfl) rfl ?_
  dsimp only [K.setd, K.setn, K.ev, K.nth]
  refine K.seq_pure (K.extract rfl rfl) rfl ?_
  dsimp only [K.setd, K.setn, K.ev, K.nth]
  refine K.seq_pure (K.assign) rfl ?_
  dsimp only [K.setd, K.setn, K.ev, K.nth]
  refine K.seq_pure (K.assign) rfl ?_
  dsimp only [K.setd, K.setn, K.ev, K.nth]
  refine K.seq_nil ?_
  refine K.norm_then ?_
  refine K.seq ?_
  refine K.seq ?_
  refine K.region_lit ?_
  refine K.seq_pure (K.move) rfl ?_
  dsimp only [K.setd, K.setn, K.ev, K.nth]
  refine K.seq_pure (K.move) rfl ?_
  dsimp only [K.setd, K.setn, K.ev, K.nth]
  refine K.seq_call (K.call_g cal_19 (fun F w hF hw => c19t (xs := (cutsR kind base most hs rs u v)) (K.Rd.own hw (hF _ (List.Mem.tail _ (List.Mem.head _))) hA1 (fun _ => rfl) (by decide)) (K.Rd.own hw (hF _ (List.Mem.head _)) hA2 (fun _ => rfl) (by decide)) (by have := @cutsR_len kind base most u v hs rs; omega))) rfl ?_
  try dsimp only [K.setd, K.setn, K.ev, K.nth, K.over, K.cl, K.eI, K.eP, K.eT, List.map, List.append, List.drop, List.take]
  refine K.seq_pure (K.Pure.eq (K.not_ rfl) (show _ = Value.bool false from rfl)) rfl ?_
  dsimp only [K.setd, K.setn, K.ev, K.nth]
  refine K.seq_pure (K.move) rfl ?_
  dsimp only [K.setd, K.setn, K.ev, K.nth]
  refine K.seq_pure (K.move) rfl ?_
  dsimp only [K.setd, K.setn, K.ev, K.nth]
  refine K.seq_pure (K.move) rfl ?_
  dsimp only [K.setd, K.setn, K.ev, K.nth]
  refine K.seq_pure (K.Pure.eq (K.neq rfl rfl) (show _ = Value.bool false from congrArg Value.bool (decide_eq_false (fun h => h rfl)))) rfl ?_
  dsimp only [K.setd, K.setn, K.ev, K.nth]
  refine K.seq_pure (K.pick_f rfl) rfl ?_
  dsimp only [K.setd, K.setn, K.ev, K.nth]
  refine K.seq_nil ?_
  refine K.norm_then ?_
  refine K.cond_false rfl ?_
  refine K.skip ?_
  refine K.norm_then ?_
  refine K.seq ?_
  refine K.region_lit ?_
  refine K.seq_sil (K.loadA_own ag_25 rfl (List.Mem.tail _ (List.Mem.tail _ (List.Mem.tail _ (List.Mem.tail _ (List.Mem.head _))))) rfl) rfl ?_
  try dsimp only [K.setd, K.setn, K.ev, K.nth, K.over, K.cl, K.eI, K.eP, K.eT, List.map, List.append, List.drop, List.take]
  refine K.seq_sil (K.loadA_own ag_27 rfl (List.Mem.tail _ (List.Mem.tail _ (List.Mem.tail _ (List.Mem.head _)))) rfl) rfl ?_
  try dsimp only [K.setd, K.setn, K.ev, K.nth, K.over, K.cl, K.eI, K.eP, K.eT, List.map, List.append, List.drop, List.take]
  refine K.seq_loud (K.call_f cal_20 (fun F w hF hw => c20 (u := u) (v := v) (hH.pass hw) (hR.pass hw) hn hm)) rfl ?_
  rintro ⟨A3, c3⟩ hA3
  try dsimp only [K.setd, K.setn, K.ev, K.nth, K.over, K.cl, K.eI, K.eP, K.eT, List.map, List.append, List.drop, List.take]
  refine K.seq_pure (K.move) rfl ?_
  dsimp only [K.setd, K.setn, K.ev, K.nth]
  refine K.seq_pure (K.extract rfl rfl) rfl ?_
  dsimp only [K.setd, K.setn, K.ev, K.nth]
  refine K.seq_pure (K.extract rfl rfl) rfl ?_
  dsimp only [K.setd, K.setn, K.ev, K.nth]
  refine K.seq_pure (K.assign) rfl ?_
  dsimp only [K.setd, K.setn, K.ev, K.nth]
  refine K.seq_pure (K.assign) rfl ?_
  dsimp only [K.setd, K.setn, K.ev, K.nth]
  refine K.seq_nil ?_
  refine K.norm_then ?_
  refine K.seq ?_
  refine K.region_lit ?_
  refine K.seq_sil (K.loadA_own ag_25 rfl (List.Mem.tail _ (List.Mem.tail _ (List.Mem.tail _ (List.Mem.tail _ (List.Mem.tail _ (List.Mem.head _)))))) rfl) rfl ?_
  try dsimp only [K.setd, K.setn, K.ev, K.nth, K.over, K.cl, K.eI, K.eP, K.eT, List.map, List.append, List.drop, List.take]
  refine K.seq_sil (K.loadA_own ag_27 rfl (List.Mem.tail _ (List.Mem.tail _ (List.Mem.tail _ (List.Mem.tail _ (List.Mem.head _))))) rfl) rfl ?_
  try dsimp only [K.setd, K.setn, K.ev, K.nth, K.over, K.cl, K.eI, K.eP, K.eT, List.map, List.append, List.drop, List.take]
  refine K.seq_loud (K.call_f cal_21 (fun F w hF hw => c21 (u := u) (v := v) (hH.pass hw) (hR.pass hw) hn hm)) rfl ?_
  rintro ⟨A4, c4⟩ hA4
  try dsimp only [K.setd, K.setn, K.ev, K.nth, K.over, K.cl, K.eI, K.eP, K.eT, List.map, List.append, List.drop, List.take]
  refine K.seq_pure (K.move) rfl ?_
  dsimp only [K.setd, K.setn, K.ev, K.nth]
  refine K.seq_pure (K.extract rfl rfl) rfl ?_
  dsimp only [K.setd, K.setn, K.ev, K.nth]
  refine K.seq_pure (K.extract rfl rfl) rfl ?_
  dsimp only [K.setd, K.setn, K.ev, K.nth]
  refine K.seq_pure (K.assign) rfl ?_
  dsimp only [K.setd, K.setn, K.ev, K.nth]
  refine K.seq_pure (K.assign) rfl ?_
  dsimp only [K.setd, K.setn, K.ev, K.nth]
  refine K.seq_nil ?_
  refine K.norm_then ?_
  refine K.seq ?_
  refine K.seq ?_
  refine K.region_lit ?_
  refine K.seq_pure (K.move) rfl ?_
  dsimp only [K.setd, K.setn, K.ev, K.nth]
  refine K.seq_pure (K.move) rfl ?_
  dsimp only [K.setd, K.setn, K.ev, K.nth]
  refine K.seq_call (K.call_g cal_19 (fun F w hF hw => c19t (xs := (offsR kind base most hs rs u v)) (K.Rd.own hw (hF _ (List.Mem.tail _ (List.Mem.head _))) hA3 (fun _ => rfl) (by decide)) (K.Rd.own hw (hF _ (List.Mem.head _)) hA4 (fun _ => rfl) (by decide)) (by have := @offsR_len kind base most u v hs rs; omega))) rfl ?_
  try dsimp only [K.setd, K.setn, K.ev, K.nth, K.over, K.cl, K.eI, K.eP, K.eT, List.map, List.append, List.drop, List.take]
  refine K.seq_pure (K.Pure.eq (K.not_ rfl) (show _ = Value.bool false from rfl)) rfl ?_
  dsimp only [K.setd, K.setn, K.ev, K.nth]
  refine K.seq_pure (K.move) rfl ?_
  dsimp only [K.setd, K.setn, K.ev, K.nth]
  refine K.seq_pure (K.move) rfl ?_
  dsimp only [K.setd, K.setn, K.ev, K.nth]
  refine K.seq_pure (K.move) rfl ?_
  dsimp only [K.setd, K.setn, K.ev, K.nth]
  refine K.seq_pure (K.Pure.eq (K.neq rfl rfl) (show _ = Value.bool false from congrArg Value.bool (decide_eq_false (fun h => h rfl)))) rfl ?_
  dsimp only [K.setd, K.setn, K.ev, K.nth]
  refine K.seq_pure (K.pick_f rfl) rfl ?_
  dsimp only [K.setd, K.setn, K.ev, K.nth]
  refine K.seq_nil ?_
  refine K.norm_then ?_
  refine K.cond_false rfl ?_
  refine K.skip ?_
  refine K.norm_then ?_
  refine K.seq ?_
  refine K.region_lit ?_
  refine K.seq_sil (K.loadA_own ag_25 rfl (List.Mem.tail _ (List.Mem.tail _ (List.Mem.tail _ (List.Mem.tail _ (List.Mem.tail _ (List.Mem.tail _ (List.Mem.head _))))))) rfl) rfl ?_
  try dsimp only [K.setd, K.setn, K.ev, K.nth, K.over, K.cl, K.eI, K.eP, K.eT, List.map, List.append, List.drop, List.take]
  refine K.seq_sil (K.loadA_own ag_27 rfl (List.Mem.tail _ (List.Mem.tail _ (List.Mem.tail _ (List.Mem.tail _ (List.Mem.tail _ (List.Mem.head _)))))) rfl) rfl ?_
  try dsimp only [K.setd, K.setn, K.ev, K.nth, K.over, K.cl, K.eI, K.eP, K.eT, List.map, List.append, List.drop, List.take]
  refine K.seq_loud (K.call_f cal_22 (fun F w hF hw => c22 (u := u) (v := v) (hH.pass hw) (hR.pass hw) hn hm)) rfl ?_
  rintro ⟨A5, c5⟩ hA5
  try dsimp only [K.setd, K.setn, K.ev, K.nth, K.over, K.cl, K.eI, K.eP, K.eT, List.map, List.append, List.drop, List.take]
  refine K.seq_pure (K.move) rfl ?_
  dsimp only [K.setd, K.setn, K.ev, K.nth]
  refine K.seq_pure (K.extract rfl rfl) rfl ?_
  dsimp only [K.setd, K.setn, K.ev, K.nth]
  refine K.seq_pure (K.extract rfl rfl) rfl ?_
  dsimp only [K.setd, K.setn, K.ev, K.nth]
  refine K.seq_pure (K.assign) rfl ?_
  dsimp only [K.setd, K.setn, K.ev, K.nth]
  refine K.seq_pure (K.assign) rfl ?_
  dsimp only [K.setd, K.setn, K.ev, K.nth]
  refine K.seq_nil ?_
  refine K.norm_then ?_
  refine K.seq ?_
  refine K.region_lit ?_
  refine K.seq_sil (K.loadA_own ag_25 rfl (List.Mem.tail _ (List.Mem.tail _ (List.Mem.tail _ (List.Mem.tail _ (List.Mem.tail _ (List.Mem.tail _ (List.Mem.tail _ (List.Mem.head _)))))))) rfl) rfl ?_
  try dsimp only [K.setd, K.setn, K.ev, K.nth, K.over, K.cl, K.eI, K.eP, K.eT, List.map, List.append, List.drop, List.take]
  refine K.seq_sil (K.loadA_own ag_27 rfl (List.Mem.tail _ (List.Mem.tail _ (List.Mem.tail _ (List.Mem.tail _ (List.Mem.tail _ (List.Mem.tail _ (List.Mem.head _))))))) rfl) rfl ?_
  try dsimp only [K.setd, K.setn, K.ev, K.nth, K.over, K.cl, K.eI, K.eP, K.eT, List.map, List.append, List.drop, List.take]
  refine K.seq_loud (K.call_f cal_23 (fun F w hF hw => c23 (u := u) (v := v) (hH.pass hw) (hR.pass hw) hn hm)) rfl ?_
  rintro ⟨A6, c6⟩ hA6
  try dsimp only [K.setd, K.setn, K.ev, K.nth, K.over, K.cl, K.eI, K.eP, K.eT, List.map, List.append, List.drop, List.take]
  refine K.seq_pure (K.move) rfl ?_
  dsimp only [K.setd, K.setn, K.ev, K.nth]
  refine K.seq_pure (K.extract rfl rfl) rfl ?_
  dsimp only [K.setd, K.setn, K.ev, K.nth]
  refine K.seq_pure (K.extract rfl rfl) rfl ?_
  dsimp only [K.setd, K.setn, K.ev, K.nth]
  refine K.seq_pure (K.assign) rfl ?_
  dsimp only [K.setd, K.setn, K.ev, K.nth]
  refine K.seq_pure (K.assign) rfl ?_
  dsimp only [K.setd, K.setn, K.ev, K.nth]
  refine K.seq_nil ?_
  refine K.norm_then ?_
  refine K.seq ?_
  refine K.seq ?_
  refine K.region_lit ?_
  refine K.seq_pure (K.move) rfl ?_
  dsimp only [K.setd, K.setn, K.ev, K.nth]
  refine K.seq_pure (K.move) rfl ?_
  dsimp only [K.setd, K.setn, K.ev, K.nth]
  refine K.seq_call (K.call_g cal_19 (fun F w hF hw => c19t (xs := (flatsR kind base most hs rs u v)) (K.Rd.own hw (hF _ (List.Mem.tail _ (List.Mem.head _))) hA5 (fun _ => rfl) (by decide)) (K.Rd.own hw (hF _ (List.Mem.head _)) hA6 (fun _ => rfl) (by decide)) (by have := @flatsR_len kind base most u v hs rs; omega))) rfl ?_
  try dsimp only [K.setd, K.setn, K.ev, K.nth, K.over, K.cl, K.eI, K.eP, K.eT, List.map, List.append, List.drop, List.take]
  refine K.seq_pure (K.Pure.eq (K.not_ rfl) (show _ = Value.bool false from rfl)) rfl ?_
  dsimp only [K.setd, K.setn, K.ev, K.nth]
  refine K.seq_pure (K.move) rfl ?_
  dsimp only [K.setd, K.setn, K.ev, K.nth]
  refine K.seq_pure (K.move) rfl ?_
  dsimp only [K.setd, K.setn, K.ev, K.nth]
  refine K.seq_pure (K.move) rfl ?_
  dsimp only [K.setd, K.setn, K.ev, K.nth]
  refine K.seq_pure (K.Pure.eq (K.neq rfl rfl) (show _ = Value.bool false from congrArg Value.bool (decide_eq_false (fun h => h rfl)))) rfl ?_
  dsimp only [K.setd, K.setn, K.ev, K.nth]
  refine K.seq_pure (K.pick_f rfl) rfl ?_
  dsimp only [K.setd, K.setn, K.ev, K.nth]
  refine K.seq_nil ?_
  refine K.norm_then ?_
  refine K.cond_false rfl ?_
  refine K.skip ?_
  refine K.norm_then ?_
  refine K.seq ?_
  refine K.region_lit ?_
  refine K.seq_sil (K.loadA_own ag_25 rfl (List.Mem.tail _ (List.Mem.tail _ (List.Mem.tail _ (List.Mem.tail _ (List.Mem.tail _ (List.Mem.tail _ (List.Mem.tail _ (List.Mem.tail _ (List.Mem.head _))))))))) rfl) rfl ?_
  try dsimp only [K.setd, K.setn, K.ev, K.nth, K.over, K.cl, K.eI, K.eP, K.eT, List.map, List.append, List.drop, List.take]
  refine K.seq_sil (K.loadA_own ag_27 rfl (List.Mem.tail _ (List.Mem.tail _ (List.Mem.tail _ (List.Mem.tail _ (List.Mem.tail _ (List.Mem.tail _ (List.Mem.tail _ (List.Mem.head _)))))))) rfl) rfl ?_
  try dsimp only [K.setd, K.setn, K.ev, K.nth, K.over, K.cl, K.eI, K.eP, K.eT, List.map, List.append, List.drop, List.take]
  refine K.seq_sil (K.loadA_own ag_27 rfl (List.Mem.tail _ (List.Mem.tail _ (List.Mem.tail _ (List.Mem.tail _ (List.Mem.tail _ (List.Mem.tail _ (List.Mem.head _))))))) rfl) rfl ?_
  try dsimp only [K.setd, K.setn, K.ev, K.nth, K.over, K.cl, K.eI, K.eP, K.eT, List.map, List.append, List.drop, List.take]
  refine K.seq_loud (K.call_f cal_24 (fun F w hF hw => c24 (u := u) (v := v) (u2 := u2) (v2 := v2) (hH.pass hw) (hR.pass hw) hn hm)) rfl ?_
  rintro ⟨A7, c7⟩ hA7
  try dsimp only [K.setd, K.setn, K.ev, K.nth, K.over, K.cl, K.eI, K.eP, K.eT, List.map, List.append, List.drop, List.take]
  refine K.seq_pure (K.move) rfl ?_
  dsimp only [K.setd, K.setn, K.ev, K.nth]
  refine K.seq_pure (K.extract rfl rfl) rfl ?_
  dsimp only [K.setd, K.setn, K.ev, K.nth]
  refine K.seq_pure (K.extract rfl rfl) rfl ?_
  dsimp only [K.setd, K.setn, K.ev, K.nth]
  refine K.seq_pure (K.assign) rfl ?_
  dsimp only [K.setd, K.setn, K.ev, K.nth]
  refine K.seq_pure (K.assign) rfl ?_
  dsimp only [K.setd, K.setn, K.ev, K.nth]
  refine K.seq_nil ?_
  refine K.norm_then ?_
  refine K.seq ?_
  refine K.region_lit ?_
  refine K.seq_sil (K.loadA_own ag_25 rfl (List.Mem.tail _ (List.Mem.tail _ (List.Mem.tail _ (List.Mem.tail _ (List.Mem.tail _ (List.Mem.tail _ (List.Mem.tail _ (List.Mem.tail _ (List.Mem.tail _ (List.Mem.head _)))))))))) rfl) rfl ?_
  try dsimp only [K.setd, K.setn, K.ev, K.nth, K.over, K.cl, K.eI, K.eP, K.eT, List.map, List.append, List.drop, List.take]
  refine K.seq_sil (K.loadA_own ag_27 rfl (List.Mem.tail _ (List.Mem.tail _ (List.Mem.tail _ (List.Mem.tail _ (List.Mem.tail _ (List.Mem.tail _ (List.Mem.tail _ (List.Mem.tail _ (List.Mem.head _))))))))) rfl) rfl ?_
  try dsimp only [K.setd, K.setn, K.ev, K.nth, K.over, K.cl, K.eI, K.eP, K.eT, List.map, List.append, List.drop, List.take]
  refine K.seq_sil (K.loadA_own ag_27 rfl (List.Mem.tail _ (List.Mem.tail _ (List.Mem.tail _ (List.Mem.tail _ (List.Mem.tail _ (List.Mem.tail _ (List.Mem.tail _ (List.Mem.head _)))))))) rfl) rfl ?_
  try dsimp only [K.setd, K.setn, K.ev, K.nth, K.over, K.cl, K.eI, K.eP, K.eT, List.map, List.append, List.drop, List.take]
  refine K.seq_loud (K.call_f cal_25 (fun F w hF hw => c25 (u := u) (v := v) (u2 := u2) (v2 := v2) (hH.pass hw) (hR.pass hw) hn hm)) rfl ?_
  rintro ⟨A8, c8⟩ hA8
  try dsimp only [K.setd, K.setn, K.ev, K.nth, K.over, K.cl, K.eI, K.eP, K.eT, List.map, List.append, List.drop, List.take]
  refine K.seq_pure (K.move) rfl ?_
  dsimp only [K.setd, K.setn, K.ev, K.nth]
  refine K.seq_pure (K.extract rfl rfl) rfl ?_
  dsimp only [K.setd, K.setn, K.ev, K.nth]
  refine K.seq_pure (K.extract rfl rfl) rfl ?_
  dsimp only [K.setd, K.setn, K.ev, K.nth]
  refine K.seq_pure (K.assign) rfl ?_
  dsimp only [K.setd, K.setn, K.ev, K.nth]
  refine K.seq_pure (K.assign) rfl ?_
  dsimp only [K.setd, K.setn, K.ev, K.nth]
  refine K.seq_nil ?_
  refine K.norm_then ?_
  refine K.seq ?_
  refine K.region_lit ?_
  refine K.seq_pure (K.move) rfl ?_
  dsimp only [K.setd, K.setn, K.ev, K.nth]
  refine K.seq_pure (K.move) rfl ?_
  dsimp only [K.setd, K.setn, K.ev, K.nth]
  refine K.seq_call (K.call_g cal_19 (fun F w hF hw => c19t (xs := (apartR kind base most hs rs u v u2 v2)) (K.Rd.own hw (hF _ (List.Mem.tail _ (List.Mem.head _))) hA7 (fun _ => rfl) (by decide)) (K.Rd.own hw (hF _ (List.Mem.head _)) hA8 (fun _ => rfl) (by decide)) (by have := @apartR_len kind base most u v u2 v2 hs rs; omega))) rfl ?_
  try dsimp only [K.setd, K.setn, K.ev, K.nth, K.over, K.cl, K.eI, K.eP, K.eT, List.map, List.append, List.drop, List.take]
  refine K.seq_pure (K.move) rfl ?_
  dsimp only [K.setd, K.setn, K.ev, K.nth]
  refine K.seq_pure (K.move) rfl ?_
  dsimp only [K.setd, K.setn, K.ev, K.nth]
  refine K.seq_pure (K.move) rfl ?_
  dsimp only [K.setd, K.setn, K.ev, K.nth]
  refine K.seq_pure (K.Pure.eq (K.eql rfl rfl) (show _ = Value.bool true from congrArg Value.bool (decide_eq_true rfl))) rfl ?_
  dsimp only [K.setd, K.setn, K.ev, K.nth]
  refine K.seq_pure (K.pick_t rfl) rfl ?_
  dsimp only [K.setd, K.setn, K.ev, K.nth]
  refine K.seq_pure (K.move) rfl ?_
  dsimp only [K.setd, K.setn, K.ev, K.nth]
  refine K.seq_call (K.call_g cal_26 (fun F w hF hw => c26 w)) rfl ?_
  try dsimp only [K.setd, K.setn, K.ev, K.nth, K.over, K.cl, K.eI, K.eP, K.eT, List.map, List.append, List.drop, List.take]
  refine K.seq_pure (K.pick_t rfl) rfl ?_
  dsimp only [K.setd, K.setn, K.ev, K.nth]
  refine K.seq_pure (K.assign) rfl ?_
  dsimp only [K.setd, K.setn, K.ev, K.nth]
  refine K.seq_nil ?_
  refine K.norm_then ?_
  refine K.ret ?_
  refine K.end_ret (fun w _ => K.res_tmp rfl w) ?_
  exact K.gives rfl

set_option maxRecDepth 100000 in
theorem c4 {kind base most : Int} {A B : Option Addr} {c d : Nat} {hs : List Int} {rs : List (Int × Int)} {limit : Int} {w : World} (hH : K.Rd w A 1 K.eI hs) (hR : K.Rd w B 2 K.eP rs) (hn : hs.length ≤ 4611686018427387904) (hm : rs.length ≤ 4611686018427387904) :
    Calls Try.prog 4 [.agg #[.int .i64 kind, .int .i64 base, .int .i64 most, .slice A hs.length c, .slice B rs.length d], .int .i64 limit].toArray w (K.Gives (.bool true) w) := by
  refine K.enter (args := [.agg #[.int .i64 kind, .int .i64 base, .int .i64 most, .slice A hs.length c, .slice B rs.length d], .int .i64 limit]) Try.func4 rfl (n := 48) rfl ?_
  simp only [List.replicate, List.cons_append, List.nil_append]
  refine K.seq ?_
  refine K.region_lit ?_
  refine K.seq_new (K.box) rfl ?_
  intro b2
  try dsimp only [K.setd, K.setn, K.ev, K.nth, K.over, K.cl, K.eI, K.eP, K.eT, List.map, List.append, List.drop, List.take]
  refine K.seq_pure (K.assign) rfl ?_
  dsimp only [K.setd, K.setn, K.ev, K.nth]
  refine K.seq_nil ?_
  refine K.norm_then ?_
  refine K.seq ?_
  refine K.region_lit ?_
  refine K.seq_sil (K.loadA_own ag_25 rfl (List.Mem.head _) rfl) rfl ?_
  try dsimp only [K.setd, K.setn, K.ev, K.nth, K.over, K.cl, K.eI, K.eP, K.eT, List.map, List.append, List.drop, List.take]
  refine K.seq_pure (K.move) rfl ?_
  dsimp only [K.setd, K.setn, K.ev, K.nth]
  refine K.seq_call (K.call_g cal_27 (fun F w hF hw => c27 (limit := limit) (hH.pass hw) (hR.pass hw) hn hm)) rfl ?_
  try dsimp only [K.setd, K.setn, K.ev, K.nth, K.over, K.cl, K.eI, K.eP, K.eT, List.map, List.append, List.drop, List.take]
  refine K.seq_pure (K.move) rfl ?_
  dsimp only [K.setd, K.setn, K.ev, K.nth]
  refine K.seq_pure (K.extract rfl rfl) rfl ?_
  dsimp only [K.setd, K.setn, K.ev, K.nth]
  refine K.seq_pure (K.extract rfl rfl) rfl ?_
  dsimp only [K.setd, K.setn, K.ev, K.nth]
  refine K.seq_new (K.alloc zr_27) rfl ?_
  intro b5
  try dsimp only [K.setd, K.setn, K.ev, K.nth, K.over, K.cl, K.eI, K.eP, K.eT, List.map, List.append, List.drop, List.take]
  refine K.seq_st (K.store_all sz_27 rfl rfl rfl rfl (K.Rep.here)) rfl ?_
  try dsimp only [K.setd, K.setn, K.ev, K.nth, K.over, K.cl, K.eI, K.eP, K.eT, List.map, List.append, List.drop, List.take]
  refine K.seq_pure (K.assign) rfl ?_
  dsimp only [K.setd, K.setn, K.ev, K.nth]
  refine K.seq_nil ?_
  refine K.norm_then ?_
  refine K.seq ?_
  refine K.region_lit ?_
  refine K.seq_sil (K.loadA_own ag_25 rfl (List.Mem.tail _ (List.Mem.head _)) rfl) rfl ?_
  try dsimp only [K.setd, K.setn, K.ev, K.nth, K.over, K.cl, K.eI, K.eP, K.eT, List.map, List.append, List.drop, List.take]
  refine K.seq_pure (K.move) rfl ?_
  dsimp only [K.setd, K.setn, K.ev, K.nth]
  refine K.seq_call (K.call_g cal_28 (fun F w hF hw => c28 (limit := limit) (hH.pass hw) (hR.pass hw) hn hm)) rfl ?_
  try dsimp only [K.setd, K.setn, K.ev, K.nth, K.over, K.cl, K.eI, K.eP, K.eT, List.map, List.append, List.drop, List.take]
  refine K.seq_pure (K.move) rfl ?_
  dsimp only [K.setd, K.setn, K.ev, K.nth]
  refine K.seq_pure (K.extract rfl rfl) rfl ?_
  dsimp only [K.setd, K.setn, K.ev, K.nth]
  refine K.seq_pure (K.extract rfl rfl) rfl ?_
  dsimp only [K.setd, K.setn, K.ev, K.nth]
  refine K.seq_new (K.alloc zr_27) rfl ?_
  intro b7
  try dsimp only [K.setd, K.setn, K.ev, K.nth, K.over, K.cl, K.eI, K.eP, K.eT, List.map, List.append, List.drop, List.take]
  refine K.seq_st (K.store_all sz_27 rfl rfl rfl rfl (K.Rep.here)) rfl ?_
  try dsimp only [K.setd, K.setn, K.ev, K.nth, K.over, K.cl, K.eI, K.eP, K.eT, List.map, List.append, List.drop, List.take]
  refine K.seq_pure (K.assign) rfl ?_
  dsimp only [K.setd, K.setn, K.ev, K.nth]
  refine K.seq_nil ?_
  refine K.norm_then ?_
  refine K.seq ?_
  refine K.seq ?_
  refine K.region_lit ?_
  refine K.seq_sil (K.loadA_own ag_27 rfl (List.Mem.tail _ (List.Mem.head _)) rfl) rfl ?_
  try dsimp only [K.setd, K.setn, K.ev, K.nth, K.over, K.cl, K.eI, K.eP, K.eT, List.map, List.append, List.drop, List.take]
  refine K.seq_sil (K.loadA_own ag_27 rfl (List.Mem.head _) rfl) rfl ?_
  try dsimp only [K.setd, K.setn, K.ev, K.nth, K.over, K.cl, K.eI, K.eP, K.eT, List.map, List.append, List.drop, List.take]
  refine K.seq_pure (K.Pure.eq (K.neq_s2 s2_27 rfl rfl) (show _ = Value.bool false from congrArg Value.bool (decide_eq_false (fun h => h rfl)))) rfl ?_
  dsimp only [K.setd, K.setn, K.ev, K.nth]
  refine K.seq_pure (K.move) rfl ?_
  dsimp only [K.setd, K.setn, K.ev, K.nth]
  refine K.seq_pure (K.move) rfl ?_
  dsimp only [K.setd, K.setn, K.ev, K.nth]
  refine K.seq_pure (K.move) rfl ?_
  dsimp only [K.setd, K.setn, K.ev, K.nth]
  refine K.seq_pure (K.Pure.eq (K.neq rfl rfl) (show _ = Value.bool false from congrArg Value.bool (decide_eq_false (fun h => h rfl)))) rfl ?_
  dsimp only [K.setd, K.setn, K.ev, K.nth]
  refine K.seq_pure (K.pick_f rfl) rfl ?_
  dsimp only [K.setd, K.setn, K.ev, K.nth]
  refine K.seq_nil ?_
  refine K.norm_then ?_
  refine K.cond_false rfl ?_
  refine K.skip ?_
  refine K.norm_then ?_
  refine K.seq ?_
  refine K.region_lit ?_
  refine K.seq_sil (K.loadA_own ag_25 rfl (List.Mem.tail _ (List.Mem.tail _ (List.Mem.head _))) rfl) rfl ?_
  try dsimp only [K.setd, K.setn, K.ev, K.nth, K.over, K.cl, K.eI, K.eP, K.eT, List.map, List.append, List.drop, List.take]
  refine K.seq_call (K.call_g cal_29 (fun F w hF hw => c29 (hH.pass hw) (hR.pass hw) hn hm)) rfl ?_
  try dsimp only [K.setd, K.setn, K.ev, K.nth, K.over, K.cl, K.eI, K.eP, K.eT, List.map, List.append, List.drop, List.take]
  refine K.seq_pure (K.move) rfl ?_
  dsimp only [K.setd, K.setn, K.ev, K.nth]
  refine K.seq_pure (K.extract rfl rfl) rfl ?_
  dsimp only [K.setd, K.setn, K.ev, K.nth]
  refine K.seq_pure (K.extract rfl rfl) rfl ?_
  dsimp only [K.setd, K.setn, K.ev, K.nth]
  refine K.seq_st (K.store_all sz_27 rfl rfl rfl rfl (K.Rep.there (K.Rep.here))) rfl ?_
  try dsimp only [K.setd, K.setn, K.ev, K.nth, K.over, K.cl, K.eI, K.eP, K.eT, List.map, List.append, List.drop, List.take]
  refine K.seq_pure (K.assign) rfl ?_
  dsimp only [K.setd, K.setn, K.ev, K.nth]
  refine K.seq_nil ?_
  refine K.norm_then ?_
  refine K.seq ?_
  refine K.region_lit ?_
  refine K.seq_sil (K.loadA_own ag_25 rfl (List.Mem.tail _ (List.Mem.tail _ (List.Mem.head _))) rfl) rfl ?_
  try dsimp only [K.setd, K.setn, K.ev, K.nth, K.over, K.cl, K.eI, K.eP, K.eT, List.map, List.append, List.drop, List.take]
  refine K.seq_call (K.call_g cal_30 (fun F w hF hw => c30 (hH.pass hw) (hR.pass hw) hn hm)) rfl ?_
  try dsimp only [K.setd, K.setn, K.ev, K.nth, K.over, K.cl, K.eI, K.eP, K.eT, List.map, List.append, List.drop, List.take]
  refine K.seq_pure (K.move) rfl ?_
  dsimp only [K.setd, K.setn, K.ev, K.nth]
  refine K.seq_pure (K.extract rfl rfl) rfl ?_
  dsimp only [K.setd, K.setn, K.ev, K.nth]
  refine K.seq_pure (K.extract rfl rfl) rfl ?_
  dsimp only [K.setd, K.setn, K.ev, K.nth]
  refine K.seq_st (K.store_all sz_27 rfl rfl rfl rfl (K.Rep.here)) rfl ?_
  try dsimp only [K.setd, K.setn, K.ev, K.nth, K.over, K.cl, K.eI, K.eP, K.eT, List.map, List.append, List.drop, List.take]
  refine K.seq_pure (K.assign) rfl ?_
  dsimp only [K.setd, K.setn, K.ev, K.nth]
  refine K.seq_nil ?_
  refine K.norm_then ?_
  refine K.seq ?_
  refine K.region_lit ?_
  refine K.seq_sil (K.loadA_own ag_27 rfl (List.Mem.tail _ (List.Mem.head _)) rfl) rfl ?_
  try dsimp only [K.setd, K.setn, K.ev, K.nth, K.over, K.cl, K.eI, K.eP, K.eT, List.map, List.append, List.drop, List.take]
  refine K.seq_sil (K.loadA_own ag_27 rfl (List.Mem.head _) rfl) rfl ?_
  try dsimp only [K.setd, K.setn, K.ev, K.nth, K.over, K.cl, K.eI, K.eP, K.eT, List.map, List.append, List.drop, List.take]
  refine K.seq_pure (K.Pure.eq (K.eql_s2 s2_27 rfl rfl) (show _ = Value.bool true from congrArg Value.bool (decide_eq_true rfl))) rfl ?_
  dsimp only [K.setd, K.setn, K.ev, K.nth]
  refine K.seq_pure (K.move) rfl ?_
  dsimp only [K.setd, K.setn, K.ev, K.nth]
  refine K.seq_pure (K.move) rfl ?_
  dsimp only [K.setd, K.setn, K.ev, K.nth]
  refine K.seq_pure (K.move) rfl ?_
  dsimp only [K.setd, K.setn, K.ev, K.nth]
  refine K.seq_pure (K.Pure.eq (K.eql rfl rfl) (show _ = Value.bool true from congrArg Value.bool (decide_eq_true rfl))) rfl ?_
  dsimp only [K.setd, K.setn, K.ev, K.nth]
  refine K.seq_pure (K.pick_t rfl) rfl ?_
  dsimp only [K.setd, K.setn, K.ev, K.nth]
  refine K.seq_pure (K.move) rfl ?_
  dsimp only [K.setd, K.setn, K.ev, K.nth]
  refine K.seq_call (K.call_g cal_26 (fun F w hF hw => c26 w)) rfl ?_
  try dsimp only [K.setd, K.setn, K.ev, K.nth, K.over, K.cl, K.eI, K.eP, K.eT, List.map, List.append, List.drop, List.take]
  refine K.seq_pure (K.pick_t rfl) rfl ?_
  dsimp only [K.setd, K.setn, K.ev, K.nth]
  refine K.seq_pure (K.assign) rfl ?_
  dsimp only [K.setd, K.setn, K.ev, K.nth]
  refine K.seq_nil ?_
  refine K.norm_then ?_
  refine K.ret ?_
  refine K.end_ret (fun w _ => K.res_tmp rfl w) ?_
  exact K.gives rfl

end Go.Proofs.Ytafkbioeoklldaa
